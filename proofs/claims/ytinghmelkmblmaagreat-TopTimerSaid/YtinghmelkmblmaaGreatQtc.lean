/- Part 3 of the proof. -/
import Derived.Test.YtinghmelkmblmaaGreatQtb
namespace Go.Proofs.YtinghmelkmblmaaGreat
open Go.RowKit
set_option linter.unusedVariables false
set_option linter.unusedSimpArgs false
set_option maxRecDepth 100000
set_option maxHeartbeats 4000000
section
theorem qD (rates:List (Int×Int)) (pwn ptn pag:Int) (RA:Option Addr) (rcp:Nat) (l:List Use) (A:Option Addr) (cp:Nat) (w:World) (hr:InS w noF 2 RA rates.length (scell rates)) (hrn:rates.length≤9223372036854775807) (hl:InS w noF 6 A l.length (ucell l)) (hn:l.length≤9223372036854775807) (hok:PartOk (⟨rates,pwn,ptn,pag⟩:Part) l) :
    Calls Tryz.prog 191 [.agg [.slice RA rates.length rcp,.int .i64 pwn,.int .i64 ptn,.int .i64 pag].toArray,.slice A l.length cp].toArray w (Ret (fun v w'=>∃ n A' c',IsAt (⟨rates,pwn,ptn,pag⟩:Part) l n∧v = .tuple #[.slice A' n c',.int .i64 (n:Int)]∧St w noF [ownM 88 2 A' n c' (fcell (fun q=>fwd (⟨rates,pwn,ptn,pag⟩:Part) l (q+1)))] w')):=by
 refine enter Tryz.func191 rfl Tryz.ntmps191 rfl (fun a H=>?_)
 have S:=St.start w
 refine seq_list fun K1 k1=>?_
 refine aN H rfl S G G ?_;clear H a S;intro b2 _ a hb2 hbw2 S H
 refine ls 2 H<|sr 2 rfl<|sE ?_;clear H a;intro a H
 refine k1 _ _ ?_;clear k1 K1
 refine seq_list fun K2 k2=>?_
 refine aI H rfl S bW ?_;clear H a S;intro b6 _ a hb6 hbw6 S H
 refine k2 _ _ ?_;clear k2 K2
 refine wp_seq_k fun K3 k3=>?_
 refine sS H fun K4 k4=>sr 1 rfl<|sL cZ rfl<|sr 1 rfl<|sE ?_;clear H a;intro a H
 refine k4 _ ?_;clear k4 K4
 refine wp_block ?_
 replace S:=S.newNil 88 2 (fcell (fun q=>fwd (⟨rates,pwn,ptn,pag⟩:Part) l (q+1)))
 refine loop_st (X:=Nat×Option Addr×Nat) (R0:=_) [1,2,6,11,12] H rfl (fun ⟨k,A',c'⟩=>[(4,.slice A' k c'),(13,.int .i64 (k:Int))]) (fun ⟨k,A',c'⟩=>[boxM b6 88 [.int .i64 (fwd (⟨rates,pwn,ptn,pag⟩:Part) l k).1,.int .i64 (fwd (⟨rates,pwn,ptn,pag⟩:Part) l k).2],ownM 88 2 A' k c' (fcell (fun q=>fwd (⟨rates,pwn,ptn,pag⟩:Part) l (q+1)))]) (fun g ⟨k,A',c'⟩=>k≤l.length∧g+k=l.length∧∀ q,q<k→fits (⟨rates,pwn,ptn,pag⟩:Part) l q) (l.length) (0,none,0) ?_ (S.sel [1,0,2] G G) (H.keep [4,13,1,2,6,11,12] rfl) ?_
 · exact ⟨by omega,by omega,fun q hq=>by omega⟩
 clear H S a
 intro g1 x1 a w1 hp S H K5 k5
 obtain ⟨k,A',c'⟩:=x1
 dsimp only at hp S H
 refine sS H fun K6 k6=>sr 1 rfl<|sE ?_;clear H a;intro a H
 refine k6 _ ?_;clear k6 K6
 refine wp_seq_k fun K7 k7=>?_
 refine condL H rfl (fun hc1=>?_) (fun hc1=>?_)
 ·skip
  refine wp_skip ?_
  refine k7 _ _ ?_
  refine wp_seq_k fun K8 k8=>?_
  refine wp_block ?_
  have hu:=hok.use (k:=k) (by omega);unfold useOk at hu;simp only [decide_eq_true_eq] at hu
  have hgb:=jX hok (k:=k) (by omega)
  have hcls:0≤(l.getD k Use.zero).cls∧(l.getD k Use.zero).cls<rates.length:=by
    have:((⟨rates,pwn,ptn,pag⟩:Part).rates.length:Int)=rates.length:=rfl
    omega
  have hll:=hok.len
  have hfb:=wU hok k (by omega)
  refine seq_list fun K9 k9=>?_
  refine ls 3 H<|sr 1 rfl<|si cZ cR G G (hl.adr (by omega)) (by omega)<|sd ((aT jE cR rfl S hl (by omega) (by omega)))<|sE ?_;clear H a;intro a H
  refine aI H rfl S iY ?_;clear H a S;intro b8 _ a hb8 hbw8 S H
  refine ls 1 H<|sr 1 rfl<|sE ?_;clear H a;intro a H
  refine aC H S (i:=0) G G G G cR G G ?_
  clear H a S;intro _ a S H
  refine k9 _ _ ?_;clear k9 K9
  replace H:=H.keep [1,2,4,6,7,8,11,12,13] rfl
  refine seq_list fun K10 k10=>?_
  refine ls 2 H<|sd ((aB dQ eS rfl S (i:=3) G G))<|sd ((aB jE cR rfl S (i:=0) G G))<|sE ?_;clear H a;intro a H
  refine aA H G G Tryz.func192 G G (gC rates pwn ptn pag RA rcp (l.getD k Use.zero) _ (hr.now S) hrn hcls (by unfold i64ok;omega) (by unfold i64ok;omega)) ?_;clear H a
  rintro _ _ a ⟨rfl,S2⟩ H
  replace S:=S.call S2;clear S2
  refine aI H rfl S bW ?_;clear H a S;intro b9 _ a hb9 hbw9 S H
  refine aC H S (i:=0) G G G G aP G G ?_
  clear H a S;intro _ a S H
  refine k10 _ _ ?_;clear k10 K10
  replace H:=H.keep [1,2,4,6,7,8,9,11,12,13] rfl
  refine seq_list fun K11 k11=>?_
  refine ls 11 H<|sf bD rfl<|sl S 2 aE G G G<|sf bD rfl<|sl S 0 aE G G G<|sd (aK G G (by unfold i64ok;omega))<|sf bA rfl<|sl S 2 aE G G G<|sf bA rfl<|sl S 0 aE G G G<|sd (aK G G (by unfold i64ok;omega))<|sd (aO dM G G)<|sE ?_;clear H a;intro a H
  refine aC H S (i:=2) G G G G aP G G ?_
  clear H a S;intro _ a S H
  refine k11 _ _ ?_;clear k11 K11
  refine wp_seq_k fun K12 k12=>?_
  replace H:=H.keep [1,2,4,6,7,8,11,12,13] rfl
  refine sS H fun K13 k13=>sf lJ rfl<|sl S 1 jD G G G<|sE ?_;clear H a;intro a H
  refine k13 _ ?_;clear k13 K13
  refine cond_ H rfl (fun hc2=>?_) (fun hc2=>?_)
  ·skip
   try simp only [o1,o2,o3,o4,o5,o6,o7,o8,o9,oa] at hc2
   refine sS H fun K14 k14=>sr 1 rfl<|sE ?_;clear H a;intro a H
   refine k14 _ ?_;clear k14 K14
   replace H:=H.keep [1,2,4,6,7,8,11,12,13] rfl
   refine seq_list fun K15 k15=>?_
   refine ls 3 H<|sd ((aB bB aP rfl S (i:=2) G G))<|sf eT rfl<|sd ((aB bB aP rfl S (i:=1) G G))<|sE ?_;clear H a;intro a H
   refine aA H G G Tryz.func193 G G (fV _ _ _ _ _) ?_;clear H a
   rintro _ _ a ⟨rfl,S2⟩ H
   replace S:=S.call S2;clear S2
   refine ls 3 H<|sr 3 rfl<|sE ?_;clear H a;intro a H
   refine aC H S (i:=2) G G G G aP G G ?_
   clear H a S;intro _ a S H
   refine ls 1 H<|sr 1 rfl<|sE ?_;clear H a;intro a H
   refine k15 _ _ ?_;clear k15 K15
   replace H:=H.keep [1,2,4,6,7,10,11,12,13] rfl
   refine sS H fun K16 k16=>sr 2 rfl<|sE ?_;clear H a;intro a H
   refine k16 _ ?_;clear k16 K16
   refine cond_ H rfl (fun hc3=>?_) (fun hc3=>?_)
   ·skip
    try simp only [o1,o2,o3,o4,o5,o6,o7,o8,o9,oa] at hc3
    refine sS H fun K17 k17=>sr 4 rfl<|sE ?_;clear H a;intro a H
    refine k17 _ ?_;clear k17 K17
    refine wp_ret ?_
    refine ret2 (fn:=Tryz.f191) rfl H G G ?_
    refine ⟨k,A',c',⟨by omega,hp.2.2,fun _ hf=>?_⟩,rfl,(S.sel [3] G G)⟩
    have h9:=hf hc2
    rw [sW hc2] at h9
    exact absurd h9 (Int.not_le.2 hc3)
   try simp only [o1,o2,o3,o4,o5,o6,o7,o8,o9,oa] at hc3
   refine wp_skip ?_
   refine k12 _ _ ?_
   have e9:=(by first|exact sW (p:=(⟨rates,pwn,ptn,pag⟩:Part)) hc2|exact qS (p:=(⟨rates,pwn,ptn,pag⟩:Part)) hc2:fwd (⟨rates,pwn,ptn,pag⟩:Part) l (k+1)=_)
   replace H:=H.keep [1,2,4,6,11,12,13] rfl
   refine one_list ?_
   refine ls 2 H<|sr 1 rfl<|sd ((aB bB aP rfl S (i:=2) G G))<|sE ?_;clear H a;intro a H
   refine aV H rfl S cL aP bW G G G G G G G G G ?_;clear H a S;intro A1 _ a hA1 S H
   refine aZ H rfl S cL aP bW yY G G (i:=4) G G G (ownM.inS S (i:=0) rfl) (hG (two G G)) (by omega) (by omega) ?_;clear H a S;intro A2 c2 _ a S H
   replace S:=S.recell (i:=4) rfl (cell':=fcell (fun q=>fwd (⟨rates,pwn,ptn,pag⟩:Part) l (q+1))) (tL (two (by show _=Value.int .i64 (fwd (⟨rates,pwn,ptn,pag⟩:Part) l (k+1)).1;rw [e9];rfl) (by show _=Value.int .i64 (fwd (⟨rates,pwn,ptn,pag⟩:Part) l (k+1)).2;rw [e9];rfl)))
   refine ls 1 H<|sr 1 rfl<|sE ?_;clear H a;intro a H
   refine k8 _ _ ?_
   refine sO H<|sd (aK G G (by unfold i64ok;omega))<|sr 1 rfl<|sE ?_;clear H a;intro a H
   replace S:=boxM.same S (i:=3) (cs':=[.int .i64 (fwd (⟨rates,pwn,ptn,pag⟩:Part) l (k+1)).1,.int .i64 (fwd (⟨rates,pwn,ptn,pag⟩:Part) l (k+1)).2]) rfl (by rw [e9];rfl)
   exact k5 (g1-1) (k+1,_,_) a _ (by omega) (⟨by omega,by omega,fun q hq=>by
     by_cases h:q=k
     · subst h;first|exact oF hc2|(intro _;rw [e9];exact hc3)
     · exact hp.2.2 q (by omega)⟩) (S.sel [3,4,5] G G) (H.keep [4,13,1,2,6,11,12] rfl)
  try simp only [o1,o2,o3,o4,o5,o6,o7,o8,o9,oa] at hc2
  refine wp_skip ?_
  refine k12 _ _ ?_
  have e9:=(by first|exact sW (p:=(⟨rates,pwn,ptn,pag⟩:Part)) hc2|exact qS (p:=(⟨rates,pwn,ptn,pag⟩:Part)) hc2:fwd (⟨rates,pwn,ptn,pag⟩:Part) l (k+1)=_)
  replace H:=H.keep [1,2,4,6,11,12,13] rfl
  refine one_list ?_
  refine ls 2 H<|sr 1 rfl<|sd ((aB bB aP rfl S (i:=2) G G))<|sE ?_;clear H a;intro a H
  refine aV H rfl S cL aP bW G G G G G G G G G ?_;clear H a S;intro A3 _ a hA3 S H
  refine aZ H rfl S cL aP bW yY G G (i:=4) G G G (ownM.inS S (i:=0) rfl) (hG (two G G)) (by omega) (by omega) ?_;clear H a S;intro A4 c4 _ a S H
  replace S:=S.recell (i:=4) rfl (cell':=fcell (fun q=>fwd (⟨rates,pwn,ptn,pag⟩:Part) l (q+1))) (tL (two (by show _=Value.int .i64 (fwd (⟨rates,pwn,ptn,pag⟩:Part) l (k+1)).1;rw [e9];rfl) (by show _=Value.int .i64 (fwd (⟨rates,pwn,ptn,pag⟩:Part) l (k+1)).2;rw [e9];rfl)))
  refine ls 1 H<|sr 1 rfl<|sE ?_;clear H a;intro a H
  refine k8 _ _ ?_
  refine sO H<|sd (aK G G (by unfold i64ok;omega))<|sr 1 rfl<|sE ?_;clear H a;intro a H
  replace S:=boxM.same S (i:=3) (cs':=[.int .i64 (fwd (⟨rates,pwn,ptn,pag⟩:Part) l (k+1)).1,.int .i64 (fwd (⟨rates,pwn,ptn,pag⟩:Part) l (k+1)).2]) rfl (by rw [e9];rfl)
  exact k5 (g1-1) (k+1,_,_) a _ (by omega) (⟨by omega,by omega,fun q hq=>by
    by_cases h:q=k
    · subst h;first|exact oF hc2|(intro _;rw [e9];exact hc3)
    · exact hp.2.2 q (by omega)⟩) (S.sel [3,4,5] G G) (H.keep [4,13,1,2,6,11,12] rfl)
 refine wp_exit ?_
 refine k3 _ _ ?_
 replace H:=H.keep [1,4] rfl
 refine sS H fun K22 k22=>sr 2 rfl<|sL cZ rfl<|sr 2 rfl<|sE ?_;clear H a;intro a H
 refine k22 _ ?_;clear k22 K22
 refine wp_ret ?_
 refine ret2 (fn:=Tryz.f191) rfl H G G ?_
 have hk9:k=l.length:=by omega
 subst hk9
 exact ⟨_,A',c',⟨Nat.le_refl _,hp.2.2,fun h=>absurd h (Nat.lt_irrefl _)⟩,rfl,(S.sel [1] G G)⟩
end
section
def Worn (w:World) (p:Part) (l:List Use) (v:Value) (w':World):Prop:=
  (IsAt p l l.length∧∃ A' c',v = .tuple #[.slice A' l.length c',.bool true]∧St w noF [ownM 88 2 A' l.length c' (fcell (bO p l))] w')∨(¬ IsAt p l l.length∧v = .tuple #[.slice none 0 0,.bool false]∧St w noF [] w')
theorem tN (rates:List (Int×Int)) (pwn ptn pag:Int) (RA:Option Addr) (rcp:Nat) (l:List Use) (A:Option Addr) (cp:Nat) (w:World) (hr:InS w noF 2 RA rates.length (scell rates)) (hrn:rates.length≤9223372036854775807) (hl:InS w noF 6 A l.length (ucell l)) (hn:l.length≤9223372036854775807) (hok:PartOk (⟨rates,pwn,ptn,pag⟩:Part) l) :
    Calls Tryz.prog 182 [.agg [.slice RA rates.length rcp,.int .i64 pwn,.int .i64 ptn,.int .i64 pag].toArray,.slice A l.length cp].toArray w (Ret (Worn w (⟨rates,pwn,ptn,pag⟩:Part) l)):=by
 refine enter Tryz.func182 rfl Tryz.ntmps182 rfl (fun a H=>?_)
 have S:=St.start w
 refine seq_list fun K1 k1=>?_
 refine aN H rfl S G G ?_;clear H a S;intro b2 _ a hb2 hbw2 S H
 refine ls 2 H<|sr 2 rfl<|sE ?_;clear H a;intro a H
 refine k1 _ _ ?_;clear k1 K1
 by_cases hA:IsAt (⟨rates,pwn,ptn,pag⟩:Part) l l.length
 ·skip
  replace H:=H.keep [1,2] rfl
  refine seq_list fun K2 k2=>?_
  refine ls 2 H<|sd ((aB dQ eS rfl S (i:=0) G G))<|sr 1 rfl<|sE ?_;clear H a;intro a H
  refine aA H G G Tryz.func191 G G (gP (qD rates pwn ptn pag RA rcp l A cp _ (hr.now S) hrn (hl.now S) hn hok) (fun _ _ ⟨n,A',c',h1,h2,h3⟩=>(⟨A',c',by rw [h1.same hA] at h2;exact h2,by rw [h1.same hA] at h3;exact h3⟩:∃ A' c',_∧_))) ?_;clear H a
  rintro _ _ a ⟨A',c',rfl,S2⟩ H
  replace S:=S.call S2;clear S2
  refine ls 5 H<|sr 5 rfl<|sE ?_;clear H a;intro a H
  refine k2 _ _ ?_;clear k2 K2
  refine wp_seq_k fun K3 k3=>?_
  try have hnl:=hn1.le
  replace H:=H.keep [1,2,6,7] rfl
  refine sS H fun K4 k4=>sr 2 rfl<|sL cZ rfl<|sr 1 rfl<|sE ?_;clear H a;intro a H
  refine k4 _ ?_;clear k4 K4
  refine condL H rfl (fun hc1=>?_) (fun hc1=>?_)
  ·skip
   all_goals (exfalso;omega)
  refine wp_skip ?_
  refine k3 _ _ ?_
  refine wp_seq_k fun K5 k5=>?_
  refine sS H fun K6 k6=>sr 1 rfl<|sL cZ rfl<|sd (aR G G (by unfold i64ok;omega))<|sr 1 rfl<|sE ?_;clear H a;intro a H
  refine k6 _ ?_;clear k6 K6
  refine wp_block ?_
  have hll:=hok.len
  replace S:=S.recell (i:=0) rfl (cell':=fcell (fun q=>if (l.length:Int)-2<((q:Nat):Int) then bO (⟨rates,pwn,ptn,pag⟩:Part) l q else fwd (⟨rates,pwn,ptn,pag⟩:Part) l (q+1))) (fun q j hq hj=>by
    unfold fcell;congr 1;(try dsimp only);by_cases h1:(l.length:Int)-2<((q:Nat):Int)
    · rw [if_pos h1,lN (show q+1=l.length by omega),show q+1=l.length by omega]
    · rw [if_neg h1])
  refine loop_st (X:=Int) (R0:=_) [1,2,6] H rfl (fun i=>[(8,.int .i64 i)]) (fun i=>[ownM 88 2 A' l.length c' (fcell (fun q=>if i<((q:Nat):Int) then bO (⟨rates,pwn,ptn,pag⟩:Part) l q else fwd (⟨rates,pwn,ptn,pag⟩:Part) l (q+1)))]) (fun g i => -2≤i∧i≤(l.length:Int)-2∧g=(i+2).toNat) (l.length) ((l.length:Int)-2) ?_ (S.sel [0,1] G G) (H.keep [8,1,2,6] rfl) ?_
  · exact ⟨by omega,by omega,by omega⟩
  clear H S a
  intro g1 x1 a w1 hp S H K7 k7
  obtain ⟨i,rfl⟩:∃ y,y=x1:=⟨_,rfl⟩
  refine wp_seq_k fun K8 k8=>?_
  refine sS H fun K9 k9=>sr 2 rfl<|sE ?_;clear H a;intro a H
  refine k9 _ ?_;clear k9 K9
  refine condG H rfl (fun hc2=>?_) (fun hc2=>?_)
  ·skip
   refine wp_skip ?_
   refine k8 _ _ ?_
   refine wp_seq_k fun K10 k10=>?_
   refine wp_block ?_
   have hu:=hok.use (k:=(i+1).toNat) (by omega);unfold useOk at hu;simp only [decide_eq_true_eq] at hu
   have hgb:=jX hok (k:=(i+1).toNat) (by omega)
   have hcls:0≤(l.getD (i+1).toNat Use.zero).cls∧(l.getD (i+1).toNat Use.zero).cls<rates.length:=by
     have:((⟨rates,pwn,ptn,pag⟩:Part).rates.length:Int)=rates.length:=rfl
     omega
   have hll:=hok.len
   replace H:=H.keep [1,2,6,8] rfl
   replace S:=S.drew
   refine seq_wt 999999 (.q 0 (.q 1 (.q 2 (.q 3 (.q 4 (.q 5 (.q 7 (.q 8 (.q 9 (.q 10 (.q 11 (.b3 6 (.b2 12 (.e 13 (.e 14 (.e 15 .nil))) 13 (.e 12 (.e 14 (.e 15 .nil)))) 12 (.b2 6 (.e 13 (.e 14 (.e 15 .nil))) 13 (.e 6 (.e 14 (.e 15 .nil)))) 13 (.b2 6 (.e 12 (.e 14 (.e 15 .nil))) 12 (.e 6 (.e 14 (.e 15 .nil)))))))))))))))) (by kernel_rfl) (by kernel_rfl) (S.sel [0,1] G G) fun K11 k11=>?_
   refine aH H G G (fun _ S=>(aB dQ eS rfl S (i:=1) G G)) ?_;clear H a;intro a H
   refine aH H G G (fun _ S=>aL rfl) ?_;clear H a;intro a H
   refine aH H G G (fun _ S=>aL rfl) ?_;clear H a;intro a H
   refine aH H G G (fun _ S=>aK G G (by unfold i64ok;omega)) ?_;clear H a;intro a H
   refine aH H G G (fun _ S=>bV cZ cR G G (hl.adr (by omega)) (by omega) (by omega)) ?_;clear H a;intro a H
   refine aH H G G (fun _ S=>(aT jE cR rfl S hl (by omega) (by omega))) ?_;clear H a;intro a H
   refine aH H G G (fun _ S=>aL rfl) ?_;clear H a;intro a H
   refine aH H G G (fun _ S=>aL rfl) ?_;clear H a;intro a H
   refine aH H G G (fun _ S=>aK G G (by unfold i64ok;omega)) ?_;clear H a;intro a H
   refine aH H G G (fun _ S=>bV cL aP G G (ownM.adr S (i:=0) rfl (by omega)) (by omega) (by omega)) ?_;clear H a;intro a H
   refine aH H G G (fun _ S=>cC (vs:=[.int .i64 (bO (⟨rates,pwn,ptn,pag⟩:Part) l (i+1).toNat).1,.int .i64 (bO (⟨rates,pwn,ptn,pag⟩:Part) l (i+1).toNat).2]) bB aP rfl (kO S (i:=0) rfl (by omega) (if_pos (by omega)))) ?_;clear H a;intro a H
   refine uK G G G ?_ ?_ ?_
   ·skip
    refine aA H G G Tryz.func192 G G (gC rates pwn ptn pag RA rcp (l.getD (i+1).toNat Use.zero) _ (hr.now S) hrn hcls (by unfold i64ok;omega) (by unfold i64ok;omega)) ?_;clear H a
    rintro _ _ a ⟨rfl,S2⟩ H
    replace S:=S.call S2;clear S2
    refine wpList_nil (And.intro (Or.inr (S.sel [0,1] G G)) ?_)
    refine dW G G ?_ ?_
    ·skip
     refine aI H rfl S bW ?_;clear H a S;intro b9 _ a hb9 hbw9 S H
     refine wpList_nil (And.intro (Or.inr (S.sel [1,2] G G)) ?_)
     refine aM rfl ?_
     refine aI H rfl S bW ?_;clear H a S;intro b10 _ a hb10 hbw10 S H
     refine wpList_nil (And.intro (Or.inr (S.sel [2,3] G G)) ?_)
     refine aM rfl ?_
     refine aC H S (i:=1) G G G G aP G G ?_
     clear H a S;intro _ a S H
     refine wpList_nil (And.intro (Or.inr (S.sel [2,3] G G)) ?_)
     refine aM rfl ?_
     refine aC H S (i:=0) G G G G aP G G ?_
     clear H a S;intro _ a S H
     refine wpList_nil (And.intro (Or.inr (S.sel [2,3] G G)) ?_)
     refine bC ?_
     refine k11 _ _ ?_
     clear k11 K11
     have hbw:=iQ hok (k:=(i+1).toNat) (by omega)
     replace H:=H.keep [1,2,6,8,9,10] rfl
     replace S:=S.drew
     refine one_wt 22 (.q 0 (.q 1 (.q 2 (.q 3 (.q 4 (.q 5 (.q 6 (.q 7 (.q 8 (.q 9 (.q 10 (.q 11 (.q 12 (.q 13 (.q 14 (.q 15 (.q 16 (.e 17 (.q 18 (.q 19 (.p 20 (.q 21 (.e 22 .nil))))))))))))))))))))))) (by kernel_rfl) (by kernel_rfl) (S.sel [0,1,2,3] G G) ?_
     refine aH H G G (fun _ S=>aL rfl) ?_;clear H a;intro a H
     refine aH H G G (fun _ S=>aL rfl) ?_;clear H a;intro a H
     refine aH H G G (fun _ S=>aL rfl) ?_;clear H a;intro a H
     refine aH H G G (fun _ S=>aL rfl) ?_;clear H a;intro a H
     refine aH H G G (fun _ S=>bV cL aP G G (ownM.adr S (i:=2) rfl (by omega)) (by omega) (by omega)) ?_;clear H a;intro a H
     refine aH H G G (fun _ S=>cC (vs:=[.int .i64 (fwd (⟨rates,pwn,ptn,pag⟩:Part) l (i.toNat+1)).1,.int .i64 (fwd (⟨rates,pwn,ptn,pag⟩:Part) l (i.toNat+1)).2]) bB aP rfl (kO S (i:=2) rfl (by omega) (if_neg (by omega)))) ?_;clear H a;intro a H
     refine aH H G G (fun _ S=>(aD bD rfl)) ?_;clear H a;intro a H
     refine aH H G G (fun _ S=>aG aE rfl (boxM.rd S (i:=0) G G)) ?_;clear H a;intro a H
     refine aH H G G (fun _ S=>(aD bA rfl)) ?_;clear H a;intro a H
     refine aH H G G (fun _ S=>aG aE rfl (boxM.rd S (i:=1) G G)) ?_;clear H a;intro a H
     refine aH H G G (fun _ S=>aR G G (by unfold i64ok;omega)) ?_;clear H a;intro a H
     refine aH H G G (fun _ S=>(aD bA rfl)) ?_;clear H a;intro a H
     refine aH H G G (fun _ S=>aG aE rfl (boxM.rd S (i:=0) G G)) ?_;clear H a;intro a H
     refine aH H G G (fun _ S=>(aD bD rfl)) ?_;clear H a;intro a H
     refine aH H G G (fun _ S=>aG aE rfl (boxM.rd S (i:=1) G G)) ?_;clear H a;intro a H
     refine aH H G G (fun _ S=>aR G G (by unfold i64ok;omega)) ?_;clear H a;intro a H
     refine aH H G G (fun _ S=>aO dM G G) ?_;clear H a;intro a H
     refine aM rfl ?_
     refine aA H G G Tryz.func193 G G (fV (fwd (⟨rates,pwn,ptn,pag⟩:Part) l (i.toNat+1)).1 (fwd (⟨rates,pwn,ptn,pag⟩:Part) l (i.toNat+1)).2 _ _ _) ?_;clear H a
     rintro _ _ a ⟨rfl,S2⟩ H
     replace S:=S.call S2;clear S2
     refine wpList_nil (And.intro (Or.inr (S.sel [0,1,2,3] G G)) ?_)
     refine aH H G G (fun _ S=>aL rfl) ?_;clear H a;intro a H
     refine aH H G G (fun _ S=>aQ G G) ?_;clear H a;intro a H
     refine bH H G G (fun _=>aQ G G) ?_;clear H a;intro a H
     refine aH H G G (fun _ S=>bV cL aP G G (ownM.adr S (i:=2) rfl (by omega)) (by omega) (by omega)) ?_;clear H a;intro a H
     refine aM rfl ?_
     refine dU H S (i:=2) (kk:=i.toNat) G G G (by omega) aP ?_
     clear H a S;intro _ a S H
     have e9:=eB (p:=(⟨rates,pwn,ptn,pag⟩:Part)) (l:=l) (k:=i.toNat) (by omega)
     have e8:i.toNat+1=(i+1).toNat:=by omega
     rw [e8] at e9
     replace S:=S.recell (i:=2) rfl (cell':=fcell (fun q=>if i-1<((q:Nat):Int) then bO (⟨rates,pwn,ptn,pag⟩:Part) l q else fwd (⟨rates,pwn,ptn,pag⟩:Part) l (q+1))) (fun q j hq hj=>by
       unfold fcell;congr 1;(try dsimp only);by_cases h1:q=i.toNat
       · subst h1;rw [if_pos rfl,if_pos (by omega),e9,e8]
       · rw [if_neg h1];by_cases h2:i<(q:Int)
         · rw [if_pos h2,if_pos (by omega)]
         · rw [if_neg h2,if_neg (by omega)])
     refine wpList_nil (And.intro (Or.inl rfl) ?_)
     refine bC ?_
     refine k10 _ _ ?_
     replace H:=H.keep [1,2,6,8] rfl
     refine sO H<|sr 1 rfl<|sd (aR G G (by unfold i64ok;omega))<|sr 1 rfl<|sE ?_;clear H a;intro a H
     exact k7 (g1-1) (i-1) a _ (by omega) (⟨by omega,by omega,by omega⟩) (S.sel [2,3] G G) (H.keep [8,1,2,6] rfl)
    ·skip
     refine aI H rfl S bW ?_;clear H a S;intro b10 _ a hb10 hbw10 S H
     refine wpList_nil (And.intro (Or.inr (S.sel [1,2] G G)) ?_)
     refine aM rfl ?_
     refine aI H rfl S bW ?_;clear H a S;intro b9 _ a hb9 hbw9 S H
     refine wpList_nil (And.intro (Or.inr (S.sel [2,3] G G)) ?_)
     refine aM rfl ?_
     refine aC H S (i:=0) G G G G aP G G ?_
     clear H a S;intro _ a S H
     refine wpList_nil (And.intro (Or.inr (S.sel [2,3] G G)) ?_)
     refine aM rfl ?_
     refine aC H S (i:=1) G G G G aP G G ?_
     clear H a S;intro _ a S H
     refine wpList_nil (And.intro (Or.inr (S.sel [2,3] G G)) ?_)
     refine bC ?_
     refine k11 _ _ ?_
     clear k11 K11
     have hbw:=iQ hok (k:=(i+1).toNat) (by omega)
     replace H:=H.keep [1,2,6,8,9,10] rfl
     replace S:=S.drew
     refine one_wt 22 (.q 0 (.q 1 (.q 2 (.q 3 (.q 4 (.q 5 (.q 6 (.q 7 (.q 8 (.q 9 (.q 10 (.q 11 (.q 12 (.q 13 (.q 14 (.q 15 (.q 16 (.e 17 (.q 18 (.q 19 (.p 20 (.q 21 (.e 22 .nil))))))))))))))))))))))) (by kernel_rfl) (by kernel_rfl) (S.sel [0,1,2,3] G G) ?_
     refine aH H G G (fun _ S=>aL rfl) ?_;clear H a;intro a H
     refine aH H G G (fun _ S=>aL rfl) ?_;clear H a;intro a H
     refine aH H G G (fun _ S=>aL rfl) ?_;clear H a;intro a H
     refine aH H G G (fun _ S=>aL rfl) ?_;clear H a;intro a H
     refine aH H G G (fun _ S=>bV cL aP G G (ownM.adr S (i:=2) rfl (by omega)) (by omega) (by omega)) ?_;clear H a;intro a H
     refine aH H G G (fun _ S=>cC (vs:=[.int .i64 (fwd (⟨rates,pwn,ptn,pag⟩:Part) l (i.toNat+1)).1,.int .i64 (fwd (⟨rates,pwn,ptn,pag⟩:Part) l (i.toNat+1)).2]) bB aP rfl (kO S (i:=2) rfl (by omega) (if_neg (by omega)))) ?_;clear H a;intro a H
     refine aH H G G (fun _ S=>(aD bD rfl)) ?_;clear H a;intro a H
     refine aH H G G (fun _ S=>aG aE rfl (boxM.rd S (i:=1) G G)) ?_;clear H a;intro a H
     refine aH H G G (fun _ S=>(aD bA rfl)) ?_;clear H a;intro a H
     refine aH H G G (fun _ S=>aG aE rfl (boxM.rd S (i:=0) G G)) ?_;clear H a;intro a H
     refine aH H G G (fun _ S=>aR G G (by unfold i64ok;omega)) ?_;clear H a;intro a H
     refine aH H G G (fun _ S=>(aD bA rfl)) ?_;clear H a;intro a H
     refine aH H G G (fun _ S=>aG aE rfl (boxM.rd S (i:=1) G G)) ?_;clear H a;intro a H
     refine aH H G G (fun _ S=>(aD bD rfl)) ?_;clear H a;intro a H
     refine aH H G G (fun _ S=>aG aE rfl (boxM.rd S (i:=0) G G)) ?_;clear H a;intro a H
     refine aH H G G (fun _ S=>aR G G (by unfold i64ok;omega)) ?_;clear H a;intro a H
     refine aH H G G (fun _ S=>aO dM G G) ?_;clear H a;intro a H
     refine aM rfl ?_
     refine aA H G G Tryz.func193 G G (fV (fwd (⟨rates,pwn,ptn,pag⟩:Part) l (i.toNat+1)).1 (fwd (⟨rates,pwn,ptn,pag⟩:Part) l (i.toNat+1)).2 _ _ _) ?_;clear H a
     rintro _ _ a ⟨rfl,S2⟩ H
     replace S:=S.call S2;clear S2
     refine wpList_nil (And.intro (Or.inr (S.sel [0,1,2,3] G G)) ?_)
     refine aH H G G (fun _ S=>aL rfl) ?_;clear H a;intro a H
     refine aH H G G (fun _ S=>aQ G G) ?_;clear H a;intro a H
     refine bH H G G (fun _=>aQ G G) ?_;clear H a;intro a H
     refine aH H G G (fun _ S=>bV cL aP G G (ownM.adr S (i:=2) rfl (by omega)) (by omega) (by omega)) ?_;clear H a;intro a H
     refine aM rfl ?_
     refine dU H S (i:=2) (kk:=i.toNat) G G G (by omega) aP ?_
     clear H a S;intro _ a S H
     have e9:=eB (p:=(⟨rates,pwn,ptn,pag⟩:Part)) (l:=l) (k:=i.toNat) (by omega)
     have e8:i.toNat+1=(i+1).toNat:=by omega
     rw [e8] at e9
     replace S:=S.recell (i:=2) rfl (cell':=fcell (fun q=>if i-1<((q:Nat):Int) then bO (⟨rates,pwn,ptn,pag⟩:Part) l q else fwd (⟨rates,pwn,ptn,pag⟩:Part) l (q+1))) (fun q j hq hj=>by
       unfold fcell;congr 1;(try dsimp only);by_cases h1:q=i.toNat
       · subst h1;rw [if_pos rfl,if_pos (by omega),e9,e8]
       · rw [if_neg h1];by_cases h2:i<(q:Int)
         · rw [if_pos h2,if_pos (by omega)]
         · rw [if_neg h2,if_neg (by omega)])
     refine wpList_nil (And.intro (Or.inl rfl) ?_)
     refine bC ?_
     refine k10 _ _ ?_
     replace H:=H.keep [1,2,6,8] rfl
     refine sO H<|sr 1 rfl<|sd (aR G G (by unfold i64ok;omega))<|sr 1 rfl<|sE ?_;clear H a;intro a H
     exact k7 (g1-1) (i-1) a _ (by omega) (⟨by omega,by omega,by omega⟩) (S.sel [2,3] G G) (H.keep [8,1,2,6] rfl)
   ·skip
    refine aI H rfl S bW ?_;clear H a S;intro b9 _ a hb9 hbw9 S H
    refine wpList_nil (And.intro (Or.inr (S.sel [1,2] G G)) ?_)
    refine dW G G ?_ ?_
    ·skip
     refine aA H G G Tryz.func192 G G (gC rates pwn ptn pag RA rcp (l.getD (i+1).toNat Use.zero) _ (hr.now S) hrn hcls (by unfold i64ok;omega) (by unfold i64ok;omega)) ?_;clear H a
     rintro _ _ a ⟨rfl,S2⟩ H
     replace S:=S.call S2;clear S2
     refine wpList_nil (And.intro (Or.inr (S.sel [1,2] G G)) ?_)
     refine aM rfl ?_
     refine aI H rfl S bW ?_;clear H a S;intro b10 _ a hb10 hbw10 S H
     refine wpList_nil (And.intro (Or.inr (S.sel [2,3] G G)) ?_)
     refine aM rfl ?_
     refine aC H S (i:=1) G G G G aP G G ?_
     clear H a S;intro _ a S H
     refine wpList_nil (And.intro (Or.inr (S.sel [2,3] G G)) ?_)
     refine aM rfl ?_
     refine aC H S (i:=0) G G G G aP G G ?_
     clear H a S;intro _ a S H
     refine wpList_nil (And.intro (Or.inr (S.sel [2,3] G G)) ?_)
     refine bC ?_
     refine k11 _ _ ?_
     clear k11 K11
     have hbw:=iQ hok (k:=(i+1).toNat) (by omega)
     replace H:=H.keep [1,2,6,8,9,10] rfl
     replace S:=S.drew
     refine one_wt 22 (.q 0 (.q 1 (.q 2 (.q 3 (.q 4 (.q 5 (.q 6 (.q 7 (.q 8 (.q 9 (.q 10 (.q 11 (.q 12 (.q 13 (.q 14 (.q 15 (.q 16 (.e 17 (.q 18 (.q 19 (.p 20 (.q 21 (.e 22 .nil))))))))))))))))))))))) (by kernel_rfl) (by kernel_rfl) (S.sel [0,1,2,3] G G) ?_
     refine aH H G G (fun _ S=>aL rfl) ?_;clear H a;intro a H
     refine aH H G G (fun _ S=>aL rfl) ?_;clear H a;intro a H
     refine aH H G G (fun _ S=>aL rfl) ?_;clear H a;intro a H
     refine aH H G G (fun _ S=>aL rfl) ?_;clear H a;intro a H
     refine aH H G G (fun _ S=>bV cL aP G G (ownM.adr S (i:=2) rfl (by omega)) (by omega) (by omega)) ?_;clear H a;intro a H
     refine aH H G G (fun _ S=>cC (vs:=[.int .i64 (fwd (⟨rates,pwn,ptn,pag⟩:Part) l (i.toNat+1)).1,.int .i64 (fwd (⟨rates,pwn,ptn,pag⟩:Part) l (i.toNat+1)).2]) bB aP rfl (kO S (i:=2) rfl (by omega) (if_neg (by omega)))) ?_;clear H a;intro a H
     refine aH H G G (fun _ S=>(aD bD rfl)) ?_;clear H a;intro a H
     refine aH H G G (fun _ S=>aG aE rfl (boxM.rd S (i:=0) G G)) ?_;clear H a;intro a H
     refine aH H G G (fun _ S=>(aD bA rfl)) ?_;clear H a;intro a H
     refine aH H G G (fun _ S=>aG aE rfl (boxM.rd S (i:=1) G G)) ?_;clear H a;intro a H
     refine aH H G G (fun _ S=>aR G G (by unfold i64ok;omega)) ?_;clear H a;intro a H
     refine aH H G G (fun _ S=>(aD bA rfl)) ?_;clear H a;intro a H
     refine aH H G G (fun _ S=>aG aE rfl (boxM.rd S (i:=0) G G)) ?_;clear H a;intro a H
     refine aH H G G (fun _ S=>(aD bD rfl)) ?_;clear H a;intro a H
     refine aH H G G (fun _ S=>aG aE rfl (boxM.rd S (i:=1) G G)) ?_;clear H a;intro a H
     refine aH H G G (fun _ S=>aR G G (by unfold i64ok;omega)) ?_;clear H a;intro a H
     refine aH H G G (fun _ S=>aO dM G G) ?_;clear H a;intro a H
     refine aM rfl ?_
     refine aA H G G Tryz.func193 G G (fV (fwd (⟨rates,pwn,ptn,pag⟩:Part) l (i.toNat+1)).1 (fwd (⟨rates,pwn,ptn,pag⟩:Part) l (i.toNat+1)).2 _ _ _) ?_;clear H a
     rintro _ _ a ⟨rfl,S2⟩ H
     replace S:=S.call S2;clear S2
     refine wpList_nil (And.intro (Or.inr (S.sel [0,1,2,3] G G)) ?_)
     refine aH H G G (fun _ S=>aL rfl) ?_;clear H a;intro a H
     refine aH H G G (fun _ S=>aQ G G) ?_;clear H a;intro a H
     refine bH H G G (fun _=>aQ G G) ?_;clear H a;intro a H
     refine aH H G G (fun _ S=>bV cL aP G G (ownM.adr S (i:=2) rfl (by omega)) (by omega) (by omega)) ?_;clear H a;intro a H
     refine aM rfl ?_
     refine dU H S (i:=2) (kk:=i.toNat) G G G (by omega) aP ?_
     clear H a S;intro _ a S H
     have e9:=eB (p:=(⟨rates,pwn,ptn,pag⟩:Part)) (l:=l) (k:=i.toNat) (by omega)
     have e8:i.toNat+1=(i+1).toNat:=by omega
     rw [e8] at e9
     replace S:=S.recell (i:=2) rfl (cell':=fcell (fun q=>if i-1<((q:Nat):Int) then bO (⟨rates,pwn,ptn,pag⟩:Part) l q else fwd (⟨rates,pwn,ptn,pag⟩:Part) l (q+1))) (fun q j hq hj=>by
       unfold fcell;congr 1;(try dsimp only);by_cases h1:q=i.toNat
       · subst h1;rw [if_pos rfl,if_pos (by omega),e9,e8]
       · rw [if_neg h1];by_cases h2:i<(q:Int)
         · rw [if_pos h2,if_pos (by omega)]
         · rw [if_neg h2,if_neg (by omega)])
     refine wpList_nil (And.intro (Or.inl rfl) ?_)
     refine bC ?_
     refine k10 _ _ ?_
     replace H:=H.keep [1,2,6,8] rfl
     refine sO H<|sr 1 rfl<|sd (aR G G (by unfold i64ok;omega))<|sr 1 rfl<|sE ?_;clear H a;intro a H
     exact k7 (g1-1) (i-1) a _ (by omega) (⟨by omega,by omega,by omega⟩) (S.sel [2,3] G G) (H.keep [8,1,2,6] rfl)
    ·skip
     refine aI H rfl S bW ?_;clear H a S;intro b10 _ a hb10 hbw10 S H
     refine wpList_nil (And.intro (Or.inr (S.sel [2,3] G G)) ?_)
     refine aM rfl ?_
     refine aA H G G Tryz.func192 G G (gC rates pwn ptn pag RA rcp (l.getD (i+1).toNat Use.zero) _ (hr.now S) hrn hcls (by unfold i64ok;omega) (by unfold i64ok;omega)) ?_;clear H a
     rintro _ _ a ⟨rfl,S2⟩ H
     replace S:=S.call S2;clear S2
     refine wpList_nil (And.intro (Or.inr (S.sel [2,3] G G)) ?_)
     refine aM rfl ?_
     refine aC H S (i:=1) G G G G aP G G ?_
     clear H a S;intro _ a S H
     refine wpList_nil (And.intro (Or.inr (S.sel [2,3] G G)) ?_)
     refine aM rfl ?_
     refine aC H S (i:=0) G G G G aP G G ?_
     clear H a S;intro _ a S H
     refine wpList_nil (And.intro (Or.inr (S.sel [2,3] G G)) ?_)
     refine bC ?_
     refine k11 _ _ ?_
     clear k11 K11
     have hbw:=iQ hok (k:=(i+1).toNat) (by omega)
     replace H:=H.keep [1,2,6,8,9,10] rfl
     replace S:=S.drew
     refine one_wt 22 (.q 0 (.q 1 (.q 2 (.q 3 (.q 4 (.q 5 (.q 6 (.q 7 (.q 8 (.q 9 (.q 10 (.q 11 (.q 12 (.q 13 (.q 14 (.q 15 (.q 16 (.e 17 (.q 18 (.q 19 (.p 20 (.q 21 (.e 22 .nil))))))))))))))))))))))) (by kernel_rfl) (by kernel_rfl) (S.sel [0,1,2,3] G G) ?_
     refine aH H G G (fun _ S=>aL rfl) ?_;clear H a;intro a H
     refine aH H G G (fun _ S=>aL rfl) ?_;clear H a;intro a H
     refine aH H G G (fun _ S=>aL rfl) ?_;clear H a;intro a H
     refine aH H G G (fun _ S=>aL rfl) ?_;clear H a;intro a H
     refine aH H G G (fun _ S=>bV cL aP G G (ownM.adr S (i:=2) rfl (by omega)) (by omega) (by omega)) ?_;clear H a;intro a H
     refine aH H G G (fun _ S=>cC (vs:=[.int .i64 (fwd (⟨rates,pwn,ptn,pag⟩:Part) l (i.toNat+1)).1,.int .i64 (fwd (⟨rates,pwn,ptn,pag⟩:Part) l (i.toNat+1)).2]) bB aP rfl (kO S (i:=2) rfl (by omega) (if_neg (by omega)))) ?_;clear H a;intro a H
     refine aH H G G (fun _ S=>(aD bD rfl)) ?_;clear H a;intro a H
     refine aH H G G (fun _ S=>aG aE rfl (boxM.rd S (i:=0) G G)) ?_;clear H a;intro a H
     refine aH H G G (fun _ S=>(aD bA rfl)) ?_;clear H a;intro a H
     refine aH H G G (fun _ S=>aG aE rfl (boxM.rd S (i:=1) G G)) ?_;clear H a;intro a H
     refine aH H G G (fun _ S=>aR G G (by unfold i64ok;omega)) ?_;clear H a;intro a H
     refine aH H G G (fun _ S=>(aD bA rfl)) ?_;clear H a;intro a H
     refine aH H G G (fun _ S=>aG aE rfl (boxM.rd S (i:=0) G G)) ?_;clear H a;intro a H
     refine aH H G G (fun _ S=>(aD bD rfl)) ?_;clear H a;intro a H
     refine aH H G G (fun _ S=>aG aE rfl (boxM.rd S (i:=1) G G)) ?_;clear H a;intro a H
     refine aH H G G (fun _ S=>aR G G (by unfold i64ok;omega)) ?_;clear H a;intro a H
     refine aH H G G (fun _ S=>aO dM G G) ?_;clear H a;intro a H
     refine aM rfl ?_
     refine aA H G G Tryz.func193 G G (fV (fwd (⟨rates,pwn,ptn,pag⟩:Part) l (i.toNat+1)).1 (fwd (⟨rates,pwn,ptn,pag⟩:Part) l (i.toNat+1)).2 _ _ _) ?_;clear H a
     rintro _ _ a ⟨rfl,S2⟩ H
     replace S:=S.call S2;clear S2
     refine wpList_nil (And.intro (Or.inr (S.sel [0,1,2,3] G G)) ?_)
     refine aH H G G (fun _ S=>aL rfl) ?_;clear H a;intro a H
     refine aH H G G (fun _ S=>aQ G G) ?_;clear H a;intro a H
     refine bH H G G (fun _=>aQ G G) ?_;clear H a;intro a H
     refine aH H G G (fun _ S=>bV cL aP G G (ownM.adr S (i:=2) rfl (by omega)) (by omega) (by omega)) ?_;clear H a;intro a H
     refine aM rfl ?_
     refine dU H S (i:=2) (kk:=i.toNat) G G G (by omega) aP ?_
     clear H a S;intro _ a S H
     have e9:=eB (p:=(⟨rates,pwn,ptn,pag⟩:Part)) (l:=l) (k:=i.toNat) (by omega)
     have e8:i.toNat+1=(i+1).toNat:=by omega
     rw [e8] at e9
     replace S:=S.recell (i:=2) rfl (cell':=fcell (fun q=>if i-1<((q:Nat):Int) then bO (⟨rates,pwn,ptn,pag⟩:Part) l q else fwd (⟨rates,pwn,ptn,pag⟩:Part) l (q+1))) (fun q j hq hj=>by
       unfold fcell;congr 1;(try dsimp only);by_cases h1:q=i.toNat
       · subst h1;rw [if_pos rfl,if_pos (by omega),e9,e8]
       · rw [if_neg h1];by_cases h2:i<(q:Int)
         · rw [if_pos h2,if_pos (by omega)]
         · rw [if_neg h2,if_neg (by omega)])
     refine wpList_nil (And.intro (Or.inl rfl) ?_)
     refine bC ?_
     refine k10 _ _ ?_
     replace H:=H.keep [1,2,6,8] rfl
     refine sO H<|sr 1 rfl<|sd (aR G G (by unfold i64ok;omega))<|sr 1 rfl<|sE ?_;clear H a;intro a H
     exact k7 (g1-1) (i-1) a _ (by omega) (⟨by omega,by omega,by omega⟩) (S.sel [2,3] G G) (H.keep [8,1,2,6] rfl)
   ·skip
    refine aI H rfl S bW ?_;clear H a S;intro b10 _ a hb10 hbw10 S H
    refine wpList_nil (And.intro (Or.inr (S.sel [1,2] G G)) ?_)
    refine dW G G ?_ ?_
    ·skip
     refine aA H G G Tryz.func192 G G (gC rates pwn ptn pag RA rcp (l.getD (i+1).toNat Use.zero) _ (hr.now S) hrn hcls (by unfold i64ok;omega) (by unfold i64ok;omega)) ?_;clear H a
     rintro _ _ a ⟨rfl,S2⟩ H
     replace S:=S.call S2;clear S2
     refine wpList_nil (And.intro (Or.inr (S.sel [1,2] G G)) ?_)
     refine aM rfl ?_
     refine aI H rfl S bW ?_;clear H a S;intro b9 _ a hb9 hbw9 S H
     refine wpList_nil (And.intro (Or.inr (S.sel [2,3] G G)) ?_)
     refine aM rfl ?_
     refine aC H S (i:=0) G G G G aP G G ?_
     clear H a S;intro _ a S H
     refine wpList_nil (And.intro (Or.inr (S.sel [2,3] G G)) ?_)
     refine aM rfl ?_
     refine aC H S (i:=1) G G G G aP G G ?_
     clear H a S;intro _ a S H
     refine wpList_nil (And.intro (Or.inr (S.sel [2,3] G G)) ?_)
     refine bC ?_
     refine k11 _ _ ?_
     clear k11 K11
     have hbw:=iQ hok (k:=(i+1).toNat) (by omega)
     replace H:=H.keep [1,2,6,8,9,10] rfl
     replace S:=S.drew
     refine one_wt 22 (.q 0 (.q 1 (.q 2 (.q 3 (.q 4 (.q 5 (.q 6 (.q 7 (.q 8 (.q 9 (.q 10 (.q 11 (.q 12 (.q 13 (.q 14 (.q 15 (.q 16 (.e 17 (.q 18 (.q 19 (.p 20 (.q 21 (.e 22 .nil))))))))))))))))))))))) (by kernel_rfl) (by kernel_rfl) (S.sel [0,1,2,3] G G) ?_
     refine aH H G G (fun _ S=>aL rfl) ?_;clear H a;intro a H
     refine aH H G G (fun _ S=>aL rfl) ?_;clear H a;intro a H
     refine aH H G G (fun _ S=>aL rfl) ?_;clear H a;intro a H
     refine aH H G G (fun _ S=>aL rfl) ?_;clear H a;intro a H
     refine aH H G G (fun _ S=>bV cL aP G G (ownM.adr S (i:=2) rfl (by omega)) (by omega) (by omega)) ?_;clear H a;intro a H
     refine aH H G G (fun _ S=>cC (vs:=[.int .i64 (fwd (⟨rates,pwn,ptn,pag⟩:Part) l (i.toNat+1)).1,.int .i64 (fwd (⟨rates,pwn,ptn,pag⟩:Part) l (i.toNat+1)).2]) bB aP rfl (kO S (i:=2) rfl (by omega) (if_neg (by omega)))) ?_;clear H a;intro a H
     refine aH H G G (fun _ S=>(aD bD rfl)) ?_;clear H a;intro a H
     refine aH H G G (fun _ S=>aG aE rfl (boxM.rd S (i:=1) G G)) ?_;clear H a;intro a H
     refine aH H G G (fun _ S=>(aD bA rfl)) ?_;clear H a;intro a H
     refine aH H G G (fun _ S=>aG aE rfl (boxM.rd S (i:=0) G G)) ?_;clear H a;intro a H
     refine aH H G G (fun _ S=>aR G G (by unfold i64ok;omega)) ?_;clear H a;intro a H
     refine aH H G G (fun _ S=>(aD bA rfl)) ?_;clear H a;intro a H
     refine aH H G G (fun _ S=>aG aE rfl (boxM.rd S (i:=1) G G)) ?_;clear H a;intro a H
     refine aH H G G (fun _ S=>(aD bD rfl)) ?_;clear H a;intro a H
     refine aH H G G (fun _ S=>aG aE rfl (boxM.rd S (i:=0) G G)) ?_;clear H a;intro a H
     refine aH H G G (fun _ S=>aR G G (by unfold i64ok;omega)) ?_;clear H a;intro a H
     refine aH H G G (fun _ S=>aO dM G G) ?_;clear H a;intro a H
     refine aM rfl ?_
     refine aA H G G Tryz.func193 G G (fV (fwd (⟨rates,pwn,ptn,pag⟩:Part) l (i.toNat+1)).1 (fwd (⟨rates,pwn,ptn,pag⟩:Part) l (i.toNat+1)).2 _ _ _) ?_;clear H a
     rintro _ _ a ⟨rfl,S2⟩ H
     replace S:=S.call S2;clear S2
     refine wpList_nil (And.intro (Or.inr (S.sel [0,1,2,3] G G)) ?_)
     refine aH H G G (fun _ S=>aL rfl) ?_;clear H a;intro a H
     refine aH H G G (fun _ S=>aQ G G) ?_;clear H a;intro a H
     refine bH H G G (fun _=>aQ G G) ?_;clear H a;intro a H
     refine aH H G G (fun _ S=>bV cL aP G G (ownM.adr S (i:=2) rfl (by omega)) (by omega) (by omega)) ?_;clear H a;intro a H
     refine aM rfl ?_
     refine dU H S (i:=2) (kk:=i.toNat) G G G (by omega) aP ?_
     clear H a S;intro _ a S H
     have e9:=eB (p:=(⟨rates,pwn,ptn,pag⟩:Part)) (l:=l) (k:=i.toNat) (by omega)
     have e8:i.toNat+1=(i+1).toNat:=by omega
     rw [e8] at e9
     replace S:=S.recell (i:=2) rfl (cell':=fcell (fun q=>if i-1<((q:Nat):Int) then bO (⟨rates,pwn,ptn,pag⟩:Part) l q else fwd (⟨rates,pwn,ptn,pag⟩:Part) l (q+1))) (fun q j hq hj=>by
       unfold fcell;congr 1;(try dsimp only);by_cases h1:q=i.toNat
       · subst h1;rw [if_pos rfl,if_pos (by omega),e9,e8]
       · rw [if_neg h1];by_cases h2:i<(q:Int)
         · rw [if_pos h2,if_pos (by omega)]
         · rw [if_neg h2,if_neg (by omega)])
     refine wpList_nil (And.intro (Or.inl rfl) ?_)
     refine bC ?_
     refine k10 _ _ ?_
     replace H:=H.keep [1,2,6,8] rfl
     refine sO H<|sr 1 rfl<|sd (aR G G (by unfold i64ok;omega))<|sr 1 rfl<|sE ?_;clear H a;intro a H
     exact k7 (g1-1) (i-1) a _ (by omega) (⟨by omega,by omega,by omega⟩) (S.sel [2,3] G G) (H.keep [8,1,2,6] rfl)
    ·skip
     refine aI H rfl S bW ?_;clear H a S;intro b9 _ a hb9 hbw9 S H
     refine wpList_nil (And.intro (Or.inr (S.sel [2,3] G G)) ?_)
     refine aM rfl ?_
     refine aA H G G Tryz.func192 G G (gC rates pwn ptn pag RA rcp (l.getD (i+1).toNat Use.zero) _ (hr.now S) hrn hcls (by unfold i64ok;omega) (by unfold i64ok;omega)) ?_;clear H a
     rintro _ _ a ⟨rfl,S2⟩ H
     replace S:=S.call S2;clear S2
     refine wpList_nil (And.intro (Or.inr (S.sel [2,3] G G)) ?_)
     refine aM rfl ?_
     refine aC H S (i:=0) G G G G aP G G ?_
     clear H a S;intro _ a S H
     refine wpList_nil (And.intro (Or.inr (S.sel [2,3] G G)) ?_)
     refine aM rfl ?_
     refine aC H S (i:=1) G G G G aP G G ?_
     clear H a S;intro _ a S H
     refine wpList_nil (And.intro (Or.inr (S.sel [2,3] G G)) ?_)
     refine bC ?_
     refine k11 _ _ ?_
     clear k11 K11
     have hbw:=iQ hok (k:=(i+1).toNat) (by omega)
     replace H:=H.keep [1,2,6,8,9,10] rfl
     replace S:=S.drew
     refine one_wt 22 (.q 0 (.q 1 (.q 2 (.q 3 (.q 4 (.q 5 (.q 6 (.q 7 (.q 8 (.q 9 (.q 10 (.q 11 (.q 12 (.q 13 (.q 14 (.q 15 (.q 16 (.e 17 (.q 18 (.q 19 (.p 20 (.q 21 (.e 22 .nil))))))))))))))))))))))) (by kernel_rfl) (by kernel_rfl) (S.sel [0,1,2,3] G G) ?_
     refine aH H G G (fun _ S=>aL rfl) ?_;clear H a;intro a H
     refine aH H G G (fun _ S=>aL rfl) ?_;clear H a;intro a H
     refine aH H G G (fun _ S=>aL rfl) ?_;clear H a;intro a H
     refine aH H G G (fun _ S=>aL rfl) ?_;clear H a;intro a H
     refine aH H G G (fun _ S=>bV cL aP G G (ownM.adr S (i:=2) rfl (by omega)) (by omega) (by omega)) ?_;clear H a;intro a H
     refine aH H G G (fun _ S=>cC (vs:=[.int .i64 (fwd (⟨rates,pwn,ptn,pag⟩:Part) l (i.toNat+1)).1,.int .i64 (fwd (⟨rates,pwn,ptn,pag⟩:Part) l (i.toNat+1)).2]) bB aP rfl (kO S (i:=2) rfl (by omega) (if_neg (by omega)))) ?_;clear H a;intro a H
     refine aH H G G (fun _ S=>(aD bD rfl)) ?_;clear H a;intro a H
     refine aH H G G (fun _ S=>aG aE rfl (boxM.rd S (i:=1) G G)) ?_;clear H a;intro a H
     refine aH H G G (fun _ S=>(aD bA rfl)) ?_;clear H a;intro a H
     refine aH H G G (fun _ S=>aG aE rfl (boxM.rd S (i:=0) G G)) ?_;clear H a;intro a H
     refine aH H G G (fun _ S=>aR G G (by unfold i64ok;omega)) ?_;clear H a;intro a H
     refine aH H G G (fun _ S=>(aD bA rfl)) ?_;clear H a;intro a H
     refine aH H G G (fun _ S=>aG aE rfl (boxM.rd S (i:=1) G G)) ?_;clear H a;intro a H
     refine aH H G G (fun _ S=>(aD bD rfl)) ?_;clear H a;intro a H
     refine aH H G G (fun _ S=>aG aE rfl (boxM.rd S (i:=0) G G)) ?_;clear H a;intro a H
     refine aH H G G (fun _ S=>aR G G (by unfold i64ok;omega)) ?_;clear H a;intro a H
     refine aH H G G (fun _ S=>aO dM G G) ?_;clear H a;intro a H
     refine aM rfl ?_
     refine aA H G G Tryz.func193 G G (fV (fwd (⟨rates,pwn,ptn,pag⟩:Part) l (i.toNat+1)).1 (fwd (⟨rates,pwn,ptn,pag⟩:Part) l (i.toNat+1)).2 _ _ _) ?_;clear H a
     rintro _ _ a ⟨rfl,S2⟩ H
     replace S:=S.call S2;clear S2
     refine wpList_nil (And.intro (Or.inr (S.sel [0,1,2,3] G G)) ?_)
     refine aH H G G (fun _ S=>aL rfl) ?_;clear H a;intro a H
     refine aH H G G (fun _ S=>aQ G G) ?_;clear H a;intro a H
     refine bH H G G (fun _=>aQ G G) ?_;clear H a;intro a H
     refine aH H G G (fun _ S=>bV cL aP G G (ownM.adr S (i:=2) rfl (by omega)) (by omega) (by omega)) ?_;clear H a;intro a H
     refine aM rfl ?_
     refine dU H S (i:=2) (kk:=i.toNat) G G G (by omega) aP ?_
     clear H a S;intro _ a S H
     have e9:=eB (p:=(⟨rates,pwn,ptn,pag⟩:Part)) (l:=l) (k:=i.toNat) (by omega)
     have e8:i.toNat+1=(i+1).toNat:=by omega
     rw [e8] at e9
     replace S:=S.recell (i:=2) rfl (cell':=fcell (fun q=>if i-1<((q:Nat):Int) then bO (⟨rates,pwn,ptn,pag⟩:Part) l q else fwd (⟨rates,pwn,ptn,pag⟩:Part) l (q+1))) (fun q j hq hj=>by
       unfold fcell;congr 1;(try dsimp only);by_cases h1:q=i.toNat
       · subst h1;rw [if_pos rfl,if_pos (by omega),e9,e8]
       · rw [if_neg h1];by_cases h2:i<(q:Int)
         · rw [if_pos h2,if_pos (by omega)]
         · rw [if_neg h2,if_neg (by omega)])
     refine wpList_nil (And.intro (Or.inl rfl) ?_)
     refine bC ?_
     refine k10 _ _ ?_
     replace H:=H.keep [1,2,6,8] rfl
     refine sO H<|sr 1 rfl<|sd (aR G G (by unfold i64ok;omega))<|sr 1 rfl<|sE ?_;clear H a;intro a H
     exact k7 (g1-1) (i-1) a _ (by omega) (⟨by omega,by omega,by omega⟩) (S.sel [2,3] G G) (H.keep [8,1,2,6] rfl)
  refine wp_exit ?_
  refine k5 _ _ ?_
  refine sS H fun K24 k24=>sr 3 rfl<|sE ?_;clear H a;intro a H
  refine k24 _ ?_;clear k24 K24
  refine wp_ret ?_
  refine ret2 (fn:=Tryz.f182) rfl H G G ?_
  refine .inl ⟨hA,A',c',rfl,?_⟩
  replace S:=S.recell (i:=0) rfl (cell':=fcell (bO (⟨rates,pwn,ptn,pag⟩:Part) l)) (fun q j hq hj=>by unfold fcell;congr 1;exact if_pos (by omega))
  exact (S.sel [0] G G)
 replace H:=H.keep [1,2] rfl
 refine seq_list fun K25 k25=>?_
 refine ls 2 H<|sd ((aB dQ eS rfl S (i:=0) G G))<|sr 1 rfl<|sE ?_;clear H a;intro a H
 refine aA H G G Tryz.func191 G G (qD rates pwn ptn pag RA rcp l A cp _ (hr.now S) hrn (hl.now S) hn hok) ?_;clear H a
 rintro _ _ a ⟨n,A',c',hn1,rfl,S2⟩ H
 replace S:=S.call S2;clear S2
 refine ls 5 H<|sr 5 rfl<|sE ?_;clear H a;intro a H
 refine k25 _ _ ?_;clear k25 K25
 refine wp_seq_k fun K26 k26=>?_
 try have hnl:=hn1.le
 replace H:=H.keep [1,2,6,7] rfl
 refine sS H fun K27 k27=>sr 2 rfl<|sL cZ rfl<|sr 1 rfl<|sE ?_;clear H a;intro a H
 refine k27 _ ?_;clear k27 K27
 refine condL H rfl (fun hc3=>?_) (fun hc3=>?_)
 ·skip
  refine sS H fun K28 k28=>sr 2 rfl<|sE ?_;clear H a;intro a H
  refine k28 _ ?_;clear k28 K28
  refine wp_ret ?_
  refine ret2 (fn:=Tryz.f182) rfl H G G ?_
  exact .inr ⟨hA,rfl,(S.sel [] G G)⟩
 exfalso
 have hnn:n=l.length:=by omega
 exact hA (hnn ▸ hn1)
end
section
theorem Me {w:World} {p:Part} {l:List Use} {v:Value} {w':World} (hA:IsAt p l l.length) (h:Worn w p l v w'):∃ A' c',v = .tuple #[.slice A' l.length c',.bool true]∧St w noF [ownM 88 2 A' l.length c' (fcell (bO p l))] w':=by
  rcases h with ⟨_,h⟩|⟨h,_⟩
  · exact h
  · exact absurd hA h
theorem Qq {w:World} {p:Part} {l:List Use} {v:Value} {w':World} (hA:¬ IsAt p l l.length) (h:Worn w p l v w'):v = .tuple #[.slice none 0 0,.bool false]∧St w noF [] w':=by
  rcases h with ⟨h,_⟩|⟨_,h⟩
  · exact absurd h hA
  · exact h
end
section
theorem oL {n:Nat} {l:List Use}:∀ {k:Nat},dS n l k=true→0≤prevD l k:=by
  intro k
  induction k with
  | zero=>intro _;exact Int.le_refl _
  | succ k ih=>
    intro h
    unfold dS at h
    rw [gM (n:=0),Bool.and_eq_true] at h
    have h1:=ih h.1
    have h2:=h.2
    unfold useOk at h2
    simp only [decide_eq_true_eq] at h2
    show 0≤(l.getD k Use.zero).day
    omega
def FwdR (w:World) (p:Part) (l:List Use) (v:Value) (w':World):Prop:=
  (atN p l=l.length∧∃ A' c',v = .tuple #[.slice A' l.length c',.int .i64 (-1)]∧St w noF [ownM 88 2 A' l.length c' (fcell fun q=>fwd p l (q+1))] w')∨(atN p l<l.length∧v = .tuple #[.slice none 0 0,.int .i64 (atN p l:Int)]∧St w noF [] w')
theorem Mf {w:World} {p:Part} {l:List Use} {v:Value} {w':World} (hA:atN p l=l.length) (h:FwdR w p l v w'):∃ A' c',v = .tuple #[.slice A' l.length c',.int .i64 (-1)]∧St w noF [ownM 88 2 A' l.length c' (fcell fun q=>fwd p l (q+1))] w':=by
  rcases h with ⟨_,h⟩|⟨h,_⟩
  · exact h
  · omega
theorem Qr {w:World} {p:Part} {l:List Use} {v:Value} {w':World} (hA:atN p l<l.length) (h:FwdR w p l v w'):v = .tuple #[.slice none 0 0,.int .i64 (atN p l:Int)]∧St w noF [] w':=by
  rcases h with ⟨h,_⟩|⟨_,h⟩
  · omega
  · exact h
def WearR (w:World) (p:Part) (l:List Use) (v:Value) (w':World):Prop:=
  (wearE p l=0∧∃ A' c',v = .tuple #[.slice A' l.length c',.int .i64 0]∧St w noF [ownM 88 2 A' l.length c' (fcell (bO p l))] w')∨(wearE p l≠0∧v = .tuple #[.slice none 0 0,.int .i64 (wearE p l)]∧St w noF [] w')
theorem Hl {w:World} {p:Part} {l:List Use} {v:Value} {w':World} (hA:wearE p l=0) (h:WearR w p l v w'):∃ A' c',v = .tuple #[.slice A' l.length c',.int .i64 0]∧St w noF [ownM 88 2 A' l.length c' (fcell (bO p l))] w':=by
  rcases h with ⟨_,h⟩|⟨h,_⟩
  · exact h
  · exact absurd hA h
theorem Mg {w:World} {p:Part} {l:List Use} {v:Value} {w':World} (hA:wearE p l≠0) (h:WearR w p l v w'):v = .tuple #[.slice none 0 0,.int .i64 (wearE p l)]∧St w noF [] w':=by
  rcases h with ⟨h,_⟩|⟨_,h⟩
  · exact absurd h hA
  · exact h
theorem mP (rates:List (Int×Int)) (pwn ptn pag:Int) (RA:Option Addr) (rcp:Nat) (l:List Use) (A:Option Addr) (cp:Nat) (w:World) (hr:InS w noF 2 RA rates.length (scell rates)) (hrn:rates.length≤9223372036854775807) (hl:InS w noF 6 A l.length (ucell l)) (hn:l.length≤9223372036854775807) :
    Calls Tryz.prog 126 [.agg [.slice RA rates.length rcp,.int .i64 pwn,.int .i64 ptn,.int .i64 pag].toArray,.slice A l.length cp].toArray w (Ret (fun v w'=>v = .int .i64 (cF (⟨rates,pwn,ptn,pag⟩:Part) l)∧St w noF [] w')):=by
 refine enter Tryz.func126 rfl Tryz.ntmps126 rfl (fun a H=>?_)
 have S:=St.start w
 refine seq_list fun K1 k1=>?_
 refine aN H rfl S G G ?_;clear H a S;intro b2 _ a hb2 hbw2 S H
 refine ls 1 H<|sr 1 rfl<|sE ?_;clear H a;intro a H
 refine k1 _ _ ?_;clear k1 K1
 refine wp_seq_k fun K2 k2=>?_
 replace H:=H.keep [1,2] rfl
 refine sS H fun K3 k3=>sf eO rfl<|sl S 0 gF G G G<|sL cL rfl<|sc rfl Tryz.func158 G G (gQ _ _ _ _)<|sr 2 rfl<|sg 4 5 13 17 false G G (fun hg6=>by
     have hq6:=hg6;try simp only [o1,o2,o3,o4,o5,o6,o7,o8,o9,oa] at hq6
     exact sy hg6<|sf wC rfl<|sy hg6<|sl S 0 aE G G G<|sy hg6<|sc rfl Tryz.func158 G G (gQ _ _ _ _)<|sy hg6<|sr 1 rfl<|sz 4 G G G)<|so G G G<|sr 1 rfl<|sg 4 11 19 23 false G G (fun hg12=>by
     have hq12:=hg12;try simp only [o1,o2,o3,o4,o5,o6,o7,o8,o9,oa] at hq12
     exact sy hg12<|sf nU rfl<|sy hg12<|sl S 0 aE G G G<|sy hg12<|sc rfl Tryz.func158 G G (gQ _ _ _ _)<|sy hg12<|sr 1 rfl<|sz 4 G G G)<|so G G G<|sr 1 rfl<|sg 4 17 25 29 false G G (fun hg18=>by
     have hq18:=hg18;try simp only [o1,o2,o3,o4,o5,o6,o7,o8,o9,oa] at hq18
     exact sy hg18<|sf qL rfl<|sy hg18<|sl S 0 aE G G G<|sy hg18<|sc rfl Tryz.func158 G G (gQ _ _ _ _)<|sy hg18<|sr 1 rfl<|sz 4 G G G)<|so G G G<|sE ?_;clear H a;intro a H
 refine k3 _ ?_;clear k3 K3
 refine cond_ H rfl (fun hc1=>?_) (fun hc1=>?_)
 ·skip
  try simp only [o1,o2,o3,o4,o5,o6,o7,o8,o9,oa] at hc1
  replace H:=H.keep [] rfl
  refine sS H fun K4 k4=>sr 1 rfl<|sE ?_;clear H a;intro a H
  refine k4 _ ?_;clear k4 K4
  refine wp_ret ?_
  refine ret1 (fn:=Tryz.f126) rfl H rfl ?_
  refine ⟨?_,(S.sel [] G G)⟩;unfold cF;rw [if_neg (by unfold hY;simp only [decide_eq_true_eq];omega)]
 try simp only [o1,o2,o3,o4,o5,o6,o7,o8,o9,oa] at hc1
 refine wp_skip ?_
 refine k2 _ _ ?_
 refine wp_seq_k fun K5 k5=>?_
 have hhd:hY (⟨rates,pwn,ptn,pag⟩:Part)=true:=by unfold hY;simp only [decide_eq_true_eq];omega
 refine sS H fun K6 k6=>sr 1 rfl<|sE ?_;clear H a;intro a H
 refine k6 _ ?_;clear k6 K6
 refine wp_block ?_
 refine loop_st (X:=Nat) (R0:=_) [1,2] H rfl (fun k=>[(5,.int .i64 (k:Int))]) (fun k=>[]) (fun g k=>k≤rates.length∧g+k=rates.length∧(rates.take k).all gN=true) (rates.length) 0 ?_ (S.sel [0] G G) (H.keep [5,1,2] rfl) ?_
 · exact ⟨by omega,by omega,by simp⟩
 clear H S a
 intro g1 x1 a w1 hp S H K7 k7
 obtain ⟨k,rfl⟩:∃ y,y=x1:=⟨_,rfl⟩
 refine wp_seq_k fun K8 k8=>?_
 refine sS H fun K9 k9=>sr 1 rfl<|sf eO rfl<|sl S 0 gF G G G<|sL cL rfl<|sr 1 rfl<|sE ?_;clear H a;intro a H
 refine k9 _ ?_;clear k9 K9
 refine condL H rfl (fun hc2=>?_) (fun hc2=>?_)
 ·skip
  refine wp_skip ?_
  refine k8 _ _ ?_
  refine wp_seq_k fun K10 k10=>?_
  refine wp_block ?_
  replace H:=H.keep [1,2,5] rfl
  replace S:=S.drew
  refine sD H fun K11 k11=>sf eO rfl<|sl S 0 gF G G G<|sr 1 rfl<|si cL aP G G (hr.adr (by omega)) (by omega)<|sp bD rfl<|slm aE rfl (hr.rd S (by omega) (by omega))<|sf eO rfl<|sl S 0 gF G G G<|sr 1 rfl<|si cL aP G G (hr.adr (by omega)) (by omega)<|sp bA rfl<|slm aE rfl (hr.rd S (by omega) (by omega))<|sc rfl Tryz.func158 G G (gQ _ _ _ _)<|sr 2 rfl<|sg 7 14 52 59 false G G (fun hg15=>by
      have hq15:=hg15;try simp only [o1,o2,o3,o4,o5,o6,o7,o8,o9,oa] at hq15
      exact sy hg15<|sf eO rfl<|sy hg15<|sl S 0 gF G G G<|sy hg15<|sr 1 rfl<|sy hg15<|si cL aP G G (hr.adr (by omega)) (by omega)<|sy hg15<|sp bA rfl<|sy hg15<|slm aE rfl (hr.rd S (by omega) (by omega))<|sy hg15<|sr 1 rfl<|sz 7 G G G)<|so G G G<|sE ?_;clear H a;intro a H
  refine k11 _ ?_;clear k11 K11
  refine cond_ H rfl (fun hc3=>?_) (fun hc3=>?_)
  ·skip
   try simp only [o1,o2,o3,o4,o5,o6,o7,o8,o9,oa] at hc3
   replace H:=H.keep [] rfl
   refine sS H fun K12 k12=>sr 1 rfl<|sE ?_;clear H a;intro a H
   refine k12 _ ?_;clear k12 K12
   refine wp_ret ?_
   refine ret1 (fn:=Tryz.f126) rfl H rfl ?_
   refine ⟨?_,(S.sel [] G G)⟩;unfold cF;rw [if_pos hhd];(try dsimp only);rw [pK (k:=k) (d:=(0,0)) (by omega) (by unfold gN;simp only [decide_eq_false_iff_not];omega)];rfl
  try simp only [o1,o2,o3,o4,o5,o6,o7,o8,o9,oa] at hc3
  refine wp_skip ?_
  refine k10 _ _ ?_
  refine sO H<|sr 1 rfl<|sd (aK G G (by unfold i64ok;omega))<|sr 1 rfl<|sE ?_;clear H a;intro a H
  exact k7 (g1-1) (k+1) a _ (by omega) (⟨by omega,by omega,sV (d:=(0,0)) (by omega) hp.2.2 (by unfold gN;simp only [decide_eq_true_eq];omega)⟩) (S.sel [0] G G) (H.keep [5,1,2] rfl)
 refine wp_exit ?_
 refine k5 _ _ ?_
 refine wp_seq_k fun K14 k14=>?_
 have hrt:rates.all gN=true:=by have h9:=hp.2.2;rw [List.take_of_length_le (by omega)] at h9;exact h9
 refine sS H fun K15 k15=>sr 1 rfl<|sL cZ rfl<|sr 1 rfl<|sE ?_;clear H a;intro a H
 refine k15 _ ?_;clear k15 K15
 refine condL H rfl (fun hc4=>?_) (fun hc4=>?_)
 ·skip
  refine sS H fun K16 k16=>sr 1 rfl<|sE ?_;clear H a;intro a H
  refine k16 _ ?_;clear k16 K16
  refine wp_ret ?_
  refine ret1 (fn:=Tryz.f126) rfl H rfl ?_
  refine ⟨?_,(S.sel [] G G)⟩;unfold cF;rw [if_pos hhd,if_pos hrt,if_neg (by omega)]
 refine wp_skip ?_
 refine k14 _ _ ?_
 refine wp_seq_k fun K17 k17=>?_
 refine sS H fun K18 k18=>sr 1 rfl<|sE ?_;clear H a;intro a H
 refine k18 _ ?_;clear k18 K18
 refine wp_block ?_
 refine loop_st (X:=Nat) (R0:=_) [1,2] H rfl (fun j=>[(6,.int .i64 (j:Int))]) (fun j=>[]) (fun g j=>j≤l.length∧g+j=l.length∧dS rates.length l j=true) (l.length) 0 ?_ (S.sel [0] G G) (H.keep [6,1,2] rfl) ?_
 · exact ⟨by omega,by omega,rfl⟩
 clear H S a
 intro g2 x2 a w2 hp S H K19 k19
 obtain ⟨j,rfl⟩:∃ y,y=x2:=⟨_,rfl⟩
 refine wp_seq_k fun K20 k20=>?_
 refine sS H fun K21 k21=>sr 2 rfl<|sL cZ rfl<|sr 1 rfl<|sE ?_;clear H a;intro a H
 refine k21 _ ?_;clear k21 K21
 refine condL H rfl (fun hc5=>?_) (fun hc5=>?_)
 ·skip
  refine wp_skip ?_
  refine k20 _ _ ?_
  refine wp_seq_k fun K22 k22=>?_
  refine wp_block ?_
  replace H:=H.keep [1,2,6] rfl
  refine seq_list fun K23 k23=>?_
  refine ls 4 H<|sr 2 rfl<|si cZ cR G G (hl.adr (by omega)) (by omega)<|sd ((aT jE cR rfl S hl (by omega) (by omega)))<|sE ?_;clear H a;intro a H
  refine aI H rfl S iY ?_;clear H a S;intro b7 _ a hb7 hbw7 S H
  refine aC H S (i:=0) G G G G cR G G ?_
  clear H a S;intro _ a S H
  refine k23 _ _ ?_;clear k23 K23
  refine wp_seq_k fun K24 k24=>?_
  have hpd:prevD l j=if 0<j then (l.getD (j-1) Use.zero).day else 0:=by cases j with|zero=>rfl|succ q=>rfl
  have hj9:((j:Int)-1).toNat=j-1:=by omega
  have hpn:=oL hp.2.2
  replace H:=H.keep [1,2,6,7] rfl
  replace S:=S.drew
  refine sD H fun K25 k25=>sf gK rfl<|sl S 0 aE G G G<|sc rfl Tryz.func158 G G (gQ _ _ _ _)<|sr 2 rfl<|sg 13 4 78 91 false G G (fun hg5=>by
      have hq5:=hg5;try simp only [o1,o2,o3,o4,o5,o6,o7,o8,o9,oa] at hq5
      exact sy hg5<|sr 1 rfl<|sy hg5<|sr 1 rfl<|sy hg5<|sr 1 rfl<|sg 9 7 81 90 true G G (fun hg8=>by
           have hq8:=hg8;try simp only [o1,o2,o3,o4,o5,o6,o7,o8,o9,oa] at hq8
           exact sy hg8<|sf gK rfl<|sy hg8<|sl S 0 aE G G G<|sy hg8<|sr 1 rfl<|sy hg8<|sr 1 rfl<|sy hg8<|sd (aR G G (by unfold i64ok;omega))<|sy hg8<|sI cZ cR G G (hl.adr (by omega)) (by omega) (by omega)<|sy hg8<|sp gK rfl<|sy hg8<|slm aE rfl (hl.rd S (by omega) (by omega))<|sy hg8<|sr 1 rfl<|sz 9 G G G)<|sy hg5<|sa G G G<|sz 5 G G G)<|so G G G<|sr 1 rfl<|sg 4 19 93 97 false G G (fun hg20=>by
      have hq20:=hg20;try simp only [o1,o2,o3,o4,o5,o6,o7,o8,o9,oa] at hq20
      exact sy hg20<|sf iX rfl<|sy hg20<|sl S 0 aE G G G<|sy hg20<|sc rfl Tryz.func158 G G (gQ _ _ _ _)<|sy hg20<|sr 1 rfl<|sz 4 G G G)<|so G G G<|sr 1 rfl<|sg 8 25 99 107 false G G (fun hg26=>by
      have hq26:=hg26;try simp only [o1,o2,o3,o4,o5,o6,o7,o8,o9,oa] at hq26
      exact sy hg26<|sf oB rfl<|sy hg26<|sl S 0 aE G G G<|sy hg26<|sf eO rfl<|sy hg26<|sl S 1 gF G G G<|sy hg26<|sL cL rfl<|sy hg26<|sd (aR G G (by unfold i64ok;omega))<|sy hg26<|sc rfl Tryz.func158 G G (gQ _ _ _ _)<|sy hg26<|sr 1 rfl<|sz 8 G G G)<|so G G G<|sE ?_;clear H a;intro a H
  refine k25 _ ?_;clear k25 K25
  refine cond_ H rfl (fun hc6=>?_) (fun hc6=>?_)
  ·skip
   try simp only [o1,o2,o3,o4,o5,o6,o7,o8,o9,oa] at hc6
   rw [hj9] at hc6
   replace H:=H.keep [] rfl
   refine sS H fun K26 k26=>sr 1 rfl<|sE ?_;clear H a;intro a H
   refine k26 _ ?_;clear k26 K26
   refine wp_ret ?_
   refine ret1 (fn:=Tryz.f126) rfl H rfl ?_
   refine ⟨?_,(S.sel [] G G)⟩;unfold cF;rw [if_pos hhd,if_pos hrt,if_pos (by omega)];unfold dS;rw [fP (k:=j) (by omega) (by unfold useOk;simp only [decide_eq_false_iff_not];rw [hpd];omega)];rfl
  try simp only [o1,o2,o3,o4,o5,o6,o7,o8,o9,oa] at hc6
  rw [hj9] at hc6
  refine wp_skip ?_
  refine k24 _ _ ?_
  replace H:=H.keep [1,2,6,7] rfl
  refine sS H fun K27 k27=>sf lJ rfl<|sl S 0 jD G G G<|sr 1 rfl<|sg 14 2 111 125 true G G (fun hg3=>by
      have hq3:=hg3;try simp only [o1,o2,o3,o4,o5,o6,o7,o8,o9,oa] at hq3
      exact sy hg3<|sf eT rfl<|sy hg3<|sf bD rfl<|sy hg3<|sl S 0 aE G G G<|sy hg3<|sf eT rfl<|sy hg3<|sf bA rfl<|sy hg3<|sl S 0 aE G G G<|sy hg3<|sc rfl Tryz.func158 G G (gQ _ _ _ _)<|sy hg3<|sr 1 rfl<|sy hg3<|sr 1 rfl<|sg 4 11 120 124 false G G (fun hg12=>by
           have hq12:=hg12;try simp only [o1,o2,o3,o4,o5,o6,o7,o8,o9,oa] at hq12
           exact sy hg12<|sf eT rfl<|sy hg12<|sf bA rfl<|sy hg12<|sl S 0 aE G G G<|sy hg12<|sr 1 rfl<|sz 4 G G G)<|sy hg3<|so G G G<|sz 11 G G G)<|sa G G G<|sr 1 rfl<|sg 9 18 127 136 false G G (fun hg19=>by
      have hq19:=hg19;try simp only [o1,o2,o3,o4,o5,o6,o7,o8,o9,oa] at hq19
      exact sy hg19<|sf lJ rfl<|sy hg19<|sl S 0 jD G G G<|sy hg19<|sr 1 rfl<|sy hg19<|sr 1 rfl<|sg 4 22 131 135 true G G (fun hg23=>by
           have hq23:=hg23;try simp only [o1,o2,o3,o4,o5,o6,o7,o8,o9,oa] at hq23
           exact sy hg23<|sf eT rfl<|sy hg23<|sd ((aB bB aP rfl S (i:=0) G G))<|sy hg23<|sd (aO dM G G)<|sy hg23<|sd (mO G G)<|sz 4 G G G)<|sy hg19<|sa G G G<|sz 6 G G G)<|so G G G<|sE ?_;clear H a;intro a H
  refine k27 _ ?_;clear k27 K27
  refine cond_ H rfl (fun hc7=>?_) (fun hc7=>?_)
  ·skip
   try simp only [o1,o2,o3,o4,o5,o6,o7,o8,o9,oa] at hc7
   replace H:=H.keep [] rfl
   refine sS H fun K28 k28=>sr 1 rfl<|sE ?_;clear H a;intro a H
   refine k28 _ ?_;clear k28 K28
   refine wp_ret ?_
   refine ret1 (fn:=Tryz.f126) rfl H rfl ?_
   refine ⟨?_,(S.sel [] rfl rfl)⟩;unfold cF;rw [if_pos hhd,if_pos hrt,if_pos (by omega)];unfold dS;rw [fP (k:=j) (by omega) (by unfold useOk;simp only [decide_eq_false_iff_not];generalize l.getD j Use.zero=u at hc6 hc7 ⊢;rintro ⟨_,_,_,_,hm⟩;cases hq:u.meas <;> simp [hq] at hc7 hm <;> omega)];rfl
  try simp only [o1,o2,o3,o4,o5,o6,o7,o8,o9,oa] at hc7
  refine wp_skip ?_
  refine k22 _ _ ?_
  refine sO H<|sr 1 rfl<|sd (aK G G (by unfold i64ok;omega))<|sr 1 rfl<|sE ?_;clear H a;intro a H
  exact k19 (g2-1) (j+1) a _ (by omega) (⟨by omega,by omega,by unfold dS;rw [gM (n:=0)];have h9:=hp.2.2;unfold dS at h9;rw [h9];simp only [Bool.true_and];unfold useOk;simp only [decide_eq_true_eq];rw [hpd] at hpn ⊢;generalize (l.getD (j-1) Use.zero).day=pd at hc6 hpn ⊢;generalize l.getD j Use.zero=u at hc6 hc7 ⊢;cases hq:u.meas <;> simp [hq] at hc7 ⊢ <;> omega⟩) (S.sel [1] G G) (H.keep [6,1,2] rfl)
 refine wp_exit ?_
 refine k17 _ _ ?_
 refine sS H fun K30 k30=>sr 1 rfl<|sE ?_;clear H a;intro a H
 refine k30 _ ?_;clear k30 K30
 refine wp_ret ?_
 refine ret1 (fn:=Tryz.f126) rfl H rfl ?_
 refine ⟨?_,(S.sel [] G G)⟩;have hj9:j=l.length:=by omega
 unfold cF;rw [if_pos hhd,if_pos hrt,if_pos (by omega)];rw [hj9] at hp;dsimp only;rw [if_pos hp.2.2]
theorem Hm (rates:List (Int×Int)) (pwn ptn pag:Int) (RA:Option Addr) (rcp:Nat) (s1 s2:Int) (u:Use) (w:World) (hr:InS w noF 2 RA rates.length (scell rates)) (hrn:rates.length≤9223372036854775807) (hcl:0≤u.cls∧u.cls<rates.length) (hg1:i64ok (cS (⟨rates,pwn,ptn,pag⟩:Part) u).1) (hg2:i64ok (cS (⟨rates,pwn,ptn,pag⟩:Part) u).2) (hg3:i64ok (s1+(cS (⟨rates,pwn,ptn,pag⟩:Part) u).1)) (hg4:i64ok (s2+(cS (⟨rates,pwn,ptn,pag⟩:Part) u).2)) :
    Calls Tryz.prog 184 [.agg [.slice RA rates.length rcp,.int .i64 pwn,.int .i64 ptn,.int .i64 pag].toArray,.agg [.int .i64 s1,.int .i64 s2].toArray,.agg [.int .i64 u.day,.int .i64 u.turns,.int .i64 u.cls,.bool u.meas,.int .i64 u.lo,.int .i64 u.hi].toArray].toArray w (Ret (fun v w'=>v = .agg [.int .i64 (fstep (⟨rates,pwn,ptn,pag⟩:Part) (s1,s2) u).1,.int .i64 (fstep (⟨rates,pwn,ptn,pag⟩:Part) (s1,s2) u).2].toArray∧St w noF [] w')):=by
 refine enter Tryz.func184 rfl Tryz.ntmps184 rfl (fun a H=>?_)
 have S:=St.start w
 refine seq_list fun K1 k1=>?_
 refine aN H rfl S G G ?_;clear H a S;intro b3 _ a hb3 hbw3 S H
 refine aN H rfl S G G ?_;clear H a S;intro b4 _ a hb4 hbw4 S H
 refine aN H rfl S G G ?_;clear H a S;intro b5 _ a hb5 hbw5 S H
 refine aI H rfl S bW ?_;clear H a S;intro b6 _ a hb6 hbw6 S H
 refine k1 _ _ ?_;clear k1 K1
 replace H:=H.keep [3,4,5,6] rfl
 refine seq_list fun K2 k2=>?_
 refine ls 6 H<|sf eO rfl<|sl S 3 gF G G G<|sf oB rfl<|sl S 1 aE G G G<|sI cL aP G G (hr.adr (by omega)) (by omega) (by omega)<|sd ((aT bB aP rfl S hr (by omega) (by omega)))<|sE ?_;clear H a;intro a H
 refine aI H rfl S bW ?_;clear H a S;intro b7 _ a hb7 hbw7 S H
 refine aC H S (i:=0) G G G G aP G G ?_
 clear H a S;intro _ a S H
 refine k2 _ _ ?_;clear k2 K2
 replace H:=H.keep [4,5,6,7] rfl
 refine seq_list fun K3 k3=>?_
 refine ls 17 H<|sf bD rfl<|sl S 3 aE G G G<|sf iX rfl<|sl S 2 aE G G G<|sf bD rfl<|sl S 0 aE G G G<|sd (jN G G (by exact hg1))<|sd (aK G G (by exact hg3))<|sf bA rfl<|sl S 3 aE G G G<|sf iX rfl<|sl S 2 aE G G G<|sf bA rfl<|sl S 0 aE G G G<|sd (jN G G (by exact hg2))<|sd (aK G G (by exact hg4))<|sd (aO dM G G)<|sE ?_;clear H a;intro a H
 refine aI H rfl S bW ?_;clear H a S;intro b8 _ a hb8 hbw8 S H
 refine aC H S (i:=0) G G G G aP G G ?_
 clear H a S;intro _ a S H
 refine k3 _ _ ?_;clear k3 K3
 have SR:=(S.sel [1,2,3,4,5] G G)
 refine meet_sr (X:=Unit) [6,8] H rfl (fun x=>[]) (fun x=>[boxM b8 88 [.int .i64 (fstep (⟨rates,pwn,ptn,pag⟩:Part) (s1,s2) u).1,.int .i64 (fstep (⟨rates,pwn,ptn,pag⟩:Part) (s1,s2) u).2]]) (fun x=>True) SR (fun K5 k5=>?_) ?_
 ·skip
  replace H:=H.keep [5,6,8] rfl
  refine sS H fun K6 k6=>sf lJ rfl<|sl S 3 jD G G G<|sE ?_;clear H a;intro a H
  refine k6 _ ?_;clear k6 K6
  refine cond_ H rfl (fun hc1=>?_) (fun hc1=>?_)
  ·skip
   try simp only [o1,o2,o3,o4,o5,o6,o7,o8,o9,oa] at hc1
   replace H:=H.keep [5,6,8] rfl
   refine one_list ?_
   refine ls 13 H<|sf bD rfl<|sl S 0 aE G G G<|sf eT rfl<|sf bD rfl<|sl S 3 aE G G G<|sd (kV G G)<|sf bA rfl<|sl S 0 aE G G G<|sf eT rfl<|sf bA rfl<|sl S 3 aE G G G<|sd (qZ G G)<|sd (aO dM G G)<|sE ?_;clear H a;intro a H
   refine aC H S (i:=0) G G G G aP G G ?_
   clear H a S;intro _ a S H
   have e9:fstep (⟨rates,pwn,ptn,pag⟩:Part) (s1,s2) u=meetS (addS (s1,s2) (cS (⟨rates,pwn,ptn,pag⟩:Part) u)) (u.lo,u.hi):=by unfold fstep;rw [if_pos hc1]
   replace S:=boxM.same S (i:=0) (cs':=[.int .i64 (fstep (⟨rates,pwn,ptn,pag⟩:Part) (s1,s2) u).1,.int .i64 (fstep (⟨rates,pwn,ptn,pag⟩:Part) (s1,s2) u).2]) rfl (by rw [e9];rfl)
   exact k5 () a _ (trivial) (S.sel [0,1,2,3,4,5] G G) (H.keep [6,8] rfl)
  try simp only [o1,o2,o3,o4,o5,o6,o7,o8,o9,oa] at hc1
  refine wp_skip ?_
  have e9:fstep (⟨rates,pwn,ptn,pag⟩:Part) (s1,s2) u=addS (s1,s2) (cS (⟨rates,pwn,ptn,pag⟩:Part) u):=by unfold fstep;rw [if_neg (by rw [hc1];simp)]
  replace S:=boxM.same S (i:=0) (cs':=[.int .i64 (fstep (⟨rates,pwn,ptn,pag⟩:Part) (s1,s2) u).1,.int .i64 (fstep (⟨rates,pwn,ptn,pag⟩:Part) (s1,s2) u).2]) rfl (by rw [e9];rfl)
  exact k5 () a _ (trivial) (S.sel [0,1,2,3,4,5] G G) (H.keep [6,8] rfl)
 clear SR H S a
 intro xm a wm hp S H
 obtain ⟨x,rfl⟩:∃ y,y=xm:=⟨_,rfl⟩
 replace H:=H.keep [6,8] rfl
 refine seq_list fun K8 k8=>?_
 refine ls 1 H<|sd ((aB bB aP rfl S (i:=0) G G))<|sE ?_;clear H a;intro a H
 refine aC H S (i:=2) G G G G aP G G ?_
 clear H a S;intro _ a S H
 refine k8 _ _ ?_;clear k8 K8
 refine wp_ret ?_
 refine retA (fn:=Tryz.f184) rfl H rfl bB (by exact aP) (cA S (i:=2) rfl) ?_
 exact ⟨rfl,(S.sel [] G G)⟩
theorem qE (rates:List (Int×Int)) (pwn ptn pag:Int) (RA:Option Addr) (rcp:Nat) (l:List Use) (A:Option Addr) (cp:Nat) (w:World) (hr:InS w noF 2 RA rates.length (scell rates)) (hrn:rates.length≤9223372036854775807) (hl:InS w noF 6 A l.length (ucell l)) (hn:l.length≤9223372036854775807) (hok:PartOk (⟨rates,pwn,ptn,pag⟩:Part) l) :
    Calls Tryz.prog 159 [.agg [.slice RA rates.length rcp,.int .i64 pwn,.int .i64 ptn,.int .i64 pag].toArray,.slice A l.length cp].toArray w (Ret (FwdR w (⟨rates,pwn,ptn,pag⟩:Part) l)):=by
 refine enter Tryz.func159 rfl Tryz.ntmps159 rfl (fun a H=>?_)
 have S:=St.start w
 refine seq_list fun K1 k1=>?_
 refine aN H rfl S G G ?_;clear H a S;intro b2 _ a hb2 hbw2 S H
 refine ls 2 H<|sr 2 rfl<|sE ?_;clear H a;intro a H
 refine k1 _ _ ?_;clear k1 K1
 refine sS H fun K2 k2=>sr 1 rfl<|sE ?_;clear H a;intro a H
 refine k2 _ ?_;clear k2 K2
 refine seq_list fun K3 k3=>?_
 refine ls 1 H<|sd (aO dM G G)<|sE ?_;clear H a;intro a H
 refine aI H rfl S bW ?_;clear H a S;intro b7 _ a hb7 hbw7 S H
 refine aC H S (i:=0) G G G G aP G G ?_
 clear H a S;intro _ a S H
 refine k3 _ _ ?_;clear k3 K3
 refine wp_seq_k fun K4 k4=>?_
 refine sS H fun K5 k5=>sr 1 rfl<|sE ?_;clear H a;intro a H
 refine k5 _ ?_;clear k5 K5
 refine wp_block ?_
 replace S:=S.newNil 88 2 (fcell (fun q=>fwd (⟨rates,pwn,ptn,pag⟩:Part) l (q+1)))
 refine loop_st (X:=Nat×Option Addr×Nat) (R0:=_) [1,2,7] H rfl (fun ⟨k,A',c'⟩=>[(6,.slice A' k c'),(8,.int .i64 (k:Int))]) (fun ⟨k,A',c'⟩=>[boxM b7 88 [.int .i64 (fwd (⟨rates,pwn,ptn,pag⟩:Part) l k).1,.int .i64 (fwd (⟨rates,pwn,ptn,pag⟩:Part) l k).2],ownM 88 2 A' k c' (fcell (fun q=>fwd (⟨rates,pwn,ptn,pag⟩:Part) l (q+1)))]) (fun g ⟨k,A',c'⟩=>k≤l.length∧g+k=l.length∧∀ q,q<k→fits (⟨rates,pwn,ptn,pag⟩:Part) l q) (l.length) (0,none,0) ?_ (S.sel [1,0,2] G G) (H.keep [6,8,1,2,7] rfl) ?_
 · exact ⟨by omega,by omega,fun q hq=>by omega⟩
 clear H S a
 intro g1 x1 a w1 hp S H K6 k6
 obtain ⟨k,A',c'⟩:=x1
 dsimp only at hp S H
 refine wp_seq_k fun K7 k7=>?_
 refine sS H fun K8 k8=>sr 2 rfl<|sL cZ rfl<|sr 1 rfl<|sE ?_;clear H a;intro a H
 refine k8 _ ?_;clear k8 K8
 refine condL H rfl (fun hc1=>?_) (fun hc1=>?_)
 ·skip
  refine wp_skip ?_
  refine k7 _ _ ?_
  refine wp_seq_k fun K9 k9=>?_
  refine wp_block ?_
  have hu:=hok.use (k:=k) (by omega);unfold useOk at hu;simp only [decide_eq_true_eq] at hu
  have hgb:=jX hok (k:=k) (by omega)
  have hcls:0≤(l.getD k Use.zero).cls∧(l.getD k Use.zero).cls<rates.length:=by
    have:((⟨rates,pwn,ptn,pag⟩:Part).rates.length:Int)=rates.length:=rfl
    omega
  have hll:=hok.len
  have hfb:=wU hok k (by omega)
  replace H:=H.keep [1,2,6,7,8] rfl
  refine xX 6 (by kernel_rfl) (by kernel_rfl) fun K10 k10=>?_
  replace S:=S.drew
  refine sF H<|sd ((aB dQ eS rfl S (i:=2) G G))<|sd ((aB bB aP rfl S (i:=0) G G))<|sr 2 rfl<|si cZ cR G G (hl.adr (by omega)) (by omega)<|sd ((aT jE cR rfl S hl (by omega) (by omega)))<|sE ?_;clear H a;intro a H
  refine aA H G G Tryz.func184 G G (Hm rates pwn ptn pag RA rcp (fwd (⟨rates,pwn,ptn,pag⟩:Part) l k).1 (fwd (⟨rates,pwn,ptn,pag⟩:Part) l k).2 (l.getD k Use.zero) _ (hr.now S) hrn hcls (by unfold i64ok;omega) (by unfold i64ok;omega) (by unfold i64ok;omega) (by unfold i64ok;omega)) ?_;clear H a
  rintro _ _ a ⟨rfl,S2⟩ H
  replace S:=S.call S2;clear S2
  refine aC H S (i:=0) G G G G aP G G ?_
  clear H a S;intro _ a S H
  refine k10 _ _ ?_;clear k10 K10
  refine wp_seq_k fun K11 k11=>?_
  replace H:=H.keep [1,2,6,7,8] rfl
  refine sS H fun K12 k12=>sf bD rfl<|sl S 0 aE G G G<|sf bA rfl<|sl S 0 aE G G G<|sr 1 rfl<|sE ?_;clear H a;intro a H
  refine k12 _ ?_;clear k12 K12
  refine condL H rfl (fun hc2=>?_) (fun hc2=>?_)
  ·skip
   replace hc2:(fwd (⟨rates,pwn,ptn,pag⟩:Part) l (k+1)).2<(fwd (⟨rates,pwn,ptn,pag⟩:Part) l (k+1)).1:=hc2
   refine sS H fun K13 k13=>sr 3 rfl<|sE ?_;clear H a;intro a H
   refine k13 _ ?_;clear k13 K13
   refine wp_ret ?_
   refine ret2 (fn:=Tryz.f159) rfl H G G ?_
   have e9:atN (⟨rates,pwn,ptn,pag⟩:Part) l=k:=wX ⟨by omega,hp.2.2,fun _ hf=>absurd ((zF hok (by omega) hp.2.2).1 hf) (Int.not_le.2 hc2)⟩
   exact .inr ⟨by omega,by rw [e9],(S.sel [] G G)⟩
  replace hc2:(fwd (⟨rates,pwn,ptn,pag⟩:Part) l (k+1)).1≤(fwd (⟨rates,pwn,ptn,pag⟩:Part) l (k+1)).2:=hc2
  refine wp_skip ?_
  refine k11 _ _ ?_
  replace H:=H.keep [1,2,6,7,8] rfl
  refine one_list ?_
  refine ls 2 H<|sr 1 rfl<|sd ((aB bB aP rfl S (i:=0) G G))<|sE ?_;clear H a;intro a H
  refine aV H rfl S cL aP bW G G G G G G G G G ?_;clear H a S;intro A1 _ a hA1 S H
  refine aZ H rfl S cL aP bW yY G G (i:=2) G G G (ownM.inS S (i:=0) rfl) (hG (two G G)) (by omega) (by omega) ?_;clear H a S;intro A2 c2 _ a S H
  replace S:=S.recell (i:=2) rfl (cell':=fcell (fun q=>fwd (⟨rates,pwn,ptn,pag⟩:Part) l (q+1))) (tL (two G G))
  refine ls 1 H<|sr 1 rfl<|sE ?_;clear H a;intro a H
  refine k9 _ _ ?_
  refine sO H<|sr 1 rfl<|sd (aK G G (by unfold i64ok;omega))<|sr 1 rfl<|sE ?_;clear H a;intro a H
  exact k6 (g1-1) (k+1,_,_) a _ (by omega) (⟨by omega,by omega,fun q hq=>by
    by_cases h:q=k
    · subst h;exact (zF hok (by omega) hp.2.2).2 hc2
    · exact hp.2.2 q (by omega)⟩) (S.sel [1,2,3] G G) (H.keep [6,8,1,2,7] rfl)
 refine wp_exit ?_
 refine k4 _ _ ?_
 replace H:=H.keep [6] rfl
 refine sS H fun K16 k16=>sr 3 rfl<|sE ?_;clear H a;intro a H
 refine k16 _ ?_;clear k16 K16
 refine wp_ret ?_
 refine ret2 (fn:=Tryz.f159) rfl H G G ?_
 have hk9:k=l.length:=by omega
 subst hk9
 exact .inl ⟨wX ⟨Nat.le_refl _,hp.2.2,fun h=>absurd h (Nat.lt_irrefl _)⟩,A',c',rfl,(S.sel [1] G G)⟩
end
section
theorem nC (rates:List (Int×Int)) (pwn ptn pag:Int) (RA:Option Addr) (rcp:Nat) (l:List Use) (A:Option Addr) (cp:Nat) (w:World) (hr:InS w noF 2 RA rates.length (scell rates)) (hrn:rates.length≤9223372036854775807) (hl:InS w noF 6 A l.length (ucell l)) (hn:l.length≤9223372036854775807) :
    Calls Tryz.prog 156 [.agg [.slice RA rates.length rcp,.int .i64 pwn,.int .i64 ptn,.int .i64 pag].toArray,.slice A l.length cp].toArray w (Ret (WearR w (⟨rates,pwn,ptn,pag⟩:Part) l)):=by
 refine enter Tryz.func156 rfl Tryz.ntmps156 rfl (fun a H=>?_)
 have S:=St.start w
 refine seq_list fun K1 k1=>?_
 refine aN H rfl S G G ?_;clear H a S;intro b2 _ a hb2 hbw2 S H
 refine ls 2 H<|sr 2 rfl<|sE ?_;clear H a;intro a H
 refine k1 _ _ ?_;clear k1 K1
 refine wp_seq_k fun K2 k2=>?_
 refine seq_list fun K3 k3=>?_
 refine ls 2 H<|sd ((aB dQ eS rfl S (i:=0) G G))<|sr 1 rfl<|sE ?_;clear H a;intro a H
 refine aA H G G Tryz.func181 G G (qI rates pwn ptn pag RA rcp l A cp _ (hr.now S) hrn (hl.now S) hn) ?_;clear H a
 rintro _ _ a ⟨rfl,S2⟩ H
 replace S:=S.call S2;clear S2
 refine ls 1 H<|sr 1 rfl<|sE ?_;clear H a;intro a H
 refine k3 _ _ ?_;clear k3 K3
 refine sS H fun K4 k4=>sr 2 rfl<|sE ?_;clear H a;intro a H
 refine k4 _ ?_;clear k4 K4
 refine condN H rfl (fun hc1=>?_) (fun hc1=>?_)
 ·skip
  replace H:=H.keep [6] rfl
  refine sS H fun K5 k5=>sr 3 rfl<|sE ?_;clear H a;intro a H
  refine k5 _ ?_;clear k5 K5
  refine wp_ret ?_
  refine ret2 (fn:=Tryz.f156) rfl H G G ?_
  have e9:=Gf (p:=(⟨rates,pwn,ptn,pag⟩:Part)) (l:=l) (by omega)
  exact .inr ⟨by omega,by rw [e9],(S.sel [] G G)⟩
 refine wp_skip ?_
 refine k2 _ _ ?_
 have h0:cF (⟨rates,pwn,ptn,pag⟩:Part) l=0:=by omega
 have hok:=jW h0
 by_cases hA:IsAt (⟨rates,pwn,ptn,pag⟩:Part) l l.length
 ·skip
  replace H:=H.keep [1,2] rfl
  refine seq_list fun K6 k6=>?_
  refine ls 2 H<|sd ((aB dQ eS rfl S (i:=0) G G))<|sr 1 rfl<|sE ?_;clear H a;intro a H
  refine aA H G G Tryz.func182 G G (gP (tN rates pwn ptn pag RA rcp l A cp _ (hr.now S) hrn (hl.now S) hn hok) (fun _ _=>Me hA)) ?_;clear H a
  rintro _ _ a ⟨A',c',rfl,S2⟩ H
  replace S:=S.call S2;clear S2
  refine ls 5 H<|sr 5 rfl<|sE ?_;clear H a;intro a H
  refine k6 _ _ ?_;clear k6 K6
  refine wp_seq_k fun K7 k7=>?_
  replace H:=H.keep [7,8] rfl
  refine sS H fun K8 k8=>sr 2 rfl<|sE ?_;clear H a;intro a H
  refine k8 _ ?_;clear k8 K8
  refine cond_ H rfl (fun hc2=>?_) (fun hc2=>?_)
  ·skip
   skip
   cases hc2
  skip
  refine wp_skip ?_
  refine k7 _ _ ?_
  refine sS H fun K9 k9=>sr 3 rfl<|sE ?_;clear H a;intro a H
  refine k9 _ ?_;clear k9 K9
  refine wp_ret ?_
  refine ret2 (fn:=Tryz.f156) rfl H G G ?_
  exact .inl ⟨sX h0 hA,A',c',rfl,(S.sel [0] G G)⟩
 replace H:=H.keep [1,2] rfl
 refine seq_list fun K10 k10=>?_
 refine ls 2 H<|sd ((aB dQ eS rfl S (i:=0) G G))<|sr 1 rfl<|sE ?_;clear H a;intro a H
 refine aA H G G Tryz.func182 G G (gP (tN rates pwn ptn pag RA rcp l A cp _ (hr.now S) hrn (hl.now S) hn hok) (fun _ _=>Qq hA)) ?_;clear H a
 rintro _ _ a ⟨rfl,S2⟩ H
 replace S:=S.call S2;clear S2
 refine ls 5 H<|sr 5 rfl<|sE ?_;clear H a;intro a H
 refine k10 _ _ ?_;clear k10 K10
 refine wp_seq_k fun K11 k11=>?_
 replace H:=H.keep [7,8] rfl
 refine sS H fun K12 k12=>sr 2 rfl<|sE ?_;clear H a;intro a H
 refine k12 _ ?_;clear k12 K12
 refine cond_ H rfl (fun hc3=>?_) (fun hc3=>?_)
 ·skip
  skip
  refine sS H fun K13 k13=>sr 2 rfl<|sE ?_;clear H a;intro a H
  refine k13 _ ?_;clear k13 K13
  refine wp_ret ?_
  refine ret2 (fn:=Tryz.f156) rfl H G G ?_
  have e9:=Bu h0 hA
  exact .inr ⟨by omega,by rw [e9],(S.sel [] G G)⟩
 skip
 cases hc3
theorem zZ (rates:List (Int×Int)) (pwn ptn pag:Int) (RA:Option Addr) (rcp:Nat) (l:List Use) (A:Option Addr) (cp:Nat) (w:World) (hr:InS w noF 2 RA rates.length (scell rates)) (hrn:rates.length≤9223372036854775807) (hl:InS w noF 6 A l.length (ucell l)) (hn:l.length≤9223372036854775807) :
    Calls Tryz.prog 127 [.agg [.slice RA rates.length rcp,.int .i64 pwn,.int .i64 ptn,.int .i64 pag].toArray,.slice A l.length cp].toArray w (Ret (fun v w'=>v = .tuple #[.int .i64 (refO (⟨rates,pwn,ptn,pag⟩:Part) l).1,.bool (refO (⟨rates,pwn,ptn,pag⟩:Part) l).2.1,.int .i64 (refO (⟨rates,pwn,ptn,pag⟩:Part) l).2.2]∧St w noF [] w')):=by
 refine enter Tryz.func127 rfl Tryz.ntmps127 rfl (fun a H=>?_)
 have S:=St.start w
 refine seq_list fun K1 k1=>?_
 refine aN H rfl S G G ?_;clear H a S;intro b2 _ a hb2 hbw2 S H
 refine ls 3 H<|sr 3 rfl<|sE ?_;clear H a;intro a H
 refine k1 _ _ ?_;clear k1 K1
 refine seq_list fun K2 k2=>?_
 refine ls 2 H<|sd ((aB dQ eS rfl S (i:=0) G G))<|sr 1 rfl<|sE ?_;clear H a;intro a H
 refine aA H G G Tryz.func126 G G (mP rates pwn ptn pag RA rcp l A cp _ (hr.now S) hrn (hl.now S) hn) ?_;clear H a
 rintro _ _ a ⟨rfl,S2⟩ H
 replace S:=S.call S2;clear S2
 refine ls 1 H<|sr 1 rfl<|sE ?_;clear H a;intro a H
 refine k2 _ _ ?_;clear k2 K2
 refine wp_seq_k fun K3 k3=>?_
 replace H:=H.keep [1,2,7] rfl
 refine sS H fun K4 k4=>sr 2 rfl<|sE ?_;clear H a;intro a H
 refine k4 _ ?_;clear k4 K4
 refine condN H rfl (fun hc1=>?_) (fun hc1=>?_)
 ·skip
  refine sS H fun K5 k5=>sr 4 rfl<|sE ?_;clear H a;intro a H
  refine k5 _ ?_;clear k5 K5
  refine wp_ret ?_
  refine ret3 (fn:=Tryz.f127) rfl H G G G ?_
  unfold refO;rw [if_pos (by omega)];exact ⟨rfl,(S.sel [] G G)⟩
 refine wp_skip ?_
 refine k3 _ _ ?_
 have h0:cF (⟨rates,pwn,ptn,pag⟩:Part) l=0:=by omega
 have hok:=jW h0
 rcases (show atN (⟨rates,pwn,ptn,pag⟩:Part) l=l.length∨atN (⟨rates,pwn,ptn,pag⟩:Part) l<l.length from by have:=(wW (⟨rates,pwn,ptn,pag⟩:Part) l).le;omega) with hA|hA
 ·skip
  replace H:=H.keep [1,2] rfl
  refine seq_list fun K6 k6=>?_
  refine ls 2 H<|sd ((aB dQ eS rfl S (i:=0) G G))<|sr 1 rfl<|sE ?_;clear H a;intro a H
  refine aA H G G Tryz.func159 G G (gP (qE rates pwn ptn pag RA rcp l A cp _ (hr.now S) hrn (hl.now S) hn hok) (fun _ _=>Mf hA)) ?_;clear H a
  rintro _ _ a ⟨A',c',rfl,S2⟩ H
  replace S:=S.call S2;clear S2
  refine ls 5 H<|sr 5 rfl<|sE ?_;clear H a;intro a H
  refine k6 _ _ ?_;clear k6 K6
  replace H:=H.keep [9] rfl
  refine sS H fun K7 k7=>sr 1 rfl<|sd (kV G G)<|sr 5 rfl<|sE ?_;clear H a;intro a H
  refine k7 _ ?_;clear k7 K7
  refine wp_ret ?_
  refine ret3 (fn:=Tryz.f127) rfl H G G G ?_
  unfold refO;rw [if_neg (by omega),if_neg (by omega)];exact ⟨rfl,(S.sel [] G G)⟩
 replace H:=H.keep [1,2] rfl
 refine seq_list fun K8 k8=>?_
 refine ls 2 H<|sd ((aB dQ eS rfl S (i:=0) G G))<|sr 1 rfl<|sE ?_;clear H a;intro a H
 refine aA H G G Tryz.func159 G G (gP (qE rates pwn ptn pag RA rcp l A cp _ (hr.now S) hrn (hl.now S) hn hok) (fun _ _=>Qr hA)) ?_;clear H a
 rintro _ _ a ⟨rfl,S2⟩ H
 replace S:=S.call S2;clear S2
 refine ls 5 H<|sr 5 rfl<|sE ?_;clear H a;intro a H
 refine k8 _ _ ?_;clear k8 K8
 replace H:=H.keep [9] rfl
 refine sS H fun K9 k9=>sr 1 rfl<|sd (kV G G)<|sr 5 rfl<|sE ?_;clear H a;intro a H
 refine k9 _ ?_;clear k9 K9
 refine wp_ret ?_
 refine ret3 (fn:=Tryz.f127) rfl H G G G ?_
 unfold refO;rw [if_neg (by omega),if_pos hA];refine ⟨?_,(S.sel [] G G)⟩
 have e1:max 0 ((atN (⟨rates,pwn,ptn,pag⟩:Part) l:Nat):Int)=atN (⟨rates,pwn,ptn,pag⟩:Part) l:=by omega
 rw [e1];rw [decide_eq_true (show (0:Int)≤(atN (⟨rates,pwn,ptn,pag⟩:Part) l:Int) by omega)]
theorem tO (a b:Int) (w:World) :
    Calls Tryz.prog 195 [.agg [.int .i64 a,.int .i64 b].toArray].toArray w (Ret (fun v w'=>v = .int .i64 (Prod.snd (a,b))∧St w noF [] w')):=by
 refine enter Tryz.func195 rfl Tryz.ntmps195 rfl (fun a H=>?_)
 have S:=St.start w
 refine seq_list fun K1 k1=>?_
 refine aN H rfl S G G ?_;clear H a S;intro b1 _ a hb1 hbw1 S H
 refine ls 1 H<|sr 1 rfl<|sE ?_;clear H a;intro a H
 refine k1 _ _ ?_;clear k1 K1
 refine sS H fun K2 k2=>sf bA rfl<|sl S 0 aE G G G<|sr 1 rfl<|sE ?_;clear H a;intro a H
 refine k2 _ ?_;clear k2 K2
 refine wp_ret ?_
 refine ret1 (fn:=Tryz.f195) rfl H rfl ?_
 exact ⟨rfl,(S.sel [] G G)⟩
theorem tP {P:Program} {w:World} {L:List (Nat×Value)} {ty:TypeId} {pos:String} {af:Array Edge} {dd:Option Nat} {g:Option (Nat×Bool)} {x y:Operand} {xt yt:TypeId} {m n:Int} (hx:ev L x=some (.int .i64 m)) (hy:ev L y=some (.int .i64 n)) (h:n<m):Does P L ⟨dd,.binOp .gtr xt x y yt,ty,pos,af,g⟩ w (.bool true):=by
  have h1:=bX (P:=P) (d:=dd) (w:=w) (ty:=ty) (pos:=pos) (af:=af) (g:=g) (xt:=xt) (yt:=yt) hx hy
  rw [decide_eq_true h] at h1
  exact h1
theorem nD {P:Program} {w:World} {L:List (Nat×Value)} {ty:TypeId} {pos:String} {af:Array Edge} {dd:Option Nat} {g:Option (Nat×Bool)} {x y:Operand} {xt yt:TypeId} {m n:Int} (hx:ev L x=some (.int .i64 m)) (hy:ev L y=some (.int .i64 n)) (h:¬ n<m):Does P L ⟨dd,.binOp .gtr xt x y yt,ty,pos,af,g⟩ w (.bool false):=by
  have h1:=bX (P:=P) (d:=dd) (w:=w) (ty:=ty) (pos:=pos) (af:=af) (g:=g) (xt:=xt) (yt:=yt) hx hy
  rw [decide_eq_false h] at h1
  exact h1
theorem Aa (rates : List (Int × Int)) (pwn ptn pag : Int) (RA : Option Addr) (rcp : Nat) (l : List Use) (A : Option Addr) (cp : Nat) (f : Nat) (fn : Func) (e : Int × Int → Int) (w : World) (hr : InS w noF 2 RA rates.length (scell rates)) (hrn : rates.length ≤ 9223372036854775807) (hl : InS w noF 6 A l.length (ucell l)) (hn : l.length ≤ 9223372036854775807) (hf : Tryz.prog.funcs[f]? = some fn) (hfb : fn.body.isNone = false) (hfn : (fn.name == "runtime.NumGoroutine") = false) (hcall : ∀ (a b : Int) (w' : World), Calls Tryz.prog f [.agg [.int .i64 a, .int .i64 b].toArray].toArray w' (Ret fun v w'' => v = .int .i64 (e (a, b)) ∧ St w' noF [] w'')) :
    Calls Tryz.prog 194 [.agg [.slice RA rates.length rcp,.int .i64 pwn,.int .i64 ptn,.int .i64 pag].toArray,.slice A l.length cp,.func (.func f) [].toArray [].toArray].toArray w (Ret (fun v w'=>v = .tuple #[.int .i64 (dO (⟨rates,pwn,ptn,pag⟩:Part) l e).1,.int .i64 (dO (⟨rates,pwn,ptn,pag⟩:Part) l e).2]∧St w noF [] w')):=by
 refine enter Tryz.func194 rfl Tryz.ntmps194 rfl (fun a H=>?_)
 have S:=St.start w
 refine seq_list fun K1 k1=>?_
 refine aN H rfl S G G ?_;clear H a S;intro b3 _ a hb3 hbw3 S H
 refine ls 2 H<|sr 2 rfl<|sE ?_;clear H a;intro a H
 refine k1 _ _ ?_;clear k1 K1
 by_cases hA:wearE (⟨rates,pwn,ptn,pag⟩:Part) l=0
 ·skip
  have h0:=kP hA;have hok:=jW h0.1
  have hh:=hok.hdr;unfold hY at hh;simp only [decide_eq_true_eq] at hh;have hll:=hok.len
  replace H:=H.keep [1,2,3] rfl
  refine seq_list fun K2 k2=>?_
  refine ls 2 H<|sd ((aB dQ eS rfl S (i:=0) G G))<|sr 1 rfl<|sE ?_;clear H a;intro a H
  refine aA H G G Tryz.func156 G G (gP (nC rates pwn ptn pag RA rcp l A cp _ (hr.now S) hrn (hl.now S) hn) (fun _ _=>Hl hA)) ?_;clear H a
  rintro _ _ a ⟨A',c',rfl,S2⟩ H
  replace S:=S.call S2;clear S2
  refine ls 5 H<|sr 5 rfl<|sE ?_;clear H a;intro a H
  refine k2 _ _ ?_;clear k2 K2
  refine wp_seq_k fun K3 k3=>?_
  replace H:=H.keep [1,2,3,8,9] rfl
  refine sS H fun K4 k4=>sr 2 rfl<|sE ?_;clear H a;intro a H
  refine k4 _ ?_;clear k4 K4
  refine condN H rfl (fun hc1=>?_) (fun hc1=>?_)
  ·skip
   all_goals first|(exfalso;omega)|(simp at hc1)
  refine wp_skip ?_
  refine k3 _ _ ?_
  refine sS H fun K5 k5=>sr 1 rfl<|sE ?_;clear H a;intro a H
  refine k5 _ ?_;clear k5 K5
  refine wp_seq_k fun K6 k6=>?_
  refine sS H fun K7 k7=>sr 1 rfl<|sL cZ rfl<|sr 1 rfl<|sE ?_;clear H a;intro a H
  refine k7 _ ?_;clear k7 K7
  refine wp_block ?_
  refine loop_st (X:=Nat) (R0:=_) [2,3,8,22,23] H rfl (fun k=>[(10,.int .i64 (sumT l k)),(24,.int .i64 (k:Int))]) (fun k=>[]) (fun g k=>k≤l.length∧g+k=l.length∧∀ q,q<k→(fun k=>wornB (⟨rates,pwn,ptn,pag⟩:Part) l k (e (bO (⟨rates,pwn,ptn,pag⟩:Part) l k))) q=false) (l.length) 0 ?_ (S.sel [0,1] G G) (H.keep [10,24,2,3,8,22,23] rfl) ?_
  · exact ⟨by omega,by omega,fun q hq=>absurd hq (Nat.not_lt_zero _)⟩
  clear H S a
  intro g1 x1 a w1 hp S H K8 k8
  obtain ⟨k,rfl⟩:∃ y,y=x1:=⟨_,rfl⟩
  refine sS H fun K9 k9=>sr 1 rfl<|sE ?_;clear H a;intro a H
  refine k9 _ ?_;clear k9 K9
  refine wp_seq_k fun K10 k10=>?_
  refine condL H rfl (fun hc2=>?_) (fun hc2=>?_)
  ·skip
   refine wp_skip ?_
   refine k10 _ _ ?_
   refine wp_seq_k fun K11 k11=>?_
   refine wp_block ?_
   refine seq_list fun K12 k12=>?_
   refine ls 3 H<|sr 1 rfl<|si cZ cR G G (hl.adr (by omega)) (by omega)<|sd ((aT jE cR rfl S hl (by omega) (by omega)))<|sE ?_;clear H a;intro a H
   refine aI H rfl S iY ?_;clear H a S;intro b12 _ a hb12 hbw12 S H
   refine ls 1 H<|sr 1 rfl<|sE ?_;clear H a;intro a H
   refine aC H S (i:=0) G G G G cR G G ?_
   clear H a S;intro _ a S H
   refine k12 _ _ ?_;clear k12 K12
   have hsb:=Pd hok k (by omega)
   have hu:=hok.use (k:=k) (by omega);unfold useOk at hu;simp only [decide_eq_true_eq] at hu
   replace H:=H.keep [2,3,8,10,11,12,22,23,24] rfl
   refine sS H fun K13 k13=>sr 1 rfl<|sf iX rfl<|sl S 0 aE G G G<|sd (aK G G (by unfold i64ok;omega))<|sr 1 rfl<|sE ?_;clear H a;intro a H
   refine k13 _ ?_;clear k13 K13
   rcases (show ptn<sumT l (k+1)∨(¬ ptn<sumT l (k+1)∧pag<(l.getD k Use.zero).day)∨(¬ ptn<sumT l (k+1)∧¬ pag<(l.getD k Use.zero).day) from by omega) with hB|hB|hB
   ·skip
    replace H:=H.keep [2,3,8,10,11,12,22,23,24] rfl
    replace S:=S.drew
    refine seq_wq [(0,true),(1,true),(2,true),(3,true),(4,true),(5,true),(6,true),(7,true),(8,true),(9,true),(10,true),(11,true),(12,true),(13,true),(14,true),(15,true),(16,true),(17,true),(18,true),(19,true),(20,true),(21,true),(22,true)] (by kernel_rfl) (by kernel_rfl) (S.sel [0,1,2] G G) fun K14 k14=>?_
    refine qF H<|qr 1 rfl<|qd rfl (fun _ S=>(aD nU rfl))<|qd rfl (fun _ S=>aG aE rfl (boxM.rd S (i:=2) G G))<|qd rfl (fun _ S=>tP G G hB)<|qr 1 rfl<|qK ?_;clear H a;intro a H
    refine aJ H G G G G G ?_;clear H a;intro a H
    refine aJ H G G G G G ?_;clear H a;intro a H
    refine aJ H G G G G G ?_;clear H a;intro a H
    refine aJ H G G G G G ?_;clear H a;intro a H
    refine aJ H G G G G G ?_;clear H a;intro a H
    refine qF H<|qd rfl (fun _ S=>(aS G G G))<|qr 1 rfl<|qK ?_;clear H a;intro a H
    refine aJ H G G G G G ?_;clear H a;intro a H
    refine aJ H G G G G G ?_;clear H a;intro a H
    refine aJ H G G G G G ?_;clear H a;intro a H
    refine aJ H G G G G G ?_;clear H a;intro a H
    refine aJ H G G G G G ?_;clear H a;intro a H
    refine aJ H G G G G G ?_;clear H a;intro a H
    refine aJ H G G G G G ?_;clear H a;intro a H
    refine aJ H G G G G G ?_;clear H a;intro a H
    refine aJ H G G G G G ?_;clear H a;intro a H
    refine aJ H G G G G G ?_;clear H a;intro a H
    refine qF H<|qd rfl (fun _ S=>(aS G G G))<|qK ?_;clear H a;intro a H
    refine bM ?_
    refine k14 _ _ ?_
    clear k14 K14
    refine cond_ H rfl (fun hc3=>?_) (fun hc3=>?_)
    ·skip
     skip
     replace H:=H.keep [11] rfl
     refine sS H fun K15 k15=>sr 3 rfl<|sE ?_;clear H a;intro a H
     refine k15 _ ?_;clear k15 K15
     refine wp_ret ?_
     refine ret2 (fn:=Tryz.f194) rfl H G G ?_
     have e9:iZ (fun k=>wornB (⟨rates,pwn,ptn,pag⟩:Part) l k (e (bO (⟨rates,pwn,ptn,pag⟩:Part) l k))) l.length=k:=mD (by omega) (by show wornB _ _ _ _=true;unfold wornB;rw [decide_eq_true hB];simp) hp.2.2
     unfold dO;rw [if_neg (by omega),e9];exact ⟨rfl,(S.sel [] G G)⟩
    skip
    cases hc3
   ·skip
    replace H:=H.keep [2,3,8,10,11,12,22,23,24] rfl
    replace S:=S.drew
    refine seq_wq [(0,true),(1,true),(2,true),(3,true),(4,true),(5,true),(6,true),(7,true),(8,true),(9,true),(10,true),(11,true),(12,true),(13,true),(14,true),(15,true),(16,true),(17,true),(18,true),(19,true),(20,true),(21,true),(22,true)] (by kernel_rfl) (by kernel_rfl) (S.sel [0,1,2] G G) fun K16 k16=>?_
    refine qF H<|qr 1 rfl<|qd rfl (fun _ S=>(aD nU rfl))<|qd rfl (fun _ S=>aG aE rfl (boxM.rd S (i:=2) G G))<|qd rfl (fun _ S=>nD G G hB.1)<|qr 1 rfl<|qK ?_;clear H a;intro a H
    refine aF H G G G G (fun _ S=>(aD gK rfl)) ?_;clear H a;intro a H
    refine aF H G G G G (fun _ S=>aG aE rfl (boxM.rd S (i:=0) G G)) ?_;clear H a;intro a H
    refine aF H G G G G (fun _ S=>(aD qL rfl)) ?_;clear H a;intro a H
    refine aF H G G G G (fun _ S=>aG aE rfl (boxM.rd S (i:=2) G G)) ?_;clear H a;intro a H
    refine aF H G G G G (fun _ S=>tP G G hB.2) ?_;clear H a;intro a H
    refine qF H<|qd rfl (fun _ S=>(aW G G G))<|qr 1 rfl<|qK ?_;clear H a;intro a H
    refine aJ H G G G G G ?_;clear H a;intro a H
    refine aJ H G G G G G ?_;clear H a;intro a H
    refine aJ H G G G G G ?_;clear H a;intro a H
    refine aJ H G G G G G ?_;clear H a;intro a H
    refine aJ H G G G G G ?_;clear H a;intro a H
    refine aJ H G G G G G ?_;clear H a;intro a H
    refine aJ H G G G G G ?_;clear H a;intro a H
    refine aJ H G G G G G ?_;clear H a;intro a H
    refine aJ H G G G G G ?_;clear H a;intro a H
    refine aJ H G G G G G ?_;clear H a;intro a H
    refine qF H<|qd rfl (fun _ S=>(aS G G G))<|qK ?_;clear H a;intro a H
    refine bM ?_
    refine k16 _ _ ?_
    clear k16 K16
    refine cond_ H rfl (fun hc4=>?_) (fun hc4=>?_)
    ·skip
     skip
     replace H:=H.keep [11] rfl
     refine sS H fun K17 k17=>sr 3 rfl<|sE ?_;clear H a;intro a H
     refine k17 _ ?_;clear k17 K17
     refine wp_ret ?_
     refine ret2 (fn:=Tryz.f194) rfl H G G ?_
     have e9:iZ (fun k=>wornB (⟨rates,pwn,ptn,pag⟩:Part) l k (e (bO (⟨rates,pwn,ptn,pag⟩:Part) l k))) l.length=k:=mD (by omega) (by show wornB _ _ _ _=true;unfold wornB;rw [decide_eq_true hB.2];simp) hp.2.2
     unfold dO;rw [if_neg (by omega),e9];exact ⟨rfl,(S.sel [] G G)⟩
    skip
    cases hc4
   replace H:=H.keep [2,3,8,10,11,12,22,23,24] rfl
   replace S:=S.drew
   refine seq_wq [(0,true),(1,true),(2,true),(3,true),(4,true),(5,true),(6,true),(7,true),(8,true),(9,true),(10,true),(11,true),(12,true),(13,true),(14,true),(15,true),(16,true),(18,true),(19,true),(20,true),(17,false),(21,true),(22,true)] (by kernel_rfl) (by kernel_rfl) (S.sel [0,1,2] G G) fun K18 k18=>?_
   refine qF H<|qr 1 rfl<|qd rfl (fun _ S=>(aD nU rfl))<|qd rfl (fun _ S=>aG aE rfl (boxM.rd S (i:=2) G G))<|qd rfl (fun _ S=>nD G G hB.1)<|qr 1 rfl<|qK ?_;clear H a;intro a H
   refine aF H G G G G (fun _ S=>(aD gK rfl)) ?_;clear H a;intro a H
   refine aF H G G G G (fun _ S=>aG aE rfl (boxM.rd S (i:=0) G G)) ?_;clear H a;intro a H
   refine aF H G G G G (fun _ S=>(aD qL rfl)) ?_;clear H a;intro a H
   refine aF H G G G G (fun _ S=>aG aE rfl (boxM.rd S (i:=2) G G)) ?_;clear H a;intro a H
   refine aF H G G G G (fun _ S=>nD G G hB.2) ?_;clear H a;intro a H
   refine qF H<|qd rfl (fun _ S=>(aW G G G))<|qr 1 rfl<|qK ?_;clear H a;intro a H
   refine aF H G G G G (fun _ S=>aL rfl) ?_;clear H a;intro a H
   refine aF H G G G G (fun _ S=>aL rfl) ?_;clear H a;intro a H
   refine aF H G G G G (fun _ S=>aL rfl) ?_;clear H a;intro a H
   refine aF H G G G G (fun _ S=>bP cL aP G G (ownM.adr S (i:=1) rfl (by omega)) (by omega)) ?_;clear H a;intro a H
   refine aF H G G G G (fun _ S=>(vK bB aP rfl S (i:=1) rfl (by omega) (by omega))) ?_;clear H a;intro a H
   refine aF H G G G G (fun _ S=>(aD wC rfl)) ?_;clear H a;intro a H
   refine aF H G G G G (fun _ S=>aG aE rfl (boxM.rd S (i:=2) G G)) ?_;clear H a;intro a H
   refine aF H G G G G (fun _ S=>jN G G (by unfold i64ok;omega)) ?_;clear H a;intro a H
   refine aU rfl ?_
   refine aX H G G ?_
   refine iS (fs:=[]) (cs:=[]) (vs:=[.agg [.int .i64 (bO (⟨rates,pwn,ptn,pag⟩:Part) l k).1,.int .i64 (bO (⟨rates,pwn,ptn,pag⟩:Part) l k).2].toArray]) H G G G (hf) (hfb) (hfn) (by exact hcall (bO (⟨rates,pwn,ptn,pag⟩:Part) l k).1 (bO (⟨rates,pwn,ptn,pag⟩:Part) l k).2 _) ?_;clear H a
   rintro _ _ a ⟨rfl,S2⟩ H
   replace S:=S.call S2;clear S2
   refine wpList_nil (And.intro (S.sel [0,1,2] G G) ?_)
   refine aF H G G G G (fun _ S=>bX G G) ?_;clear H a;intro a H
   refine qF H<|qd rfl (fun _ S=>(aW G G G))<|qK ?_;clear H a;intro a H
   refine bM ?_
   refine k18 _ _ ?_
   clear k18 K18
   refine cond_ H rfl (fun hc5=>?_) (fun hc5=>?_)
   ·skip
    skip
    replace H:=H.keep [11] rfl
    refine sS H fun K19 k19=>sr 3 rfl<|sE ?_;clear H a;intro a H
    refine k19 _ ?_;clear k19 K19
    refine wp_ret ?_
    refine ret2 (fn:=Tryz.f194) rfl H G G ?_
    have e9:iZ (fun k=>wornB (⟨rates,pwn,ptn,pag⟩:Part) l k (e (bO (⟨rates,pwn,ptn,pag⟩:Part) l k))) l.length=k:=mD (by omega) (by show wornB _ _ _ _=true;unfold wornB;rw [decide_eq_false hB.1,decide_eq_false hB.2];exact hc5) hp.2.2
    unfold dO;rw [if_neg (by omega),e9];exact ⟨rfl,(S.sel [] G G)⟩
   skip
   refine wp_skip ?_
   refine k11 _ _ ?_
   refine sO H<|sd (aK G G (by unfold i64ok;omega))<|sr 1 rfl<|sE ?_;clear H a;intro a H
   exact k8 (g1-1) (k+1) a _ (by omega) (⟨by omega,by omega,fun q hq=>by
     by_cases h:q=k
     · subst h;show wornB _ _ _ _=false;unfold wornB;rw [decide_eq_false hB.1,decide_eq_false hB.2];exact hc5
     · exact hp.2.2 q (by omega)⟩) (S.sel [1,2] G G) (H.keep [10,24,2,3,8,22,23] rfl)
  refine wp_exit ?_
  refine k6 _ _ ?_
  refine sS H fun K21 k21=>sr 2 rfl<|sE ?_;clear H a;intro a H
  refine k21 _ ?_;clear k21 K21
  refine wp_ret ?_
  refine ret2 (fn:=Tryz.f194) rfl H G G ?_
  have hk9:k=l.length:=by omega
  subst hk9
  unfold dO;rw [if_neg (by omega),pY hp.2.2];exact ⟨rfl,(S.sel [] G G)⟩
 skip
 replace H:=H.keep [1,2,3] rfl
 refine seq_list fun K22 k22=>?_
 refine ls 2 H<|sd ((aB dQ eS rfl S (i:=0) G G))<|sr 1 rfl<|sE ?_;clear H a;intro a H
 refine aA H G G Tryz.func156 G G (gP (nC rates pwn ptn pag RA rcp l A cp _ (hr.now S) hrn (hl.now S) hn) (fun _ _=>Mg hA)) ?_;clear H a
 rintro _ _ a ⟨rfl,S2⟩ H
 replace S:=S.call S2;clear S2
 refine ls 5 H<|sr 5 rfl<|sE ?_;clear H a;intro a H
 refine k22 _ _ ?_;clear k22 K22
 refine wp_seq_k fun K23 k23=>?_
 replace H:=H.keep [1,2,3,8,9] rfl
 refine sS H fun K24 k24=>sr 2 rfl<|sE ?_;clear H a;intro a H
 refine k24 _ ?_;clear k24 K24
 refine condN H rfl (fun hc6=>?_) (fun hc6=>?_)
 ·skip
  refine sS H fun K25 k25=>sr 3 rfl<|sE ?_;clear H a;intro a H
  refine k25 _ ?_;clear k25 K25
  refine wp_ret ?_
  refine ret2 (fn:=Tryz.f194) rfl H G G ?_
  unfold dO;rw [if_pos hA];exact ⟨rfl,(S.sel [] G G)⟩
 all_goals (exfalso;omega)
theorem xD (rates:List (Int×Int)) (pwn ptn pag:Int) (RA:Option Addr) (rcp:Nat) (l:List Use) (A:Option Addr) (cp:Nat) (w:World) (hr:InS w noF 2 RA rates.length (scell rates)) (hrn:rates.length≤9223372036854775807) (hl:InS w noF 6 A l.length (ucell l)) (hn:l.length≤9223372036854775807) :
    Calls Tryz.prog 183 [.agg [.slice RA rates.length rcp,.int .i64 pwn,.int .i64 ptn,.int .i64 pag].toArray,.slice A l.length cp].toArray w (Ret (fun v w'=>v = .tuple #[.int .i64 (dO (⟨rates,pwn,ptn,pag⟩:Part) l Prod.snd).1,.int .i64 (dO (⟨rates,pwn,ptn,pag⟩:Part) l Prod.snd).2]∧St w noF [] w')):=by
 refine enter Tryz.func183 rfl Tryz.ntmps183 rfl (fun a H=>?_)
 have S:=St.start w
 refine seq_list fun K1 k1=>?_
 refine aN H rfl S G G ?_;clear H a S;intro b2 _ a hb2 hbw2 S H
 refine ls 2 H<|sr 2 rfl<|sE ?_;clear H a;intro a H
 refine k1 _ _ ?_;clear k1 K1
 replace H:=H.keep [1,2] rfl
 refine seq_list fun K2 k2=>?_
 refine ls 2 H<|sd ((aB dQ eS rfl S (i:=0) G G))<|sr 1 rfl<|sE ?_;clear H a;intro a H
 refine aA H G G Tryz.func194 G G (Aa rates pwn ptn pag RA rcp l A cp 195 _ Prod.snd _ (hr.now S) hrn (hl.now S) hn Tryz.func195 G G (fun a b w'=>tO a b w')) ?_;clear H a
 rintro _ _ a ⟨rfl,S2⟩ H
 replace S:=S.call S2;clear S2
 refine ls 4 H<|sr 4 rfl<|sE ?_;clear H a;intro a H
 refine k2 _ _ ?_;clear k2 K2
 refine wp_ret ?_
 refine ret2 (fn:=Tryz.f183) rfl H G G ?_
 exact ⟨rfl,(S.sel [] G G)⟩
end
section
theorem xE (l:List Use) (A:Option Addr) (cp:Nat) (w:World) (hl:InS w noF 6 A l.length (ucell l)) (hn:l.length*48≤140737488351232) :
    Calls Tryz.prog 60 [.slice A l.length cp].toArray w (Ret (fun v w'=>∃ A' c',v = .slice A' l.length c'∧St w noF [ownM 247 6 A' l.length c' (ucell l)] w')):=by
 have hmx:maxLen=9223372036854775807:=rfl
 refine enter Tryz.func60 rfl Tryz.ntmps60 rfl (fun a H=>?_)
 have S:=St.start w
 refine sS H fun K1 k1=>sr 1 rfl<|sE ?_;clear H a;intro a H
 refine k1 _ ?_;clear k1 K1
 refine seq_list fun K2 k2=>?_
 refine dK H rfl S cZ cR (ucell l) ?_;clear H a S;intro A1 _ a S H
 refine ls 1 H<|sr 1 rfl<|sE ?_;clear H a;intro a H
 refine aZ H rfl S cZ cR iY Bj G G (i:=0) G G G (hl.now S) (Bv l) (by omega) (by omega) ?_;clear H a S;intro A2 c2 _ a S H
 rw [Nat.zero_add] at H
 replace S:=S.recell (i:=0) (cell':=ucell l) (by rw [Nat.zero_add];rfl) (fun k j hk hj=>by unfold capp;rw [if_neg (by omega)];rfl)
 refine ls 1 H<|sr 1 rfl<|sE ?_;clear H a;intro a H
 refine k2 _ _ ?_;clear k2 K2
 refine wp_ret ?_
 refine ret1 (fn:=Tryz.f60) rfl H rfl ?_
 exact ⟨_,_,rfl,(S.sel [0] G G)⟩
theorem tQ (rates:List (Int×Int)) (pwn ptn pag:Int) (RA:Option Addr) (rcp:Nat) (w:World) (hr:InS w noF 2 RA rates.length (scell rates)) (hrn:rates.length*16≤140737488351232) :
    Calls Tryz.prog 59 [.agg [.slice RA rates.length rcp,.int .i64 pwn,.int .i64 ptn,.int .i64 pag].toArray].toArray w (Ret (fun v w'=>∃ A' c',v = .agg [.slice A' rates.length c',.int .i64 pwn,.int .i64 ptn,.int .i64 pag].toArray∧St w noF [ownM 88 2 A' rates.length c' (scell rates)] w')):=by
 have hmx:maxLen=9223372036854775807:=rfl
 refine enter Tryz.func59 rfl Tryz.ntmps59 rfl (fun a H=>?_)
 have S:=St.start w
 refine seq_list fun K1 k1=>?_
 refine aN H rfl S G G ?_;clear H a S;intro b1 _ a hb1 hbw1 S H
 refine aI H rfl S Sx ?_;clear H a S;intro b2 _ a hb2 hbw2 S H
 refine k1 _ _ ?_;clear k1 K1
 refine seq_list fun K2 k2=>?_
 refine ls 1 H<|sd ((aB dQ eS rfl S (i:=1) G G))<|sE ?_;clear H a;intro a H
 refine aI H rfl S Sx ?_;clear H a S;intro b3 _ a hb3 hbw3 S H
 refine aC H S (i:=0) G G G G eS G G ?_
 clear H a S;intro _ a S H
 refine k2 _ _ ?_;clear k2 K2
 replace H:=H.keep [1,2,3] rfl
 refine seq_list fun K3 k3=>?_
 refine dK H rfl S cL aP (scell rates) ?_;clear H a S;intro A1 _ a S H
 refine ls 2 H<|sf eO rfl<|sl S 3 gF G G G<|sE ?_;clear H a;intro a H
 refine aZ H rfl S cL aP bW yY G G (i:=0) G G G (hr.now S) (Bw rates) (by omega) (by omega) ?_;clear H a S;intro A2 c2 _ a S H
 rw [Nat.zero_add] at H
 replace S:=S.recell (i:=0) (cell':=scell rates) (by rw [Nat.zero_add];rfl) (fun k j hk hj=>by unfold capp;rw [if_neg (by omega)];rfl)
 refine ls 1 H<|sf eO rfl<|sE ?_;clear H a;intro a H
 refine aC H S (i:=1) G G G G Xh G G ?_
 clear H a S;intro _ a S H
 refine k3 _ _ ?_;clear k3 K3
 refine seq_list fun K4 k4=>?_
 refine ls 1 H<|sd ((aB dQ eS rfl S (i:=1) G G))<|sE ?_;clear H a;intro a H
 refine aC H S (i:=2) G G G G eS G G ?_
 clear H a S;intro _ a S H
 refine k4 _ _ ?_;clear k4 K4
 refine wp_ret ?_
 refine retA (fn:=Tryz.f59) rfl H rfl dQ (by exact eS) (cA S (i:=2) rfl) ?_
 exact ⟨_,_,rfl,(S.sel [0] G G)⟩
end
section
theorem Mh {w:World} {p:Part} {l:List Use} {v:Value} {w':World} (h:WearR w p l v w'):∃ A n c,v = .tuple #[.slice A n c,.int .i64 (wearE p l)]∧St w noF [] w':=by
  rcases h with ⟨h0,A,c,rfl,S⟩|⟨_,rfl,S⟩
  · exact ⟨A,_,c,by rw [h0],S.sel [] rfl rfl⟩
  · exact ⟨none,0,0,rfl,S⟩
theorem nE {l:List Use} {k:Nat} (h:k+1=l.length):(l.getD k Use.zero).day=prevD l l.length:=by rw [←h];rfl
theorem tR {p:Part} {l:List Use} (h:wearE p l=0):0≤prevD l l.length∧p.rates.length≤4:=by
  have h1:=jW (kP h).1
  have h2:=h1.hdr
  unfold hY at h2
  simp only [decide_eq_true_eq] at h2
  exact ⟨oL h1.uses,h2.2.1⟩
theorem Ab {P:Int} {ps:List Psg} {xs:List Int} (V:StV P ps xs) {n:Nat} (hn:n<ps.length):(∀ j,j<n→0≤(ps.getD n Psg.zero).mach→(ps.getD j Psg.zero).mach≠(ps.getD n Psg.zero).mach)∧∀ j,j<n→(ps.getD n Psg.zero).mach<0→(ps.getD j Psg.zero).mach=(ps.getD n Psg.zero).mach→(ps.getD j Psg.zero).mach<0:=
  ⟨fun j hj h0=>V.mach n hn h0 j hj,fun j _ h0 e=>by omega⟩
theorem Qt {pl:Int} {ps:List Psg} {xs:List Int} {day:List Hq} {l:List Prm} (h:keptE pl ps xs day l=0):StV pl ps xs:=oC (wS (zB h).1).1
theorem Qu {pl:Int} {ps:List Psg} {xs:List Int} {day:List Hq} {l:List Prm}:(keptV pl ps xs day l).2.2.2=keptE pl ps xs day l:=by
  unfold keptV
  split
  · rfl
  · split
    · dsimp only;omega
    · dsimp only;omega
theorem oM {days:Int} {s:Spr}:sprB days s=true↔((0≤s.day∧s.day≤days-1)∧(0≤s.kind∧s.kind≤3)∧(1≤s.many∧s.many≤8)):=by unfold sprB;rw [decide_eq_true_eq]
theorem Mi {pe:List Int} {k:Nat} (h:∀ q,q<k→0≤pe.getD q 0∧pe.getD q 0≤1000) (hk:0≤pe.getD k 0∧pe.getD k 0≤1000):∀ q,q<k+1→0≤pe.getD q 0∧pe.getD q 0≤1000:=fun q hq=>by
  by_cases e:q=k
  · subst e;exact hk
  · exact h q (by omega)
theorem eU {f:Nat→Bool} {k:Nat} (h:∀ q,q<k→f q=true) (hk:f k=true):∀ q,q<k+1→f q=true:=fun q hq=>by
  by_cases e:q=k
  · subst e;exact hk
  · exact h q (by omega)
theorem bK (n lo hi:Int) (w:World) :
    Calls Tryz.prog 82 [.int .i64 n,.int .i64 lo,.int .i64 hi].toArray w (Ret (fun v w'=>v = .bool (decide (lo≤n)&&decide (n≤hi))∧w'=w)):=by
 refine enter Tryz.func82 rfl Tryz.ntmps82 rfl (fun a H=>?_)
 have S:=St.start w
 refine sS H fun K1 k1=>sr 1 rfl<|sE ?_;clear H a;intro a H
 refine k1 _ ?_;clear k1 K1
 replace H:=H.keep [0,1,2] rfl
 refine sS H fun K2 k2=>sr 4 rfl<|sg 3 3 10 13 true G G (fun hg4=>sy hg4<|sr 1 rfl<|sy hg4<|sr 1 rfl<|sy hg4<|sr 1 rfl<|sz 3 G G G)<|sa G G G<|sr 1 rfl<|sE ?_;clear H a;intro a H
 refine k2 _ ?_;clear k2 K2
 refine wp_ret ?_
 refine ret1 (fn:=Tryz.f82) rfl H rfl ?_
 exact ⟨rfl,rfl⟩
theorem Qv (u:Unt) (ps:List Psg) (us:List Unt) (i mb:Nat) (w:World) (F:Nat→Prop) (S:St w F [mapK (fun n:Int=>Value.int .i64 n) mb (macP ps us ps.length i)] w) (hur:InS w F 2 u.RA u.rates.length (scell u.rates)) (hurn:u.rates.length≤9223372036854775807) (huu:InS w F 6 u.UA u.uses.length (ucell u.uses)) (huun:u.uses.length≤9223372036854775807) :
    Calls Tryz.prog 124 [.agg [.int .i64 u.mach,.int .i64 u.every,.int .i64 u.seen,.slice u.RA u.rates.length u.rc,.int .i64 u.worn,.int .i64 u.turns,.int .i64 u.age,.slice u.UA u.uses.length u.uc,.int .i64 u.old,.int .i64 u.tn,.int .i64 u.cl,.int .i64 u.kind].toArray,.map (some mb)].toArray w (Ret (fun v w'=>v = .bool (untU ps us i u)∧St w F [mapK (fun n:Int=>Value.int .i64 n) mb (macP ps us ps.length i)] w')):=by
 refine enter Tryz.func124 rfl Tryz.ntmps124 rfl (fun a H=>?_)
 skip
 refine seq_list fun K1 k1=>?_
 refine aN H rfl S G G ?_;clear H a S;intro b2 _ a hb2 hbw2 S H
 refine ls 1 H<|sr 1 rfl<|sE ?_;clear H a;intro a H
 refine k1 _ _ ?_;clear k1 K1
 refine wp_seq_k fun K2 k2=>?_
 replace H:=H.keep [1,2] rfl
 refine sS H fun K3 k3=>sr 1 rfl<|sf nV rfl<|sl S 0 aE G G G<|sd ((kQ S (i:=1) rfl Bl (iP rfl) G G G (fun h hh=>hh u.mach):Does _ _ _ _ (.bool (freeM ps us i u.mach))))<|sr 2 rfl<|sg 4 5 14 18 false G G (fun hg6=>sy hg6<|sf mB rfl<|sy hg6<|sl S 0 aE G G G<|sy hg6<|sc rfl Tryz.func82 G G (bK _ _ _ _)<|sy hg6<|sr 1 rfl<|sz 4 G G G)<|so G G G<|sr 1 rfl<|sg 4 11 20 24 false G G (fun hg12=>sy hg12<|sf qM rfl<|sy hg12<|sl S 0 aE G G G<|sy hg12<|sc rfl Tryz.func82 G G (bK _ _ _ _)<|sy hg12<|sr 1 rfl<|sz 4 G G G)<|so G G G<|sr 1 rfl<|sg 4 17 26 30 false G G (fun hg18=>sy hg18<|sf Dq rfl<|sy hg18<|sl S 0 aE G G G<|sy hg18<|sc rfl Tryz.func82 G G (bK _ _ _ _)<|sy hg18<|sr 1 rfl<|sz 4 G G G)<|so G G G<|sE ?_;clear H a;intro a H
 refine k3 _ ?_;clear k3 K3
 refine cond_ H rfl (fun hc1=>?_) (fun hc1=>?_)
 ·skip
  try simp only [o1,o2,o3,o4,o5,o6,o7,o8,o9,oa] at hc1
  replace H:=H.keep [] rfl
  refine sS H fun K4 k4=>sr 1 rfl<|sE ?_;clear H a;intro a H
  refine k4 _ ?_;clear k4 K4
  refine wp_ret ?_
  refine ret1 (fn:=Tryz.f124) rfl H rfl ?_
  rw [zJ (ps:=ps) (us:=us) (i:=i) (u:=u) (fun h=>by have h1:=h.free;have h2:=h.i;unfold untI at h2;rw [h1] at hc1;simp only [Bool.true_eq_false,Bool.not_true,Bool.false_eq_true,not_true_eq_false,false_or] at hc1;omega)];exact ⟨rfl,(S.sel [1] G G)⟩
 try simp only [o1,o2,o3,o4,o5,o6,o7,o8,o9,oa] at hc1
 refine wp_skip ?_
 refine k2 _ _ ?_
 refine wp_seq_k fun K5 k5=>?_
 replace H:=H.keep [2] rfl
 refine seq_list fun K6 k6=>?_
 refine ls 4 H<|sf jH rfl<|sd ((aB dQ eS rfl S (i:=0) G G))<|sf fD rfl<|sl S 0 iI G G G<|sE ?_;clear H a;intro a H
 refine aA H G G Tryz.func156 G G (gP (nC u.rates u.worn u.turns u.age u.RA u.rc u.uses u.UA u.uc _ (hur.now S) hurn (huu.now S) huun) (fun _ _ h=>Mh h)) ?_;clear H a
 rintro _ _ a ⟨WA,wn,wc,rfl,S2⟩ H
 replace S:=S.call S2;clear S2
 refine ls 5 H<|sr 5 rfl<|sE ?_;clear H a;intro a H
 refine k6 _ _ ?_;clear k6 K6
 replace H:=H.keep [2,6] rfl
 refine sS H fun K7 k7=>sr 3 rfl<|sg 4 2 42 46 false G G (fun hg3=>sy hg3<|sf fD rfl<|sy hg3<|sl S 0 iI G G G<|sy hg3<|sL cZ rfl<|sy hg3<|sr 1 rfl<|sz 4 G G G)<|so G G G<|sE ?_;clear H a;intro a H
 refine k7 _ ?_;clear k7 K7
 refine cond_ H rfl (fun hc2=>?_) (fun hc2=>?_)
 ·skip
  try simp only [o1,o2,o3,o4,o5,o6,o7,o8,o9,oa] at hc2
  refine sS H fun K8 k8=>sr 1 rfl<|sE ?_;clear H a;intro a H
  refine k8 _ ?_;clear k8 K8
  refine wp_ret ?_
  refine ret1 (fn:=Tryz.f124) rfl H rfl ?_
  rw [zJ (ps:=ps) (us:=us) (i:=i) (u:=u) (fun h=>by have h1:=h.wear;have h2:=h.i;unfold untI at h2;rcases hc2 with h9|h9;exact h9 h1;omega)];exact ⟨rfl,(S.sel [1] rfl rfl)⟩
 try simp only [o1,o2,o3,o4,o5,o6,o7,o8,o9,oa] at hc2
 have hwe:wearE u.part u.uses=0:=by have h9:=hc2;show wearE ⟨u.rates,u.worn,u.turns,u.age⟩ u.uses=0;omega
 have hpv:=tR hwe
 refine wp_skip ?_
 refine k5 _ _ ?_
 replace H:=H.keep [2] rfl
 refine sS H fun K9 k9=>sr 1 rfl<|sE ?_;clear H a;intro a H
 refine k9 _ ?_;clear k9 K9
 have SR:=(S.sel [0,1] G G)
 refine meet_sr (X:=Int) [2] H rfl (fun x=>[(7,.int .i64 x)]) (fun x=>[]) (fun x=>x=prevD u.uses u.uses.length) SR (fun K11 k11=>?_) ?_
 ·skip
  refine sS H fun K12 k12=>sf fD rfl<|sl S 0 iI G G G<|sL cZ rfl<|sr 1 rfl<|sE ?_;clear H a;intro a H
  refine k12 _ ?_;clear k12 K12
  refine sS H fun K13 k13=>sr 2 rfl<|sE ?_;clear H a;intro a H
  refine k13 _ ?_;clear k13 K13
  refine condL H rfl (fun hc3=>?_) (fun hc3=>?_)
  ·skip
   replace H:=H.keep [2,8] rfl
   refine sO H<|sf fD rfl<|sl S 0 iI G G G<|sr 1 rfl<|sd (aR G G (by unfold i64ok;omega))<|sI cZ cR G G (huu.adr (by omega)) (by omega) (by omega)<|sp gK rfl<|slm aE rfl (huu.rd S (by omega) (by omega))<|sr 1 rfl<|sE ?_;clear H a;intro a H
   exact k11 _ a _ (nE (k:=((u.uses.length:Int)-1).toNat) (by omega)) (S.sel [0,1] G G) (H.keep [7,2] rfl)
  refine wp_skip ?_
  exact k11 _ a _ (by rw [show u.uses.length=0 by omega];rfl) (S.sel [0,1] G G) (H.keep [7,2] rfl)
 clear SR H S a
 intro xm a wm hp S H
 obtain ⟨x,rfl⟩:∃ y,y=xm:=⟨_,rfl⟩
 replace H:=H.keep [2,7] rfl
 refine sS H fun K15 k15=>sf qN rfl<|sl S 0 aE G G G<|sr 1 rfl<|sc rfl Tryz.func82 G G (bK _ _ _ _)<|sr 1 rfl<|sg 3 4 64 67 true G G (fun hg5=>sy hg5<|sf qO rfl<|sy hg5<|sl S 0 aE G G G<|sy hg5<|sc rfl Tryz.func82 G G (bK _ _ _ _)<|sz 3 G G G)<|sa G G G<|sr 1 rfl<|sg 8 9 69 77 true G G (fun hg10=>sy hg10<|sf qP rfl<|sy hg10<|sl S 0 aE G G G<|sy hg10<|sf jH rfl<|sy hg10<|sf eO rfl<|sy hg10<|sl S 0 gF G G G<|sy hg10<|sL cL rfl<|sy hg10<|sd (aR G G (by unfold i64ok;omega))<|sy hg10<|sc rfl Tryz.func82 G G (bK _ _ _ _)<|sz 8 G G G)<|sa G G G<|sr 1 rfl<|sE ?_;clear H a;intro a H
 refine k15 _ ?_;clear k15 K15
 refine wp_ret ?_
 refine ret1 (fn:=Tryz.f124) rfl H rfl ?_
 refine ⟨congrArg Value.bool ?_,(S.sel [1] G G)⟩
 rw [Bool.eq_iff_iff,tG]
 simp only [Bool.and_eq_true,decide_eq_true_eq]
 constructor
 · intro h9
   refine ⟨?_,?_,hwe⟩
   · rcases hc1 with ⟨⟨⟨h1,_⟩,_⟩,_⟩;exact h1
   · unfold untI;omega
 · intro h9
   have h2:=h9.i
   unfold untI at h2
   omega
theorem Qw (y:Yr) (w:World) (hy:YIn w noF y) (hyb:YBd y) :
    Calls Tryz.prog 81 [.agg [.int .i64 y.days,.int .i64 y.pl,.slice y.PA y.ps.length y.pc,.slice y.XA y.xs.length y.xc,.slice y.BA y.pe.length y.bc,.int .i64 y.limit,.bool y.help,.slice y.QA y.prs.length y.qc,.slice y.VA y.us.length y.vc,.int .i64 y.crew,.slice y.SA y.sps.length y.sc].toArray].toArray w (Ret (fun v w'=>v = .int .i64 (yearE y)∧St w noF [] w')):=by
 have hn1:=hyb.psn;have hn2:=hyb.pen;have hn3:=hyb.usn;have hn4:=hyb.spn
 refine enter Tryz.func81 rfl Tryz.ntmps81 rfl (fun a H=>?_)
 have S:=St.start w
 refine seq_list fun K1 k1=>?_
 refine aN H rfl S G G ?_;clear H a S;intro b1 _ a hb1 hbw1 S H
 refine ls 1 H<|sr 1 rfl<|sE ?_;clear H a;intro a H
 refine k1 _ _ ?_;clear k1 K1
 refine wp_seq_k fun K2 k2=>?_
 replace H:=H.keep [1] rfl
 refine seq_list fun K3 k3=>?_
 refine ls 4 H<|sf eX rfl<|sd ((aB dP eM rfl S (i:=0) G G))<|sf nT rfl<|sl S 0 vT G G G<|sE ?_;clear H a;intro a H
 refine aA H G G Tryz.func70 G G (Hk y.pl y.ps y.PA y.pc y.xs y.XA y.xc ([]:List Hq) none 0 (fun _=>none) (fun _=>0) y.prs y.QA y.qc _ (hy.ps.now S) hyb.psn (hy.xs.now S) hyb.xsn InS.nil (by decide) (fun k hk=>absurd hk (Nat.not_lt_zero k)) (fun k hk=>absurd hk (Nat.not_lt_zero k)) (hy.prs.now S) hyb.prn) ?_;clear H a
 rintro _ _ a ⟨rfl,S2⟩ H
 replace S:=S.call S2;clear S2
 rw [Qu] at H
 refine ls 9 H<|sr 9 rfl<|sE ?_;clear H a;intro a H
 refine k3 _ _ ?_;clear k3 K3
 replace H:=H.keep [1,6] rfl
 refine sS H fun K4 k4=>sr 2 rfl<|sE ?_;clear H a;intro a H
 refine k4 _ ?_;clear k4 K4
 refine condN H rfl (fun hc1=>?_) (fun hc1=>?_)
 ·skip
  refine sS H fun K5 k5=>sr 2 rfl<|sE ?_;clear H a;intro a H
  refine k5 _ ?_;clear k5 K5
  refine wp_ret ?_
  refine ret1 (fn:=Tryz.f81) rfl H rfl ?_
  exact ⟨congrArg _ (nB hc1).symm,(S.sel [] G G)⟩
 have hke:keptE y.pl y.ps y.xs [] y.prs=0:=by omega
 have hV:=Qt hke
 refine wp_skip ?_
 refine k2 _ _ ?_
 refine wp_seq_k fun K6 k6=>?_
 replace H:=H.keep [1] rfl
 refine sS H fun K7 k7=>sf dD rfl<|sl S 0 aE G G G<|sc rfl Tryz.func82 G G (bK _ _ _ _)<|sr 2 rfl<|sg 7 4 33 40 false G G (fun hg5=>by
     have hq5:=hg5;try simp only [o1,o2,o3,o4,o5,o6,o7,o8,o9,oa] at hq5
     exact sy hg5<|sf jF rfl<|sy hg5<|sl S 0 bT G G G<|sy hg5<|sL aY rfl<|sy hg5<|sf eX rfl<|sy hg5<|sf dX rfl<|sy hg5<|sl S 0 aE G G G<|sy hg5<|sr 1 rfl<|sz 7 G G G)<|so G G G<|sr 1 rfl<|sg 4 13 42 46 false G G (fun hg14=>by
     have hq14:=hg14;try simp only [o1,o2,o3,o4,o5,o6,o7,o8,o9,oa] at hq14
     exact sy hg14<|sf nS rfl<|sy hg14<|sl S 0 aE G G G<|sy hg14<|sc rfl Tryz.func82 G G (bK _ _ _ _)<|sy hg14<|sr 1 rfl<|sz 4 G G G)<|so G G G<|sr 1 rfl<|sg 4 19 48 52 false G G (fun hg20=>by
     have hq20:=hg20;try simp only [o1,o2,o3,o4,o5,o6,o7,o8,o9,oa] at hq20
     exact sy hg20<|sf Dp rfl<|sy hg20<|sl S 0 aE G G G<|sy hg20<|sc rfl Tryz.func82 G G (bK _ _ _ _)<|sy hg20<|sr 1 rfl<|sz 4 G G G)<|so G G G<|sr 1 rfl<|sg 4 25 54 58 false G G (fun hg26=>by
     have hq26:=hg26;try simp only [o1,o2,o3,o4,o5,o6,o7,o8,o9,oa] at hq26
     exact sy hg26<|sf jG rfl<|sy hg26<|sl S 0 mU G G G<|sy hg26<|sL nR rfl<|sy hg26<|sr 1 rfl<|sz 4 G G G)<|so G G G<|sE ?_;clear H a;intro a H
 refine k7 _ ?_;clear k7 K7
 refine cond_ H rfl (fun hc2=>?_) (fun hc2=>?_)
 ·skip
  try simp only [o1,o2,o3,o4,o5,o6,o7,o8,o9,oa] at hc2
  replace H:=H.keep [] rfl
  refine sS H fun K8 k8=>sr 1 rfl<|sE ?_;clear H a;intro a H
  refine k8 _ ?_;clear k8 K8
  refine wp_ret ?_
  refine ret1 (fn:=Tryz.f81) rfl H rfl ?_
  rw [oH hke (fun h=>by unfold yrI at h;omega)];exact ⟨rfl,(S.sel [] G G)⟩
 try simp only [o1,o2,o3,o4,o5,o6,o7,o8,o9,oa] at hc2
 refine wp_skip ?_
 refine k6 _ _ ?_
 refine wp_seq_k fun K9 k9=>?_
 refine sS H fun K10 k10=>sf jF rfl<|sl S 0 bT G G G<|sL aY rfl<|sr 1 rfl<|sE ?_;clear H a;intro a H
 refine k10 _ ?_;clear k10 K10
 refine wp_block ?_
 refine loop_st (X:=Nat) (R0:=_) [1,61,62] H rfl (fun k=>[(63,.int .i64 (k:Int))]) (fun k=>[]) (fun g k=>k≤y.pe.length∧g+k=y.pe.length∧∀ q,q<k→0≤y.pe.getD q 0∧y.pe.getD q 0≤1000) (y.pe.length) 0 ?_ (S.sel [0] G G) (H.keep [63,1,61,62] rfl) ?_
 · exact ⟨by omega,by omega,fun q hq=>absurd hq (Nat.not_lt_zero q)⟩
 clear H S a
 intro g1 x1 a w1 hp S H K11 k11
 obtain ⟨k,rfl⟩:∃ y,y=x1:=⟨_,rfl⟩
 refine sS H fun K12 k12=>sr 1 rfl<|sE ?_;clear H a;intro a H
 refine k12 _ ?_;clear k12 K12
 refine wp_seq_k fun K13 k13=>?_
 refine condL H rfl (fun hc3=>?_) (fun hc3=>?_)
 ·skip
  refine wp_skip ?_
  refine k13 _ _ ?_
  refine wp_seq_k fun K14 k14=>?_
  refine wp_block ?_
  refine sS H fun K15 k15=>si aY bF G G (hy.pe.adr (by omega)) (by omega)<|slm aE rfl (hy.pe.rd S (by omega) (by omega))<|sr 1 rfl<|sE ?_;clear H a;intro a H
  refine k15 _ ?_;clear k15 K15
  refine sS H fun K16 k16=>sr 1 rfl<|sc rfl Tryz.func82 G G (bK _ _ _ _)<|sr 1 rfl<|sE ?_;clear H a;intro a H
  refine k16 _ ?_;clear k16 K16
  refine cond_ H rfl (fun hc4=>?_) (fun hc4=>?_)
  ·skip
   try simp only [o1,o2,o3,o4,o5,o6,o7,o8,o9,oa] at hc4
   refine sS H fun K17 k17=>sr 1 rfl<|sE ?_;clear H a;intro a H
   refine k17 _ ?_;clear k17 K17
   refine wp_ret ?_
   refine ret1 (fn:=Tryz.f81) rfl H rfl ?_
   rw [oH hke (fun h=>by have h9:=h.2.1.2 k (by omega);omega)];exact ⟨rfl,(S.sel [] G G)⟩
  try simp only [o1,o2,o3,o4,o5,o6,o7,o8,o9,oa] at hc4
  refine wp_skip ?_
  refine k14 _ _ ?_
  replace H:=H.keep [1,61,62,63] rfl
  refine sO H<|sd (aK G G (by unfold i64ok;omega))<|sr 1 rfl<|sE ?_;clear H a;intro a H
  exact k11 (g1-1) (k+1) a _ (by omega) (⟨by omega,by omega,Mi hp.2.2 (by omega)⟩) (S.sel [0] G G) (H.keep [63,1,61,62] rfl)
 refine wp_exit ?_
 refine k9 _ _ ?_
 refine wp_seq_k fun K19 k19=>?_
 refine sS H fun K20 k20=>sf jG rfl<|sl S 0 mU G G G<|sL nR rfl<|sr 1 rfl<|sE ?_;clear H a;intro a H
 refine k20 _ ?_;clear k20 K20
 refine wp_block ?_
 have hpe9:∀ q,q<y.pe.length→0≤y.pe.getD q 0∧y.pe.getD q 0≤1000:=fun q hq=>hp.2.2 q (by omega)
 refine loop_st (X:=Nat) (R0:=_) [1,72,73] H rfl (fun k=>[(74,.int .i64 (k:Int))]) (fun k=>[]) (fun g k=>k≤y.sps.length∧g+k=y.sps.length∧∀ q,q<k→sprB y.days (y.sps.getD q Spr.zero)=true) (y.sps.length) 0 ?_ (S.sel [0] G G) (H.keep [74,1,72,73] rfl) ?_
 · exact ⟨by omega,by omega,fun q hq=>absurd hq (Nat.not_lt_zero q)⟩
 clear H S a
 intro g2 x2 a w2 hp S H K21 k21
 obtain ⟨k,rfl⟩:∃ y,y=x2:=⟨_,rfl⟩
 refine sS H fun K22 k22=>sr 1 rfl<|sE ?_;clear H a;intro a H
 refine k22 _ ?_;clear k22 K22
 refine wp_seq_k fun K23 k23=>?_
 refine condL H rfl (fun hc5=>?_) (fun hc5=>?_)
 ·skip
  refine wp_skip ?_
  refine k23 _ _ ?_
  refine wp_seq_k fun K24 k24=>?_
  refine wp_block ?_
  refine seq_list fun K25 k25=>?_
  refine ls 2 H<|si nR lF G G (hy.sps.adr (by omega)) (by omega)<|sd ((aT Dn lF rfl S hy.sps (by omega) (by omega)))<|sE ?_;clear H a;intro a H
  refine aI H rfl S Bi ?_;clear H a S;intro b10 _ a hb10 hbw10 S H
  refine aC H S (i:=0) G G G G lF G G ?_
  clear H a S;intro _ a S H
  refine k25 _ _ ?_;clear k25 K25
  replace H:=H.keep [1,10,72,73,74] rfl
  refine sS H fun K26 k26=>sf yS rfl<|sl S 0 aE G G G<|sf dD rfl<|sl S 1 aE G G G<|sd (aR G G (by unfold i64ok;omega))<|sc rfl Tryz.func82 G G (bK _ _ _ _)<|sr 2 rfl<|sg 4 7 85 89 false G G (fun hg8=>by
      have hq8:=hg8;try simp only [o1,o2,o3,o4,o5,o6,o7,o8,o9,oa] at hq8
      exact sy hg8<|sf yT rfl<|sy hg8<|sl S 0 aE G G G<|sy hg8<|sc rfl Tryz.func82 G G (bK _ _ _ _)<|sy hg8<|sr 1 rfl<|sz 4 G G G)<|so G G G<|sr 1 rfl<|sg 4 13 91 95 false G G (fun hg14=>by
      have hq14:=hg14;try simp only [o1,o2,o3,o4,o5,o6,o7,o8,o9,oa] at hq14
      exact sy hg14<|sf yU rfl<|sy hg14<|sl S 0 aE G G G<|sy hg14<|sc rfl Tryz.func82 G G (bK _ _ _ _)<|sy hg14<|sr 1 rfl<|sz 4 G G G)<|so G G G<|sE ?_;clear H a;intro a H
  refine k26 _ ?_;clear k26 K26
  refine cond_ H rfl (fun hc6=>?_) (fun hc6=>?_)
  ·skip
   try simp only [o1,o2,o3,o4,o5,o6,o7,o8,o9,oa] at hc6
   replace H:=H.keep [] rfl
   refine sS H fun K27 k27=>sr 1 rfl<|sE ?_;clear H a;intro a H
   refine k27 _ ?_;clear k27 K27
   refine wp_ret ?_
   refine ret1 (fn:=Tryz.f81) rfl H rfl ?_
   rw [oH hke (fun h=>by have h9:=oM.1 (h.2.2.2.2.2 k (by omega));omega)];exact ⟨rfl,(S.sel [] G G)⟩
  try simp only [o1,o2,o3,o4,o5,o6,o7,o8,o9,oa] at hc6
  refine wp_skip ?_
  refine k24 _ _ ?_
  refine sO H<|sd (aK G G (by unfold i64ok;omega))<|sr 1 rfl<|sE ?_;clear H a;intro a H
  exact k21 (g2-1) (k+1) a _ (by omega) (⟨by omega,by omega,eU (f:=fun q=>sprB y.days (y.sps.getD q Spr.zero)) hp.2.2 (oM.2 (by omega))⟩) (S.sel [1] G G) (H.keep [74,1,72,73] rfl)
 refine wp_exit ?_
 refine k19 _ _ ?_
 refine wp_seq_k fun K29 k29=>?_
 refine sS H fun K30 k30=>sf cD rfl<|sl S 0 dH G G G<|sL eJ rfl<|sr 1 rfl<|sE ?_;clear H a;intro a H
 refine k30 _ ?_;clear k30 K30
 refine condL H rfl (fun hc7=>?_) (fun hc7=>?_)
 ·skip
  refine sS H fun K31 k31=>sr 1 rfl<|sE ?_;clear H a;intro a H
  refine k31 _ ?_;clear k31 K31
  refine wp_ret ?_
  refine ret1 (fn:=Tryz.f81) rfl H rfl ?_
  rw [sY hke (by
    unfold yrI
    have h9:=hp.2.2
    exact ⟨by omega,⟨by omega,hpe9⟩,by omega,by omega,by omega,fun q hq=>h9 q (by omega)⟩) (by omega)];exact ⟨rfl,(S.sel [] G G)⟩
 refine wp_skip ?_
 refine k29 _ _ ?_
 replace H:=H.keep [1] rfl
 refine seq_list fun K32 k32=>?_
 refine fL (fun n:Int=>Value.int .i64 n) (macP y.ps y.us 0 0) Gm H rfl S ?_;clear H a S;intro mb _ a hmb S H
 refine ls 1 H<|sr 1 rfl<|sE ?_;clear H a;intro a H
 refine k32 _ _ ?_;clear k32 K32
 refine wp_seq_k fun K33 k33=>?_
 refine sS H fun K34 k34=>sf eX rfl<|sf fC rfl<|sl S 1 gY G G G<|sL fZ rfl<|sr 1 rfl<|sE ?_;clear H a;intro a H
 refine k34 _ ?_;clear k34 K34
 refine wp_block ?_
 have hyi:yrI y:=by
   unfold yrI
   have h9:=hp.2.2
   exact ⟨by omega,⟨by omega,hpe9⟩,by omega,by omega,by omega,fun q hq=>h9 q (by omega)⟩
 refine loop_st (X:=Nat) (R0:=_) [1,11,105,106] H rfl (fun k=>[(107,.int .i64 (k:Int))]) (fun k=>[mapK (fun n:Int=>Value.int .i64 n) mb (macP y.ps y.us k 0)]) (fun g k=>k≤y.ps.length∧g+k=y.ps.length) (y.ps.length) 0 ?_ (S.sel [0,1] G G) (H.keep [107,1,11,105,106] rfl) ?_
 · exact ⟨by omega,by omega⟩
 clear H S a
 intro g3 x3 a w3 hp S H K35 k35
 obtain ⟨k,rfl⟩:∃ y,y=x3:=⟨_,rfl⟩
 refine sS H fun K36 k36=>sr 1 rfl<|sE ?_;clear H a;intro a H
 refine k36 _ ?_;clear k36 K36
 refine wp_seq_k fun K37 k37=>?_
 refine condL H rfl (fun hc8=>?_) (fun hc8=>?_)
 ·skip
  refine wp_skip ?_
  refine k37 _ _ ?_
  refine wp_seq_k fun K38 k38=>?_
  refine wp_block ?_
  refine seq_list fun K39 k39=>?_
  refine ls 2 H<|si fZ dR G G (hy.ps.adr (by omega)) (by omega)<|sd ((aT kG dR rfl S hy.ps (by omega) (by omega)))<|sE ?_;clear H a;intro a H
  refine aI H rfl S lK ?_;clear H a S;intro b13 _ a hb13 hbw13 S H
  refine aC H S (i:=0) G G G G dR G G ?_
  clear H a S;intro _ a S H
  refine k39 _ _ ?_;clear k39 K39
  replace H:=H.keep [1,11,13,105,106,107] rfl
  refine one_list ?_
  refine ls 6 H<|sr 1 rfl<|sf dL rfl<|sl S 0 aE G G G<|sf dL rfl<|sl S 0 aE G G G<|sr 1 rfl<|sE ?_;clear H a;intro a H
  refine fQ (k:=(y.ps.getD k Psg.zero).mach) (macP y.ps y.us (k+1) 0) H S (i:=1) rfl Bl (iP rfl) G G G (Pm (Ab hV (by omega)).1 (Ab hV (by omega)).2) ?_;clear H a S;intro _ a S H
  refine k38 _ _ ?_
  refine sO H<|sd (aK G G (by unfold i64ok;omega))<|sr 1 rfl<|sE ?_;clear H a;intro a H
  exact k35 (g3-1) (k+1) a _ (by omega) (⟨by omega,by omega⟩) (S.sel [1,2] G G) (H.keep [107,1,11,105,106] rfl)
 refine wp_exit ?_
 refine k33 _ _ ?_
 refine wp_seq_k fun K42 k42=>?_
 replace H:=H.keep [1,11] rfl
 refine sS H fun K43 k43=>sf cD rfl<|sl S 1 dH G G G<|sL eJ rfl<|sr 1 rfl<|sE ?_;clear H a;intro a H
 refine k43 _ ?_;clear k43 K43
 refine wp_block ?_
 obtain rfl:k=y.ps.length:=by omega
 refine loop_st (X:=Nat) (R0:=_) [11,119,120] H rfl (fun k=>[(121,.int .i64 (k:Int))]) (fun k=>[mapK (fun n:Int=>Value.int .i64 n) mb (macP y.ps y.us y.ps.length k)]) (fun g k=>k≤y.us.length∧g+k=y.us.length∧∀ q,q<k→untB y.ps y.us q=true) (y.us.length) 0 ?_ (S.sel [0,1] G G) (H.keep [121,11,119,120] rfl) ?_
 · exact ⟨by omega,by omega,fun q hq=>absurd hq (Nat.not_lt_zero q)⟩
 clear H S a
 intro g4 x4 a w4 hp S H K44 k44
 obtain ⟨k,rfl⟩:∃ y,y=x4:=⟨_,rfl⟩
 refine sS H fun K45 k45=>sr 1 rfl<|sE ?_;clear H a;intro a H
 refine k45 _ ?_;clear k45 K45
 refine wp_seq_k fun K46 k46=>?_
 refine condL H rfl (fun hc9=>?_) (fun hc9=>?_)
 ·skip
  refine wp_skip ?_
  refine k46 _ _ ?_
  refine wp_seq_k fun K47 k47=>?_
  refine wp_block ?_
  refine seq_list fun K48 k48=>?_
  refine ls 2 H<|si eJ fY G G (hy.us.adr (by omega)) (by omega)<|sd ((aT mV fY rfl S hy.us (by omega) (by omega)))<|sE ?_;clear H a;intro a H
  refine aI H rfl S yX ?_;clear H a S;intro b15 _ a hb15 hbw15 S H
  refine aC H S (i:=0) G G G G fY G G ?_
  clear H a S;intro _ a S H
  refine k48 _ _ ?_;clear k48 K48
  refine wp_seq_k fun K49 k49=>?_
  refine seq_list fun K50 k50=>?_
  refine ls 2 H<|sd ((aB mV fY rfl S (i:=0) G G))<|sr 1 rfl<|sE ?_;clear H a;intro a H
  refine aA H G G Tryz.func124 G G (Qv (y.u k) y.ps y.us k mb _ _ ((S.sel [1] G G).startR) ((hy.rt k (by omega)).nowR (S.sel [1] G G)) (hyb.rtn (by omega)) ((hy.ul k (by omega)).nowR (S.sel [1] G G)) (hyb.uln (by omega))) ?_;clear H a
  rintro _ _ a ⟨rfl,S2⟩ H
  replace S:=St.callR (M:=[_]) (S.sel [1,0,2] G G) S2;clear S2
  refine ls 1 H<|sr 1 rfl<|sE ?_;clear H a;intro a H
  refine k50 _ _ ?_;clear k50 K50
  refine cond_ H rfl (fun hc10=>?_) (fun hc10=>?_)
  ·skip
   try simp only [o1,o2,o3,o4,o5,o6,o7,o8,o9,oa] at hc10
   replace H:=H.keep [] rfl
   refine sS H fun K51 k51=>sr 1 rfl<|sE ?_;clear H a;intro a H
   refine k51 _ ?_;clear k51 K51
   refine wp_ret ?_
   refine ret1 (fn:=Tryz.f81) rfl H rfl ?_
   rw [sZ hke hyi (by omega) (show k<y.us.length by omega) hc10];exact ⟨rfl,(S.sel [] G G)⟩
  try simp only [o1,o2,o3,o4,o5,o6,o7,o8,o9,oa] at hc10
  refine wp_skip ?_
  refine k49 _ _ ?_
  refine one_list ?_
  refine ls 3 H<|sr 1 rfl<|sf nV rfl<|sl S 1 aE G G G<|sE ?_;clear H a;intro a H
  refine fQ (k:=(y.us.getD k Unt.zero).mach) (macP y.ps y.us y.ps.length (k+1)) H S (i:=0) rfl Bl (iP rfl) G G G Pn ?_;clear H a S;intro _ a S H
  refine k47 _ _ ?_
  refine sO H<|sd (aK G G (by unfold i64ok;omega))<|sr 1 rfl<|sE ?_;clear H a;intro a H
  exact k44 (g4-1) (k+1) a _ (by omega) (⟨by omega,by omega,eU (f:=untB y.ps y.us) hp.2.2 hc10⟩) (S.sel [0,2] G G) (H.keep [121,11,119,120] rfl)
 refine wp_exit ?_
 refine k42 _ _ ?_
 refine sS H fun K54 k54=>sr 1 rfl<|sE ?_;clear H a;intro a H
 refine k54 _ ?_;clear k54 K54
 refine wp_ret ?_
 refine ret1 (fn:=Tryz.f81) rfl H rfl ?_
 rw [tB hke hyi (by omega) (bZ.2 fun q hq=>hp.2.2 q (by omega))];exact ⟨rfl,(S.sel [] G G)⟩
end
section
theorem chk5 (A B C:Prop) [Decidable A] [Decidable B] [Decidable C] (k:Nat):¬ A∨(A∧¬ B)∨(A∧B∧¬ C)∨(A∧B∧C∧k=0)∨(A∧B∧C∧0<k):=by
  by_cases hA:A <;> by_cases hB:B <;> by_cases hC:C <;> by_cases hk:k=0 <;> simp [hA,hB,hC,hk] <;> omega
section
variable {P:Program} {w:World} {L:List (Nat×Value)} {ty:TypeId} {pos:String} {af:Array Edge} {dd:Option Nat} {g:Option (Nat×Bool)}
theorem gD {x:Operand} {xt:TypeId} {lo n hi:Int} (hx:ev L x=some (.bool (decide (lo≤n)&&decide (n≤hi)))) (h:¬ (lo≤n∧n≤hi)):Does P L ⟨dd,.unOp .not xt x,ty,pos,af,g⟩ w (.bool true):=by
  have h1:=cP (P:=P) (d:=dd) (w:=w) (ty:=ty) (pos:=pos) (af:=af) (g:=g) (xt:=xt) hx
  have e:(!(decide (lo≤n)&&decide (n≤hi)))=true:=by simp only [Bool.not_eq_true',Bool.and_eq_false_iff,decide_eq_false_iff_not];omega
  rw [e] at h1
  exact h1
theorem bS {x:Operand} {xt:TypeId} {lo n hi:Int} (hx:ev L x=some (.bool (decide (lo≤n)&&decide (n≤hi)))) (h:lo≤n∧n≤hi):Does P L ⟨dd,.unOp .not xt x,ty,pos,af,g⟩ w (.bool false):=by
  have h1:=cP (P:=P) (d:=dd) (w:=w) (ty:=ty) (pos:=pos) (af:=af) (g:=g) (xt:=xt) hx
  rw [decide_eq_true h.1,decide_eq_true h.2] at h1
  exact h1
end
section
variable {y:Yr} {l:List Tsk} {k:Nat}
def tskI (y:Yr) (t:Tsk):Prop:=(0≤t.day∧t.day≤y.days-1)∧(0≤t.unit∧t.unit≤(y.us.length:Int)-1)∧(1≤t.kind∧t.kind≤2)
theorem jY (h:¬ ((0≤(l.getD k Tsk.zero).day∧(l.getD k Tsk.zero).day≤y.days-1)∧(0≤(l.getD k Tsk.zero).unit∧(l.getD k Tsk.zero).unit≤(y.us.length:Int)-1)∧(1≤(l.getD k Tsk.zero).kind∧(l.getD k Tsk.zero).kind≤2))):tskB y l k=false:=by
  unfold tskB;rw [decide_eq_false h,Bool.false_and]
theorem Ac (hB:(0≤(l.getD k Tsk.zero).day∧(l.getD k Tsk.zero).day≤y.days-1)∧(0≤(l.getD k Tsk.zero).unit∧(l.getD k Tsk.zero).unit≤(y.us.length:Int)-1)∧(1≤(l.getD k Tsk.zero).kind∧(l.getD k Tsk.zero).kind≤2)∧0<k) (h:befB (l.getD ((k:Int)-1).toNat Tsk.zero) (l.getD k Tsk.zero)=false):tskB y l k=false:=by
  rw [show ((k:Int)-1).toNat=k-1 by omega] at h
  unfold tskB;rw [h,decide_eq_false (show ¬ k=0 by omega),Bool.or_self,Bool.and_false]
theorem mG (hB:(0≤(l.getD k Tsk.zero).day∧(l.getD k Tsk.zero).day≤y.days-1)∧(0≤(l.getD k Tsk.zero).unit∧(l.getD k Tsk.zero).unit≤(y.us.length:Int)-1)∧(1≤(l.getD k Tsk.zero).kind∧(l.getD k Tsk.zero).kind≤2)∧k=0):tskB y l k=true:=by
  unfold tskB;rw [decide_eq_true ⟨hB.1,hB.2.1,hB.2.2.1⟩,decide_eq_true hB.2.2.2];rfl
theorem mH (hB:(0≤(l.getD k Tsk.zero).day∧(l.getD k Tsk.zero).day≤y.days-1)∧(0≤(l.getD k Tsk.zero).unit∧(l.getD k Tsk.zero).unit≤(y.us.length:Int)-1)∧(1≤(l.getD k Tsk.zero).kind∧(l.getD k Tsk.zero).kind≤2)∧0<k) (h:befB (l.getD ((k:Int)-1).toNat Tsk.zero) (l.getD k Tsk.zero)=true):tskB y l k=true:=by
  rw [show ((k:Int)-1).toNat=k-1 by omega] at h
  unfold tskB;rw [decide_eq_true ⟨hB.1,hB.2.1,hB.2.2.1⟩,h,Bool.or_true];rfl
end
theorem Hn (a b:Tsk) (w:World) :
    Calls Tryz.prog 83 [.agg [.int .i64 a.day,.int .i64 a.unit,.int .i64 a.kind].toArray,.agg [.int .i64 b.day,.int .i64 b.unit,.int .i64 b.kind].toArray].toArray w (Ret (fun v w'=>v = .bool (befB a b)∧St w noF [] w')):=by
 refine enter Tryz.func83 rfl Tryz.ntmps83 rfl (fun a H=>?_)
 have S:=St.start w
 refine seq_list fun K1 k1=>?_
 refine aN H rfl S G G ?_;clear H a S;intro b2 _ a hb2 hbw2 S H
 refine aN H rfl S G G ?_;clear H a S;intro b3 _ a hb3 hbw3 S H
 refine ls 1 H<|sr 1 rfl<|sE ?_;clear H a;intro a H
 refine k1 _ _ ?_;clear k1 K1
 refine wp_seq_k fun K2 k2=>?_
 refine sS H fun K3 k3=>sf dF rfl<|sl S 1 aE G G G<|sf dF rfl<|sl S 0 aE G G G<|sr 1 rfl<|sE ?_;clear H a;intro a H
 refine k3 _ ?_;clear k3 K3
 refine condN H rfl (fun hc1=>?_) (fun hc1=>?_)
 ·skip
  replace H:=H.keep [2,3] rfl
  refine sS H fun K4 k4=>sf dF rfl<|sl S 1 aE G G G<|sf dF rfl<|sl S 0 aE G G G<|sr 2 rfl<|sE ?_;clear H a;intro a H
  refine k4 _ ?_;clear k4 K4
  refine wp_ret ?_
  refine ret1 (fn:=Tryz.f83) rfl H rfl ?_
  refine ⟨?_,(S.sel [] G G)⟩;unfold befB;rw [if_pos hc1]
 refine wp_skip ?_
 refine k2 _ _ ?_
 refine wp_seq_k fun K5 k5=>?_
 replace H:=H.keep [2,3] rfl
 refine sS H fun K6 k6=>sf dN rfl<|sl S 1 aE G G G<|sf dN rfl<|sl S 0 aE G G G<|sr 1 rfl<|sE ?_;clear H a;intro a H
 refine k6 _ ?_;clear k6 K6
 refine condN H rfl (fun hc2=>?_) (fun hc2=>?_)
 ·skip
  replace H:=H.keep [2,3] rfl
  refine sS H fun K7 k7=>sf dN rfl<|sl S 1 aE G G G<|sf dN rfl<|sl S 0 aE G G G<|sr 2 rfl<|sE ?_;clear H a;intro a H
  refine k7 _ ?_;clear k7 K7
  refine wp_ret ?_
  refine ret1 (fn:=Tryz.f83) rfl H rfl ?_
  refine ⟨?_,(S.sel [] G G)⟩;unfold befB;rw [if_neg (fun h=>h (by omega)),if_pos hc2]
 refine wp_skip ?_
 refine k5 _ _ ?_
 replace H:=H.keep [2,3] rfl
 refine sS H fun K8 k8=>sf fN rfl<|sl S 1 aE G G G<|sf fN rfl<|sl S 0 aE G G G<|sr 2 rfl<|sE ?_;clear H a;intro a H
 refine k8 _ ?_;clear k8 K8
 refine wp_ret ?_
 refine ret1 (fn:=Tryz.f83) rfl H rfl ?_
 refine ⟨?_,(S.sel [] G G)⟩;unfold befB;rw [if_neg (fun h=>h (by omega)),if_neg (fun h=>h (by omega))]
theorem Mj (y:Yr) (l:List Tsk) (LA:Option Addr) (lc:Nat) (w:World) (hy:YIn w noF y) (hyb:YBd y) (hl:InS w noF 3 LA l.length (jL l)) (hln:l.length≤9223372036854775807) :
    Calls Tryz.prog 39 [.agg [.int .i64 y.days,.int .i64 y.pl,.slice y.PA y.ps.length y.pc,.slice y.XA y.xs.length y.xc,.slice y.BA y.pe.length y.bc,.int .i64 y.limit,.bool y.help,.slice y.QA y.prs.length y.qc,.slice y.VA y.us.length y.vc,.int .i64 y.crew,.slice y.SA y.sps.length y.sc].toArray,.slice LA l.length lc].toArray w (Ret (fun v w'=>v = .int .i64 (taskE y l)∧St w noF [] w')):=by
 have hn3:=hyb.usn
 refine enter Tryz.func39 rfl Tryz.ntmps39 rfl (fun a H=>?_)
 have S:=St.start w
 refine seq_list fun K1 k1=>?_
 refine aN H rfl S G G ?_;clear H a S;intro b2 _ a hb2 hbw2 S H
 refine ls 1 H<|sr 1 rfl<|sE ?_;clear H a;intro a H
 refine k1 _ _ ?_;clear k1 K1
 refine wp_seq_k fun K2 k2=>?_
 refine seq_list fun K3 k3=>?_
 refine ls 1 H<|sd ((aB eN fG rfl S (i:=0) G G))<|sE ?_;clear H a;intro a H
 refine aA H G G Tryz.func81 G G (Qw y _ (hy.now S) hyb) ?_;clear H a
 rintro _ _ a ⟨rfl,S2⟩ H
 replace S:=S.call S2;clear S2
 refine ls 1 H<|sr 1 rfl<|sE ?_;clear H a;intro a H
 refine k3 _ _ ?_;clear k3 K3
 refine sS H fun K4 k4=>sr 2 rfl<|sE ?_;clear H a;intro a H
 refine k4 _ ?_;clear k4 K4
 refine condN H rfl (fun hc1=>?_) (fun hc1=>?_)
 ·skip
  refine sS H fun K5 k5=>sr 2 rfl<|sE ?_;clear H a;intro a H
  refine k5 _ ?_;clear k5 K5
  refine wp_ret ?_
  refine ret1 (fn:=Tryz.f39) rfl H rfl ?_
  exact ⟨congrArg _ (tD hc1).symm,(S.sel [] G G)⟩
 have hye:yearE y=0:=by omega
 have hyi:=(mE hye).yr
 unfold yrI at hyi
 refine wp_skip ?_
 refine k2 _ _ ?_
 refine wp_seq_k fun K6 k6=>?_
 replace H:=H.keep [1,2] rfl
 refine sS H fun K7 k7=>sr 1 rfl<|sL eK rfl<|sr 1 rfl<|sE ?_;clear H a;intro a H
 refine k7 _ ?_;clear k7 K7
 refine condL H rfl (fun hc2=>?_) (fun hc2=>?_)
 ·skip
  refine sS H fun K8 k8=>sr 1 rfl<|sE ?_;clear H a;intro a H
  refine k8 _ ?_;clear k8 K8
  refine wp_ret ?_
  refine ret1 (fn:=Tryz.f39) rfl H rfl ?_
  rw [tE hye (by omega)];exact ⟨rfl,(S.sel [] G G)⟩
 refine wp_skip ?_
 refine k6 _ _ ?_
 refine wp_seq_k fun K9 k9=>?_
 refine sS H fun K10 k10=>sr 1 rfl<|sL eK rfl<|sr 1 rfl<|sE ?_;clear H a;intro a H
 refine k10 _ ?_;clear k10 K10
 refine wp_block ?_
 refine loop_st (X:=Nat) (R0:=_) [1,2,16,17] H rfl (fun k=>[(18,.int .i64 (k:Int))]) (fun k=>[]) (fun g k=>k≤l.length∧g+k=l.length∧∀ q,q<k→tskB y l q=true) (l.length) 0 ?_ (S.sel [0] G G) (H.keep [18,1,2,16,17] rfl) ?_
 · exact ⟨by omega,by omega,fun q hq=>absurd hq (Nat.not_lt_zero q)⟩
 clear H S a
 intro g1 x1 a w1 hp S H K11 k11
 obtain ⟨k,rfl⟩:∃ y,y=x1:=⟨_,rfl⟩
 refine sS H fun K12 k12=>sr 1 rfl<|sE ?_;clear H a;intro a H
 refine k12 _ ?_;clear k12 K12
 refine wp_seq_k fun K13 k13=>?_
 refine condL H rfl (fun hc3=>?_) (fun hc3=>?_)
 ·skip
  refine wp_skip ?_
  refine k13 _ _ ?_
  refine wp_seq_k fun K14 k14=>?_
  refine wp_block ?_
  refine seq_list fun K15 k15=>?_
  refine ls 3 H<|sr 1 rfl<|si eK eF G G (hl.adr (by omega)) (by omega)<|sd ((aT pC eF rfl S hl (by omega) (by omega)))<|sE ?_;clear H a;intro a H
  refine aI H rfl S Sy ?_;clear H a S;intro b7 _ a hb7 hbw7 S H
  refine ls 1 H<|sr 1 rfl<|sE ?_;clear H a;intro a H
  refine aC H S (i:=0) G G G G eF G G ?_
  clear H a S;intro _ a S H
  refine k15 _ _ ?_;clear k15 K15
  rcases chk5 (0≤(l.getD k Tsk.zero).day∧(l.getD k Tsk.zero).day≤y.days-1) (0≤(l.getD k Tsk.zero).unit∧(l.getD k Tsk.zero).unit≤(y.us.length:Int)-1) (1≤(l.getD k Tsk.zero).kind∧(l.getD k Tsk.zero).kind≤2) k with hB|hB|hB|hB|hB
  ·skip
   skip
   replace H:=H.keep [1,2,6,7,16,17,18] rfl
   replace S:=S.drew
   refine seq_wq [(0,true),(1,true),(2,true),(3,true),(4,true),(5,false),(6,true),(7,true),(8,true),(9,true),(10,true),(11,true),(12,true),(13,true),(14,true),(15,true),(16,true),(17,true),(18,true),(19,true),(20,true),(21,true),(22,true),(23,true),(24,true),(25,true),(26,true),(27,true),(28,true),(29,true),(30,true),(31,true),(32,true),(33,true),(34,true),(35,true),(36,true)] (by kernel_rfl) (by kernel_rfl) (S.sel [0,1] G G) fun K16 k16=>?_
   refine qF H<|qd rfl (fun _ S=>(aD dF rfl))<|qd rfl (fun _ S=>aG aE rfl (boxM.rd S (i:=0) G G))<|qd rfl (fun _ S=>(aD dD rfl))<|qd rfl (fun _ S=>aG aE rfl (boxM.rd S (i:=1) G G))<|qd rfl (fun _ S=>aR G G (by unfold i64ok;omega))<|qK ?_;clear H a;intro a H
   refine aU rfl ?_
   refine aA H G G Tryz.func82 G G (bK _ _ _ _) ?_;clear H a
   rintro _ _ a ⟨rfl,rfl⟩ H
   refine wpList_nil (And.intro (S.sel [0,1] G G) ?_)
   refine qF H<|qd rfl (fun _ S=>gD rfl (by omega))<|qr 1 rfl<|qK ?_;clear H a;intro a H
   refine aJ H G G G G G ?_;clear H a;intro a H
   refine aJ H G G G G G ?_;clear H a;intro a H
   refine aJ H G G G G G ?_;clear H a;intro a H
   refine aJ H G G G G G ?_;clear H a;intro a H
   refine aJ H G G G G G ?_;clear H a;intro a H
   refine aJ H G G G G G ?_;clear H a;intro a H
   refine aJ H G G G G G ?_;clear H a;intro a H
   refine aJ H G G G G G ?_;clear H a;intro a H
   refine qF H<|qd rfl (fun _ S=>(aS G G G))<|qr 1 rfl<|qK ?_;clear H a;intro a H
   refine aJ H G G G G G ?_;clear H a;intro a H
   refine aJ H G G G G G ?_;clear H a;intro a H
   refine aJ H G G G G G ?_;clear H a;intro a H
   refine aJ H G G G G G ?_;clear H a;intro a H
   refine qF H<|qd rfl (fun _ S=>(aS G G G))<|qr 1 rfl<|qK ?_;clear H a;intro a H
   refine aJ H G G G G G ?_;clear H a;intro a H
   refine aJ H G G G G G ?_;clear H a;intro a H
   refine aJ H G G G G G ?_;clear H a;intro a H
   refine bQ H G G G G ?_;clear H a;intro a H
   refine bQ H G G G G ?_;clear H a;intro a H
   refine bQ H G G G G ?_;clear H a;intro a H
   refine bQ H G G G G ?_;clear H a;intro a H
   refine bQ H G G G G ?_;clear H a;intro a H
   refine bQ H G G G G ?_;clear H a;intro a H
   refine bQ H G G G G ?_;clear H a;intro a H
   refine bQ H G G G G ?_;clear H a;intro a H
   refine aJ H G G G G G ?_;clear H a;intro a H
   refine qF H<|qd rfl (fun _ S=>(aS G G G))<|qK ?_;clear H a;intro a H
   refine bM ?_
   refine k16 _ _ ?_
   clear k16 K16
   refine cond_ H rfl (fun hc4=>?_) (fun hc4=>?_)
   ·skip
    skip
    replace H:=H.keep [] rfl
    refine sS H fun K17 k17=>sr 1 rfl<|sE ?_;clear H a;intro a H
    refine k17 _ ?_;clear k17 K17
    refine wp_ret ?_
    refine ret1 (fn:=Tryz.f39) rfl H rfl ?_
    rw [gB hye (by omega) (show k<l.length by omega) (jY (by omega))];exact ⟨rfl,(S.sel [] G G)⟩
   skip
   cases hc4
  ·skip
   skip
   replace H:=H.keep [1,2,6,7,16,17,18] rfl
   replace S:=S.drew
   refine seq_wq [(0,true),(1,true),(2,true),(3,true),(4,true),(5,false),(6,true),(7,true),(8,true),(9,true),(10,true),(11,true),(12,true),(13,true),(14,false),(15,true),(16,true),(17,true),(18,true),(19,true),(20,true),(21,true),(22,true),(23,true),(24,true),(25,true),(26,true),(27,true),(28,true),(29,true),(30,true),(31,true),(32,true),(33,true),(34,true),(35,true),(36,true)] (by kernel_rfl) (by kernel_rfl) (S.sel [0,1] G G) fun K18 k18=>?_
   refine qF H<|qd rfl (fun _ S=>(aD dF rfl))<|qd rfl (fun _ S=>aG aE rfl (boxM.rd S (i:=0) G G))<|qd rfl (fun _ S=>(aD dD rfl))<|qd rfl (fun _ S=>aG aE rfl (boxM.rd S (i:=1) G G))<|qd rfl (fun _ S=>aR G G (by unfold i64ok;omega))<|qK ?_;clear H a;intro a H
   refine aU rfl ?_
   refine aA H G G Tryz.func82 G G (bK _ _ _ _) ?_;clear H a
   rintro _ _ a ⟨rfl,rfl⟩ H
   refine wpList_nil (And.intro (S.sel [0,1] G G) ?_)
   refine qF H<|qd rfl (fun _ S=>bS rfl (by omega))<|qr 1 rfl<|qK ?_;clear H a;intro a H
   refine aF H G G G G (fun _ S=>(aD dN rfl)) ?_;clear H a;intro a H
   refine aF H G G G G (fun _ S=>aG aE rfl (boxM.rd S (i:=0) G G)) ?_;clear H a;intro a H
   refine aF H G G G G (fun _ S=>(aD cD rfl)) ?_;clear H a;intro a H
   refine aF H G G G G (fun _ S=>aG dH rfl (boxM.rd S (i:=1) G G)) ?_;clear H a;intro a H
   refine aF H G G G G (fun _ S=>cH eJ rfl) ?_;clear H a;intro a H
   refine aF H G G G G (fun _ S=>aR G G (by unfold i64ok;omega)) ?_;clear H a;intro a H
   refine aU rfl ?_
   refine aX H G G ?_
   refine aA H G G Tryz.func82 G G (bK _ _ _ _) ?_;clear H a
   rintro _ _ a ⟨rfl,rfl⟩ H
   refine wpList_nil (And.intro (S.sel [0,1] G G) ?_)
   refine aF H G G G G (fun _ S=>gD rfl (by omega)) ?_;clear H a;intro a H
   refine qF H<|qd rfl (fun _ S=>(aW G G G))<|qr 1 rfl<|qK ?_;clear H a;intro a H
   refine aJ H G G G G G ?_;clear H a;intro a H
   refine aJ H G G G G G ?_;clear H a;intro a H
   refine aJ H G G G G G ?_;clear H a;intro a H
   refine aJ H G G G G G ?_;clear H a;intro a H
   refine qF H<|qd rfl (fun _ S=>(aS G G G))<|qr 1 rfl<|qK ?_;clear H a;intro a H
   refine aJ H G G G G G ?_;clear H a;intro a H
   refine aJ H G G G G G ?_;clear H a;intro a H
   refine aJ H G G G G G ?_;clear H a;intro a H
   refine bQ H G G G G ?_;clear H a;intro a H
   refine bQ H G G G G ?_;clear H a;intro a H
   refine bQ H G G G G ?_;clear H a;intro a H
   refine bQ H G G G G ?_;clear H a;intro a H
   refine bQ H G G G G ?_;clear H a;intro a H
   refine bQ H G G G G ?_;clear H a;intro a H
   refine bQ H G G G G ?_;clear H a;intro a H
   refine bQ H G G G G ?_;clear H a;intro a H
   refine aJ H G G G G G ?_;clear H a;intro a H
   refine qF H<|qd rfl (fun _ S=>(aS G G G))<|qK ?_;clear H a;intro a H
   refine bM ?_
   refine k18 _ _ ?_
   clear k18 K18
   refine cond_ H rfl (fun hc5=>?_) (fun hc5=>?_)
   ·skip
    skip
    replace H:=H.keep [] rfl
    refine sS H fun K19 k19=>sr 1 rfl<|sE ?_;clear H a;intro a H
    refine k19 _ ?_;clear k19 K19
    refine wp_ret ?_
    refine ret1 (fn:=Tryz.f39) rfl H rfl ?_
    rw [gB hye (by omega) (show k<l.length by omega) (jY (by omega))];exact ⟨rfl,(S.sel [] G G)⟩
   skip
   cases hc5
  ·skip
   skip
   replace H:=H.keep [1,2,6,7,16,17,18] rfl
   replace S:=S.drew
   refine seq_wq [(0,true),(1,true),(2,true),(3,true),(4,true),(5,false),(6,true),(7,true),(8,true),(9,true),(10,true),(11,true),(12,true),(13,true),(14,false),(15,true),(16,true),(17,true),(18,true),(19,true),(20,false),(21,true),(22,true),(23,true),(24,true),(25,true),(26,true),(27,true),(28,true),(29,true),(30,true),(31,true),(32,true),(33,true),(34,true),(35,true),(36,true)] (by kernel_rfl) (by kernel_rfl) (S.sel [0,1] G G) fun K20 k20=>?_
   refine qF H<|qd rfl (fun _ S=>(aD dF rfl))<|qd rfl (fun _ S=>aG aE rfl (boxM.rd S (i:=0) G G))<|qd rfl (fun _ S=>(aD dD rfl))<|qd rfl (fun _ S=>aG aE rfl (boxM.rd S (i:=1) G G))<|qd rfl (fun _ S=>aR G G (by unfold i64ok;omega))<|qK ?_;clear H a;intro a H
   refine aU rfl ?_
   refine aA H G G Tryz.func82 G G (bK _ _ _ _) ?_;clear H a
   rintro _ _ a ⟨rfl,rfl⟩ H
   refine wpList_nil (And.intro (S.sel [0,1] G G) ?_)
   refine qF H<|qd rfl (fun _ S=>bS rfl (by omega))<|qr 1 rfl<|qK ?_;clear H a;intro a H
   refine aF H G G G G (fun _ S=>(aD dN rfl)) ?_;clear H a;intro a H
   refine aF H G G G G (fun _ S=>aG aE rfl (boxM.rd S (i:=0) G G)) ?_;clear H a;intro a H
   refine aF H G G G G (fun _ S=>(aD cD rfl)) ?_;clear H a;intro a H
   refine aF H G G G G (fun _ S=>aG dH rfl (boxM.rd S (i:=1) G G)) ?_;clear H a;intro a H
   refine aF H G G G G (fun _ S=>cH eJ rfl) ?_;clear H a;intro a H
   refine aF H G G G G (fun _ S=>aR G G (by unfold i64ok;omega)) ?_;clear H a;intro a H
   refine aU rfl ?_
   refine aX H G G ?_
   refine aA H G G Tryz.func82 G G (bK _ _ _ _) ?_;clear H a
   rintro _ _ a ⟨rfl,rfl⟩ H
   refine wpList_nil (And.intro (S.sel [0,1] G G) ?_)
   refine aF H G G G G (fun _ S=>bS rfl (by omega)) ?_;clear H a;intro a H
   refine qF H<|qd rfl (fun _ S=>(aW G G G))<|qr 1 rfl<|qK ?_;clear H a;intro a H
   refine aF H G G G G (fun _ S=>(aD fN rfl)) ?_;clear H a;intro a H
   refine aF H G G G G (fun _ S=>aG aE rfl (boxM.rd S (i:=0) G G)) ?_;clear H a;intro a H
   refine aU rfl ?_
   refine aX H G G ?_
   refine aA H G G Tryz.func82 G G (bK _ _ _ _) ?_;clear H a
   rintro _ _ a ⟨rfl,rfl⟩ H
   refine wpList_nil (And.intro (S.sel [0,1] G G) ?_)
   refine aF H G G G G (fun _ S=>gD rfl (by omega)) ?_;clear H a;intro a H
   refine qF H<|qd rfl (fun _ S=>(aW G G G))<|qr 1 rfl<|qK ?_;clear H a;intro a H
   refine aJ H G G G G G ?_;clear H a;intro a H
   refine aJ H G G G G G ?_;clear H a;intro a H
   refine aJ H G G G G G ?_;clear H a;intro a H
   refine bQ H G G G G ?_;clear H a;intro a H
   refine bQ H G G G G ?_;clear H a;intro a H
   refine bQ H G G G G ?_;clear H a;intro a H
   refine bQ H G G G G ?_;clear H a;intro a H
   refine bQ H G G G G ?_;clear H a;intro a H
   refine bQ H G G G G ?_;clear H a;intro a H
   refine bQ H G G G G ?_;clear H a;intro a H
   refine bQ H G G G G ?_;clear H a;intro a H
   refine aJ H G G G G G ?_;clear H a;intro a H
   refine qF H<|qd rfl (fun _ S=>(aS G G G))<|qK ?_;clear H a;intro a H
   refine bM ?_
   refine k20 _ _ ?_
   clear k20 K20
   refine cond_ H rfl (fun hc6=>?_) (fun hc6=>?_)
   ·skip
    skip
    replace H:=H.keep [] rfl
    refine sS H fun K21 k21=>sr 1 rfl<|sE ?_;clear H a;intro a H
    refine k21 _ ?_;clear k21 K21
    refine wp_ret ?_
    refine ret1 (fn:=Tryz.f39) rfl H rfl ?_
    rw [gB hye (by omega) (show k<l.length by omega) (jY (by omega))];exact ⟨rfl,(S.sel [] G G)⟩
   skip
   cases hc6
  ·skip
   skip
   replace H:=H.keep [1,2,6,7,16,17,18] rfl
   replace S:=S.drew
   refine seq_wq [(0,true),(1,true),(2,true),(3,true),(4,true),(5,false),(6,true),(7,true),(8,true),(9,true),(10,true),(11,true),(12,true),(13,true),(14,false),(15,true),(16,true),(17,true),(18,true),(19,true),(20,false),(21,true),(22,true),(23,true),(24,true),(25,true),(26,true),(27,true),(28,true),(29,true),(30,true),(31,true),(32,true),(33,true),(34,true),(35,true),(36,true)] (by kernel_rfl) (by kernel_rfl) (S.sel [0,1] G G) fun K22 k22=>?_
   refine qF H<|qd rfl (fun _ S=>(aD dF rfl))<|qd rfl (fun _ S=>aG aE rfl (boxM.rd S (i:=0) G G))<|qd rfl (fun _ S=>(aD dD rfl))<|qd rfl (fun _ S=>aG aE rfl (boxM.rd S (i:=1) G G))<|qd rfl (fun _ S=>aR G G (by unfold i64ok;omega))<|qK ?_;clear H a;intro a H
   refine aU rfl ?_
   refine aA H G G Tryz.func82 G G (bK _ _ _ _) ?_;clear H a
   rintro _ _ a ⟨rfl,rfl⟩ H
   refine wpList_nil (And.intro (S.sel [0,1] G G) ?_)
   refine qF H<|qd rfl (fun _ S=>bS rfl (by omega))<|qr 1 rfl<|qK ?_;clear H a;intro a H
   refine aF H G G G G (fun _ S=>(aD dN rfl)) ?_;clear H a;intro a H
   refine aF H G G G G (fun _ S=>aG aE rfl (boxM.rd S (i:=0) G G)) ?_;clear H a;intro a H
   refine aF H G G G G (fun _ S=>(aD cD rfl)) ?_;clear H a;intro a H
   refine aF H G G G G (fun _ S=>aG dH rfl (boxM.rd S (i:=1) G G)) ?_;clear H a;intro a H
   refine aF H G G G G (fun _ S=>cH eJ rfl) ?_;clear H a;intro a H
   refine aF H G G G G (fun _ S=>aR G G (by unfold i64ok;omega)) ?_;clear H a;intro a H
   refine aU rfl ?_
   refine aX H G G ?_
   refine aA H G G Tryz.func82 G G (bK _ _ _ _) ?_;clear H a
   rintro _ _ a ⟨rfl,rfl⟩ H
   refine wpList_nil (And.intro (S.sel [0,1] G G) ?_)
   refine aF H G G G G (fun _ S=>bS rfl (by omega)) ?_;clear H a;intro a H
   refine qF H<|qd rfl (fun _ S=>(aW G G G))<|qr 1 rfl<|qK ?_;clear H a;intro a H
   refine aF H G G G G (fun _ S=>(aD fN rfl)) ?_;clear H a;intro a H
   refine aF H G G G G (fun _ S=>aG aE rfl (boxM.rd S (i:=0) G G)) ?_;clear H a;intro a H
   refine aU rfl ?_
   refine aX H G G ?_
   refine aA H G G Tryz.func82 G G (bK _ _ _ _) ?_;clear H a
   rintro _ _ a ⟨rfl,rfl⟩ H
   refine wpList_nil (And.intro (S.sel [0,1] G G) ?_)
   refine aF H G G G G (fun _ S=>bS rfl (by omega)) ?_;clear H a;intro a H
   refine qF H<|qd rfl (fun _ S=>(aW G G G))<|qr 1 rfl<|qK ?_;clear H a;intro a H
   refine aF H G G G G (fun _ S=>aL rfl) ?_;clear H a;intro a H
   refine aF H G G G G (fun _ S=>oY G G (by omega)) ?_;clear H a;intro a H
   refine aF H G G G G (fun _ S=>aL rfl) ?_;clear H a;intro a H
   refine aJ H G G G G G ?_;clear H a;intro a H
   refine aJ H G G G G G ?_;clear H a;intro a H
   refine aJ H G G G G G ?_;clear H a;intro a H
   refine aJ H G G G G G ?_;clear H a;intro a H
   refine aJ H G G G G G ?_;clear H a;intro a H
   refine aJ H G G G G G ?_;clear H a;intro a H
   refine aJ H G G G G G ?_;clear H a;intro a H
   refine aJ H G G G G G ?_;clear H a;intro a H
   refine aF H G G G G (fun _ S=>(aS G G G)) ?_;clear H a;intro a H
   refine qF H<|qd rfl (fun _ S=>(aW G G G))<|qK ?_;clear H a;intro a H
   refine bM ?_
   refine k22 _ _ ?_
   clear k22 K22
   refine cond_ H rfl (fun hc7=>?_) (fun hc7=>?_)
   ·skip
    skip
    cases hc7
   skip
   refine wp_skip ?_
   refine k14 _ _ ?_
   replace H:=H.keep [1,2,16,17,18] rfl
   refine sO H<|sd (aK G G (by unfold i64ok;omega))<|sr 1 rfl<|sE ?_;clear H a;intro a H
   exact k11 (g1-1) (k+1) a _ (by omega) (by first|exact ⟨by omega,by omega,eU (f:=tskB y l) hp.2.2 (mG hB)⟩|exact ⟨by omega,by omega,eU (f:=tskB y l) hp.2.2 (mH hB hc8)⟩) (S.sel [1] G G) (H.keep [18,1,2,16,17] rfl)
  skip
  replace H:=H.keep [1,2,6,7,16,17,18] rfl
  replace S:=S.drew
  refine seq_wq [(0,true),(1,true),(2,true),(3,true),(4,true),(5,false),(6,true),(7,true),(8,true),(9,true),(10,true),(11,true),(12,true),(13,true),(14,false),(15,true),(16,true),(17,true),(18,true),(19,true),(20,false),(21,true),(22,true),(23,true),(24,true),(25,true),(26,true),(27,true),(28,true),(29,true),(30,true),(31,true),(32,true),(33,false),(34,true),(35,true),(36,true)] (by kernel_rfl) (by kernel_rfl) (S.sel [0,1] G G) fun K24 k24=>?_
  refine qF H<|qd rfl (fun _ S=>(aD dF rfl))<|qd rfl (fun _ S=>aG aE rfl (boxM.rd S (i:=0) G G))<|qd rfl (fun _ S=>(aD dD rfl))<|qd rfl (fun _ S=>aG aE rfl (boxM.rd S (i:=1) G G))<|qd rfl (fun _ S=>aR G G (by unfold i64ok;omega))<|qK ?_;clear H a;intro a H
  refine aU rfl ?_
  refine aA H G G Tryz.func82 G G (bK _ _ _ _) ?_;clear H a
  rintro _ _ a ⟨rfl,rfl⟩ H
  refine wpList_nil (And.intro (S.sel [0,1] G G) ?_)
  refine qF H<|qd rfl (fun _ S=>bS rfl (by omega))<|qr 1 rfl<|qK ?_;clear H a;intro a H
  refine aF H G G G G (fun _ S=>(aD dN rfl)) ?_;clear H a;intro a H
  refine aF H G G G G (fun _ S=>aG aE rfl (boxM.rd S (i:=0) G G)) ?_;clear H a;intro a H
  refine aF H G G G G (fun _ S=>(aD cD rfl)) ?_;clear H a;intro a H
  refine aF H G G G G (fun _ S=>aG dH rfl (boxM.rd S (i:=1) G G)) ?_;clear H a;intro a H
  refine aF H G G G G (fun _ S=>cH eJ rfl) ?_;clear H a;intro a H
  refine aF H G G G G (fun _ S=>aR G G (by unfold i64ok;omega)) ?_;clear H a;intro a H
  refine aU rfl ?_
  refine aX H G G ?_
  refine aA H G G Tryz.func82 G G (bK _ _ _ _) ?_;clear H a
  rintro _ _ a ⟨rfl,rfl⟩ H
  refine wpList_nil (And.intro (S.sel [0,1] G G) ?_)
  refine aF H G G G G (fun _ S=>bS rfl (by omega)) ?_;clear H a;intro a H
  refine qF H<|qd rfl (fun _ S=>(aW G G G))<|qr 1 rfl<|qK ?_;clear H a;intro a H
  refine aF H G G G G (fun _ S=>(aD fN rfl)) ?_;clear H a;intro a H
  refine aF H G G G G (fun _ S=>aG aE rfl (boxM.rd S (i:=0) G G)) ?_;clear H a;intro a H
  refine aU rfl ?_
  refine aX H G G ?_
  refine aA H G G Tryz.func82 G G (bK _ _ _ _) ?_;clear H a
  rintro _ _ a ⟨rfl,rfl⟩ H
  refine wpList_nil (And.intro (S.sel [0,1] G G) ?_)
  refine aF H G G G G (fun _ S=>bS rfl (by omega)) ?_;clear H a;intro a H
  refine qF H<|qd rfl (fun _ S=>(aW G G G))<|qr 1 rfl<|qK ?_;clear H a;intro a H
  refine aF H G G G G (fun _ S=>aL rfl) ?_;clear H a;intro a H
  refine aF H G G G G (fun _ S=>oX G G (by omega)) ?_;clear H a;intro a H
  refine aF H G G G G (fun _ S=>aL rfl) ?_;clear H a;intro a H
  refine aF H G G G G (fun _ S=>aL rfl) ?_;clear H a;intro a H
  refine aF H G G G G (fun _ S=>aL rfl) ?_;clear H a;intro a H
  refine aF H G G G G (fun _ S=>aR G G (by unfold i64ok;omega)) ?_;clear H a;intro a H
  refine aF H G G G G (fun _ S=>bV eK eF G G (hl.adr (by omega)) (by omega) (by omega)) ?_;clear H a;intro a H
  refine aF H G G G G (fun _ S=>(aT pC eF rfl S hl (by omega) (by omega))) ?_;clear H a;intro a H
  refine aF H G G G G (fun _ S=>(aB pC eF rfl S (i:=0) G G)) ?_;clear H a;intro a H
  refine aU rfl ?_
  refine aX H G G ?_
  refine aA H G G Tryz.func83 G G (Hn (l.getD ((k:Int)-1).toNat Tsk.zero) (l.getD k Tsk.zero) _) ?_;clear H a
  rintro _ _ a ⟨rfl,S2⟩ H
  replace S:=S.call S2;clear S2
  refine wpList_nil (And.intro (S.sel [0,1] G G) ?_)
  refine aF H G G G G (fun _ S=>cP rfl) ?_;clear H a;intro a H
  refine aF H G G G G (fun _ S=>(iR G G G)) ?_;clear H a;intro a H
  refine qF H<|qd rfl (fun _ S=>(aW G G G))<|qK ?_;clear H a;intro a H
  refine bM ?_
  refine k24 _ _ ?_
  clear k24 K24
  refine cond_ H rfl (fun hc8=>?_) (fun hc8=>?_)
  ·skip
   try simp only [o1,o2,o3,o4,o5,o6,o7,o8,o9,oa] at hc8
   replace hc8:befB (l.getD ((k:Int)-1).toNat Tsk.zero) (l.getD k Tsk.zero)=false:=by simpa using hc8
   replace H:=H.keep [] rfl
   refine sS H fun K25 k25=>sr 1 rfl<|sE ?_;clear H a;intro a H
   refine k25 _ ?_;clear k25 K25
   refine wp_ret ?_
   refine ret1 (fn:=Tryz.f39) rfl H rfl ?_
   rw [gB hye (by omega) (show k<l.length by omega) (Ac hB hc8)];exact ⟨rfl,(S.sel [] G G)⟩
  try simp only [o1,o2,o3,o4,o5,o6,o7,o8,o9,oa] at hc8
  replace hc8:befB (l.getD ((k:Int)-1).toNat Tsk.zero) (l.getD k Tsk.zero)=true:=by simpa using hc8
  refine wp_skip ?_
  refine k14 _ _ ?_
  refine sO H<|sd (aK G G (by unfold i64ok;omega))<|sr 1 rfl<|sE ?_;clear H a;intro a H
  exact k11 (g1-1) (k+1) a _ (by omega) (by first|exact ⟨by omega,by omega,eU (f:=tskB y l) hp.2.2 (mG hB)⟩|exact ⟨by omega,by omega,eU (f:=tskB y l) hp.2.2 (mH hB hc8)⟩) (S.sel [1] G G) (H.keep [18,1,2,16,17] rfl)
 refine wp_exit ?_
 refine k9 _ _ ?_
 refine sS H fun K27 k27=>sr 1 rfl<|sE ?_;clear H a;intro a H
 refine k27 _ ?_;clear k27 K27
 refine wp_ret ?_
 refine ret1 (fn:=Tryz.f39) rfl H rfl ?_
 rw [tF hye (by omega) (bZ.2 fun q hq=>hp.2.2 q (by omega))];exact ⟨rfl,(S.sel [] G G)⟩
end
section
def MList (ps:List Psg) (k:Nat) (ml:List Int):Prop:=ml.length≤k∧∀ m,0≤m→(hasI ml m=true↔¬ cntM ps m k=0)
theorem MList.nil {ps:List Psg}:MList ps 0 []:=⟨Nat.le_refl 0,fun m _=>by
  constructor
  · intro h;cases h
  · intro h;exact absurd rfl h⟩
theorem uZ {ps:List Psg} {m:Int} {k:Nat}:cntM ps m (k+1)=cntM ps m k+(if cE ps k=m then 1 else 0):=rfl
theorem Ho {l:List Int} {x m:Int}:hasI (l++[x]) m=(hasI l m||decide (m=x)):=by unfold hasI;rw [List.any_append];simp
theorem MList.add {ps:List Psg} {k:Nat} {ml:List Int} (h:MList ps k ml):MList ps (k+1) (ml++[cE ps k]):=⟨by rw [List.length_append];have:=h.1;simp;omega,fun m hm=>by
  have h1:=h.2 m hm
  have h2:=Dx (ps:=ps) (m:=m) (k:=k)
  rw [Ho,uZ,Bool.or_eq_true,decide_eq_true_eq,h1]
  by_cases e:cE ps k=m
  · rw [if_pos e];exact ⟨fun _=>by omega,fun _ => .inr e.symm⟩
  · rw [if_neg e,Int.add_zero];exact ⟨fun g=>g.resolve_right (fun g=>e g.symm),.inl⟩⟩
theorem MList.skip {ps:List Psg} {k:Nat} {ml:List Int} (h:MList ps k ml) (hk:cE ps k<0):MList ps (k+1) ml:=⟨by have:=h.1;omega,fun m hm=>by
  rw [uZ,if_neg (by omega),Int.add_zero]
  exact h.2 m hm⟩
theorem MList.fresh {ps:List Psg} {k:Nat} {ml:List Int} (h:MList ps k ml) (h0:0≤(ps.getD k Psg.zero).mach) (hh:hasI ml (ps.getD k Psg.zero).mach=false):cntM ps (cE ps k) k=0:=by
  have h9:=h.2 _ h0
  rw [hh] at h9
  have h8:cE ps k=(ps.getD k Psg.zero).mach:=rfl
  rw [h8]
  simp only [Bool.false_eq_true,false_iff] at h9
  omega
theorem oN {pl:Int} {ps:List Psg} {k:Nat} (h:psgOk pl (ps.getD k Psg.zero)=true) (hz:cntM ps (cE ps k) k=0):pasOk pl ps k=true:=by unfold pasOk;rw [h,decide_eq_true (.inr hz)];rfl
theorem oO {pl:Int} {ps:List Psg} {k:Nat} (h:psgOk pl (ps.getD k Psg.zero)=true) (hz:(ps.getD k Psg.zero).mach<0):pasOk pl ps k=true:=by unfold pasOk;rw [h,decide_eq_true (.inl hz)];rfl
theorem Qx {pl:Int} {ps:List Psg} {k:Nat} {ml:List Int} (hM:MList ps k ml) (hc:((ps.getD k Psg.zero).mach<0∨11<(ps.getD k Psg.zero).mach)∨hasI ml (ps.getD k Psg.zero).mach=true) (hk:(ps.getD k Psg.zero).kind=3∨(ps.getD k Psg.zero).kind=4):pasOk pl ps k=false:=by
  unfold pasOk
  rw [Bool.and_eq_false_iff]
  by_cases h0:0≤(ps.getD k Psg.zero).mach∧(ps.getD k Psg.zero).mach≤11
  · refine .inr (decide_eq_false ?_)
    have h9:=hM.2 _ h0.1
    have h8:cE ps k=(ps.getD k Psg.zero).mach:=rfl
    rw [h8]
    rcases hc with h7|h7
    · omega
    · rw [h7] at h9
      simp only [true_iff] at h9
      omega
  · exact .inl (fE (by omega))
theorem Qy {pl:Int} {xs:List Int} {k:Nat} (h:(0≤xs.getD k 0∧xs.getD k 0≤pl-1)∧(k=0∨xs.getD (k-1) 0<xs.getD k 0)):exOk pl xs k=true:=by unfold exOk;rw [decide_eq_true_eq];omega
theorem Qz {pl:Int} {xs:List Int} {k:Nat} (h:¬ ((0≤xs.getD k 0∧xs.getD k 0≤pl-1)∧(k=0∨xs.getD (k-1) 0<xs.getD k 0))):exOk pl xs k=false:=by unfold exOk;rw [decide_eq_false_iff_not];omega
theorem Cm {l:List Int} {x:Int} {v:Value} (hv:v = .int .i64 x):∀ k j,k<l.length+1→j<1→capp l.length (icl l) (fun k' j=>([[v]].getD k' []).getD j undef) k j=icl (l++[x]) k j:=by
  intro k j hk hj
  have:j=0:=by omega
  subst this
  subst hv
  unfold capp icl
  by_cases h:k<l.length
  · rw [if_pos h,List.getD_eq_getElem?_getD,List.getD_eq_getElem?_getD,List.getElem?_append_left h]
  · have e:k=l.length:=by omega
    subst e
    rw [if_neg h,Nat.sub_self,List.getD_eq_getElem?_getD,List.getElem?_append_right (Nat.le_refl _),Nat.sub_self]
    rfl
theorem cJ (n lo hi:Int) (w:World) :
    Calls Tryz.prog 32 [.int .i64 n,.int .i64 lo,.int .i64 hi].toArray w (Ret (fun v w'=>v = .bool (decide (lo≤n)&&decide (n≤hi))∧w'=w)):=by
 refine enter Tryz.func32 rfl Tryz.ntmps32 rfl (fun a H=>?_)
 have S:=St.start w
 refine sS H fun K1 k1=>sr 1 rfl<|sE ?_;clear H a;intro a H
 refine k1 _ ?_;clear k1 K1
 replace H:=H.keep [0,1,2] rfl
 refine sS H fun K2 k2=>sr 4 rfl<|sg 3 3 10 13 true G G (fun hg4=>sy hg4<|sr 1 rfl<|sy hg4<|sr 1 rfl<|sy hg4<|sr 1 rfl<|sz 3 G G G)<|sa G G G<|sr 1 rfl<|sE ?_;clear H a;intro a H
 refine k2 _ ?_;clear k2 K2
 refine wp_ret ?_
 refine ret1 (fn:=Tryz.f32) rfl H rfl ?_
 exact ⟨rfl,rfl⟩
theorem xF (n:Int) (w:World) :
    Calls Tryz.prog 65 [.int .i64 n].toArray w (Ret (fun v w'=>v = .bool (decide (0≤n)&&decide (n≤4095))∧w'=w)):=by
 refine enter Tryz.func65 rfl Tryz.ntmps65 rfl (fun a H=>?_)
 have S:=St.start w
 refine sS H fun K1 k1=>sr 1 rfl<|sE ?_;clear H a;intro a H
 refine k1 _ ?_;clear k1 K1
 refine sS H fun K2 k2=>sr 1 rfl<|sc rfl Tryz.func32 G G (cJ _ _ _ _)<|sr 1 rfl<|sE ?_;clear H a;intro a H
 refine k2 _ ?_;clear k2 K2
 refine wp_ret ?_
 refine ret1 (fn:=Tryz.f65) rfl H rfl ?_
 exact ⟨rfl,rfl⟩
theorem Ra (l:List Int) (A:Option Addr) (cp:Nat) (x:Int) (w:World) (hl:InS w noF 1 A l.length (icl l)) (hn:l.length≤9223372036854775807) :
    Calls Tryz.prog 33 [.slice A l.length cp,.int .i64 x].toArray w (Ret (fun u w'=>u = .bool (hasI l x)∧St w noF [] w')):=by
 refine enter Tryz.func33 rfl Tryz.ntmps33 rfl (fun a H=>?_)
 have S:=St.start w
 refine sS H fun K1 k1=>sr 1 rfl<|sE ?_;clear H a;intro a H
 refine k1 _ ?_;clear k1 K1
 refine wp_seq_k fun K2 k2=>?_
 refine sS H fun K3 k3=>sr 1 rfl<|sE ?_;clear H a;intro a H
 refine k3 _ ?_;clear k3 K3
 refine wp_block ?_
 refine loop_st (X:=Nat) (R0:=_) [0,1] H rfl (fun k=>[(5,.int .i64 (k:Int))]) (fun k=>[]) (fun g k=>k≤l.length∧g+k=l.length∧(l.take k).any (fun y=>decide (x=y))=false) (l.length) 0 ?_ (S.sel [] G G) (H.keep [5,0,1] rfl) ?_
 · exact ⟨by omega,by omega,rfl⟩
 clear H S a
 intro g1 x1 a w1 hp S H K4 k4
 obtain ⟨k,rfl⟩:∃ y,y=x1:=⟨_,rfl⟩
 refine wp_seq_k fun K5 k5=>?_
 refine sS H fun K6 k6=>sr 2 rfl<|sL aY rfl<|sr 1 rfl<|sE ?_;clear H a;intro a H
 refine k6 _ ?_;clear k6 K6
 refine condL H rfl (fun hc1=>?_) (fun hc1=>?_)
 ·skip
  refine wp_skip ?_
  refine k5 _ _ ?_
  refine wp_seq_k fun K7 k7=>?_
  refine wp_block ?_
  replace H:=H.keep [0,1,5] rfl
  refine sS H fun K8 k8=>sr 2 rfl<|si aY bF G G (hl.adr (by omega)) (by omega)<|slm aE rfl (hl.rd S (by omega) (by omega))<|sr 2 rfl<|sE ?_;clear H a;intro a H
  refine k8 _ ?_;clear k8 K8
  refine condE H rfl (fun hc2=>?_) (fun hc2=>?_)
  ·skip
   refine sS H fun K9 k9=>sr 1 rfl<|sE ?_;clear H a;intro a H
   refine k9 _ ?_;clear k9 K9
   refine wp_ret ?_
   refine ret1 (fn:=Tryz.f33) rfl H rfl ?_
   exact ⟨by rw [Ve (k:=k) (by omega) (by omega)],(S.sel [] G G)⟩
  refine wp_skip ?_
  refine k7 _ _ ?_
  replace H:=H.keep [0,1,5] rfl
  refine sO H<|sr 1 rfl<|sd (aK G G (by unfold i64ok;omega))<|sr 1 rfl<|sE ?_;clear H a;intro a H
  exact k4 (g1-1) (k+1) a _ (by omega) (⟨by omega,by omega,Lz (by omega) hp.2.2 (by omega)⟩) (S.sel [] G G) (H.keep [5,0,1] rfl)
 refine wp_exit ?_
 refine k2 _ _ ?_
 refine sS H fun K11 k11=>sr 1 rfl<|sE ?_;clear H a;intro a H
 refine k11 _ ?_;clear k11 K11
 refine wp_ret ?_
 refine ret1 (fn:=Tryz.f33) rfl H rfl ?_
 exact ⟨by unfold hasI;rw [←List.take_of_length_le (l:=l) (i:=k) (by omega),hp.2.2],(S.sel [] G G)⟩
theorem lQ (pl:Int) (ps:List Psg) (PA:Option Addr) (pc:Nat) (xs:List Int) (XA:Option Addr) (xc:Nat) (w:World) (hps:InS w noF 7 PA ps.length (pcell ps)) (hpn:ps.length≤9223372036854775807) (hxs:InS w noF 1 XA xs.length (icl xs)) (hxn:xs.length≤9223372036854775807) :
    Calls Tryz.prog 8 [.agg [.int .i64 pl,.slice PA ps.length pc,.slice XA xs.length xc].toArray].toArray w (Ret (fun v w'=>v = .int .i64 (stE pl ps xs)∧St w noF [] w')):=by
 refine enter Tryz.func8 rfl Tryz.ntmps8 rfl (fun a H=>?_)
 have S:=St.start w
 refine seq_list fun K1 k1=>?_
 refine aN H rfl S G G ?_;clear H a S;intro b1 _ a hb1 hbw1 S H
 refine ls 1 H<|sr 1 rfl<|sE ?_;clear H a;intro a H
 refine k1 _ _ ?_;clear k1 K1
 refine wp_seq_k fun K2 k2=>?_
 replace H:=H.keep [1] rfl
 refine sS H fun K3 k3=>sf dX rfl<|sl S 0 aE G G G<|sc rfl Tryz.func32 G G (cJ _ _ _ _)<|sr 2 rfl<|sg 4 4 11 15 false G G (fun hg5=>by
     have hq5:=hg5;try simp only [o1,o2,o3,o4,o5,o6,o7,o8,o9,oa] at hq5
     exact sy hg5<|sf fC rfl<|sy hg5<|sl S 0 gY G G G<|sy hg5<|sL fZ rfl<|sy hg5<|sr 1 rfl<|sz 4 G G G)<|so G G G<|sE ?_;clear H a;intro a H
 refine k3 _ ?_;clear k3 K3
 refine cond_ H rfl (fun hc1=>?_) (fun hc1=>?_)
 ·skip
  try simp only [o1,o2,o3,o4,o5,o6,o7,o8,o9,oa] at hc1
  replace H:=H.keep [] rfl
  refine sS H fun K4 k4=>sr 1 rfl<|sE ?_;clear H a;intro a H
  refine k4 _ ?_;clear k4 K4
  refine wp_ret ?_
  refine ret1 (fn:=Tryz.f8) rfl H rfl ?_
  exact ⟨congrArg _ (Dy (by omega)).symm,(S.sel [] G G)⟩
 try simp only [o1,o2,o3,o4,o5,o6,o7,o8,o9,oa] at hc1
 refine wp_skip ?_
 refine k2 _ _ ?_
 refine sS H fun K5 k5=>sr 1 rfl<|sE ?_;clear H a;intro a H
 refine k5 _ ?_;clear k5 K5
 refine wp_seq_k fun K6 k6=>?_
 refine sS H fun K7 k7=>sr 1 rfl<|sE ?_;clear H a;intro a H
 refine k7 _ ?_;clear k7 K7
 refine wp_block ?_
 replace S:=S.newNil 3 1 (icl [])
 refine loop_st (X:=Nat×List Int×Option Addr×Nat) (R0:=_) [1] H rfl (fun ⟨k,ml,A9,c9⟩=>[(3,.slice A9 ml.length c9),(4,.int .i64 (k:Int))]) (fun ⟨k,ml,A9,c9⟩=>[ownM 3 1 A9 ml.length c9 (icl ml)]) (fun g ⟨k,ml,A9,c9⟩=>k≤ps.length∧g+k=ps.length∧allN (pasOk pl ps) k=true∧MList ps k ml) (ps.length) (0,[],none,0) ?_ (S.sel [0,1] G G) (H.keep [3,4,1] rfl) ?_
 · exact ⟨by omega,by omega,rfl,MList.nil⟩
 clear H S a
 intro g1 x1 a w1 hp S H K8 k8
 obtain ⟨k,ml,A9,c9⟩:=x1
 dsimp only at hp S H
 obtain ⟨hkl,hgk,hA,hM⟩:=hp
 refine wp_seq_k fun K9 k9=>?_
 refine sS H fun K10 k10=>sr 1 rfl<|sf fC rfl<|sl S 1 gY G G G<|sL fZ rfl<|sr 1 rfl<|sE ?_;clear H a;intro a H
 refine k10 _ ?_;clear k10 K10
 refine condL H rfl (fun hc2=>?_) (fun hc2=>?_)
 ·skip
  refine wp_skip ?_
  refine k9 _ _ ?_
  refine wp_seq_k fun K11 k11=>?_
  refine wp_block ?_
  replace H:=H.keep [1,3,4] rfl
  refine seq_list fun K12 k12=>?_
  refine ls 5 H<|sf fC rfl<|sl S 1 gY G G G<|sr 1 rfl<|si fZ dR G G (hps.adr (by omega)) (by omega)<|sd ((aT kG dR rfl S hps (by omega) (by omega)))<|sE ?_;clear H a;intro a H
  refine aI H rfl S lK ?_;clear H a S;intro b5 _ a hb5 hbw5 S H
  refine aC H S (i:=0) G G G G dR G G ?_
  clear H a S;intro _ a S H
  refine k12 _ _ ?_;clear k12 K12
  refine wp_seq_k fun K13 k13=>?_
  replace H:=H.keep [1,3,4,5] rfl
  refine sS H fun K14 k14=>sf jQ rfl<|sl S 0 aE G G G<|sf dX rfl<|sl S 2 aE G G G<|sd (aR G G (by unfold i64ok;omega))<|sc rfl Tryz.func32 G G (cJ _ _ _ _)<|sr 2 rfl<|sg 7 7 36 43 false G G (fun hg8=>by
      have hq8:=hg8;try simp only [o1,o2,o3,o4,o5,o6,o7,o8,o9,oa] at hq8
      exact sy hg8<|sf jR rfl<|sy hg8<|sl S 0 aE G G G<|sy hg8<|sf dX rfl<|sy hg8<|sl S 2 aE G G G<|sy hg8<|sd (aR G G (by unfold i64ok;omega))<|sy hg8<|sc rfl Tryz.func32 G G (cJ _ _ _ _)<|sy hg8<|sr 1 rfl<|sz 7 G G G)<|so G G G<|sr 1 rfl<|sg 5 16 45 50 false G G (fun hg17=>by
      have hq17:=hg17;try simp only [o1,o2,o3,o4,o5,o6,o7,o8,o9,oa] at hq17
      exact sy hg17<|sf jQ rfl<|sy hg17<|sl S 0 aE G G G<|sy hg17<|sf jR rfl<|sy hg17<|sl S 0 aE G G G<|sy hg17<|sr 1 rfl<|sz 5 G G G)<|so G G G<|sr 1 rfl<|sg 4 23 52 56 false G G (fun hg24=>by
      have hq24:=hg24;try simp only [o1,o2,o3,o4,o5,o6,o7,o8,o9,oa] at hq24
      exact sy hg24<|sf rS rfl<|sy hg24<|sl S 0 aE G G G<|sy hg24<|sc rfl Tryz.func32 G G (cJ _ _ _ _)<|sy hg24<|sr 1 rfl<|sz 4 G G G)<|so G G G<|sr 1 rfl<|sg 4 29 58 62 false G G (fun hg30=>by
      have hq30:=hg30;try simp only [o1,o2,o3,o4,o5,o6,o7,o8,o9,oa] at hq30
      exact sy hg30<|sf yF rfl<|sy hg30<|sl S 0 aE G G G<|sy hg30<|sc rfl Tryz.func32 G G (cJ _ _ _ _)<|sy hg30<|sr 1 rfl<|sz 4 G G G)<|so G G G<|sr 1 rfl<|sg 4 35 64 68 false G G (fun hg36=>by
      have hq36:=hg36;try simp only [o1,o2,o3,o4,o5,o6,o7,o8,o9,oa] at hq36
      exact sy hg36<|sf gH rfl<|sy hg36<|sl S 0 aE G G G<|sy hg36<|sc rfl Tryz.func32 G G (cJ _ _ _ _)<|sy hg36<|sr 1 rfl<|sz 4 G G G)<|so G G G<|sE ?_;clear H a;intro a H
  refine k14 _ ?_;clear k14 K14
  refine cond_ H rfl (fun hc3=>?_) (fun hc3=>?_)
  ·skip
   try simp only [o1,o2,o3,o4,o5,o6,o7,o8,o9,oa] at hc3
   replace H:=H.keep [] rfl
   refine sS H fun K15 k15=>sr 1 rfl<|sE ?_;clear H a;intro a H
   refine k15 _ ?_;clear k15 K15
   refine wp_ret ?_
   refine ret1 (fn:=Tryz.f8) rfl H rfl ?_
   exact ⟨congrArg _ (kN (k:=k) (by omega) (by unfold pasOk;rw [Bool.and_eq_false_iff];exact .inl (fE (by omega)))).symm,(S.sel [] G G)⟩
  try simp only [o1,o2,o3,o4,o5,o6,o7,o8,o9,oa] at hc3
  refine wp_skip ?_
  refine k13 _ _ ?_
  refine wp_seq_k fun K16 k16=>?_
  refine sS H fun K17 k17=>sf gH rfl<|sl S 0 aE G G G<|sr 2 rfl<|sg 3 3 73 76 false G G (fun hg4=>by
      have hq4:=hg4;try simp only [o1,o2,o3,o4,o5,o6,o7,o8,o9,oa] at hq4
      exact sy hg4<|sf gH rfl<|sy hg4<|sl S 0 aE G G G<|sy hg4<|sr 1 rfl<|sz 3 G G G)<|so G G G<|sE ?_;clear H a;intro a H
  refine k17 _ ?_;clear k17 K17
  refine cond_ H rfl (fun hc4=>?_) (fun hc4=>?_)
  ·skip
   try simp only [o1,o2,o3,o4,o5,o6,o7,o8,o9,oa] at hc4
   refine wp_seq_k fun K18 k18=>?_
   replace H:=H.keep [1,3,4,5] rfl
   refine seq_list fun K19 k19=>?_
   refine ls 2 H<|sf dL rfl<|sl S 0 aE G G G<|sE ?_;clear H a;intro a H
   refine aA H G G Tryz.func32 G G (cJ _ _ _ _) ?_;clear H a
   rintro _ _ a ⟨rfl,rfl⟩ H
   refine ls 2 H<|sr 2 rfl<|sE ?_;clear H a;intro a H
   apply bN (i:=4) (g:=82) (t:=86) (b:=false) 4 H S G G (by kernel_rfl) (by kernel_rfl) G G
   case h1=>
    intro hg5
    have hq5:=hg5;try simp only [o1,o2,o3,o4,o5,o6,o7,o8,o9,oa] at hq5
    refine ls 3 H<|sy hg5<|sr 1 rfl<|sy hg5<|sf dL rfl<|sy hg5<|sl S 0 aE G G G<|sE ?_;intro a H
    refine bY H G G (by assumption) ?_
    refine aA H G G Tryz.func33 G G (Ra ml A9 c9 _ _ (ownM.inS S (i:=1) rfl) (by have:=hM.1;omega)) ?_
    rintro _ _ a ⟨rfl,S2⟩ H
    replace S:=S.call S2;clear S2
    exact wpList_nil ⟨H.strip 4 G G,(S.sel [0,1,2] G G)⟩
   clear H a S;intro a _ H S
   refine ls 1 H<|so G G G<|sE ?_;clear H a;intro a H
   refine k19 _ _ ?_;clear k19 K19
   refine cond_ H rfl (fun hc5=>?_) (fun hc5=>?_)
   ·skip
    try simp only [o1,o2,o3,o4,o5,o6,o7,o8,o9,oa] at hc5
    replace H:=H.keep [] rfl
    refine sS H fun K20 k20=>sr 1 rfl<|sE ?_;clear H a;intro a H
    refine k20 _ ?_;clear k20 K20
    refine wp_ret ?_
    refine ret1 (fn:=Tryz.f8) rfl H rfl ?_
    exact ⟨congrArg _ (kN (k:=k) (by omega) (Qx hM hc5 hc4)).symm,(S.sel [] G G)⟩
   try simp only [o1,o2,o3,o4,o5,o6,o7,o8,o9,oa] at hc5
   have hz:=hM.fresh hc5.1.1 hc5.2
   refine wp_skip ?_
   refine k18 _ _ ?_
   refine one_list ?_
   refine ls 3 H<|sr 1 rfl<|sf dL rfl<|sl S 0 aE G G G<|sE ?_;clear H a;intro a H
   refine aV H rfl S aY bF iG G G G G G G G G G ?_;clear H a S;intro A1 _ a hA1 S H
   refine aZ H rfl S aY bF iG pG G G (i:=2) G G G (ownM.inS S (i:=0) rfl) (Ly (w8one rfl)) (by have:=hM.1;omega) (by have:=hM.1;omega) ?_;clear H a S;intro A2 c2 _ a S H
   replace S:=S.recell (i:=2) rfl (cell':=icl (ml++[cE ps k])) (fun q j hq hj=>Cm rfl q j hq hj)
   rw [show ml.length+1=(ml++[cE ps k]).length by simp] at H S
   refine ls 1 H<|sr 1 rfl<|sE ?_;clear H a;intro a H
   refine k16 _ _ ?_
   replace H:=H.keep [1,3,4,5] rfl
   refine sS H fun K22 k22=>sf gH rfl<|sl S 1 aE G G G<|sr 1 rfl<|sE ?_;clear H a;intro a H
   refine k22 _ ?_;clear k22 K22
   refine condE H rfl (fun hc6=>?_) (fun hc6=>?_)
   ·skip
    refine sS H fun K23 k23=>sf iV rfl<|sl S 1 aE G G G<|sc rfl Tryz.func32 G G (cJ _ _ _ _)<|sr 1 rfl<|sE ?_;clear H a;intro a H
    refine k23 _ ?_;clear k23 K23
    refine cond_ H rfl (fun hc7=>?_) (fun hc7=>?_)
    ·skip
     try simp only [o1,o2,o3,o4,o5,o6,o7,o8,o9,oa] at hc7
     refine sS H fun K24 k24=>sr 1 rfl<|sE ?_;clear H a;intro a H
     refine k24 _ ?_;clear k24 K24
     refine wp_ret ?_
     refine ret1 (fn:=Tryz.f8) rfl H rfl ?_
     exact ⟨congrArg _ (kN (k:=k) (by omega) (by unfold pasOk;rw [Bool.and_eq_false_iff];exact .inl (fE (by omega)))).symm,(S.sel [] G G)⟩
    try simp only [o1,o2,o3,o4,o5,o6,o7,o8,o9,oa] at hc7
    refine wp_skip ?_
    refine k11 _ _ ?_
    replace H:=H.keep [1,3,4] rfl
    refine sO H<|sr 1 rfl<|sd (aK G G (by unfold i64ok;omega))<|sr 1 rfl<|sE ?_;clear H a;intro a H
    exact k8 (g1-1) (k+1,_,_,_) a _ (by omega) (by first|exact ⟨by omega,by omega,cM hA (oN (eV.2 (by omega)) hz),hM.add⟩|exact ⟨by omega,by omega,cM hA (oO (eV.2 (by omega)) (by omega)),hM.skip (by unfold cE;omega)⟩) (S.sel [2,3] G G) (H.keep [3,4,1] rfl)
   refine sS H fun K26 k26=>sf iV rfl<|sl S 1 aE G G G<|sr 1 rfl<|sE ?_;clear H a;intro a H
   refine k26 _ ?_;clear k26 K26
   refine condN H rfl (fun hc8=>?_) (fun hc8=>?_)
   ·skip
    refine sS H fun K27 k27=>sr 1 rfl<|sE ?_;clear H a;intro a H
    refine k27 _ ?_;clear k27 K27
    refine wp_ret ?_
    refine ret1 (fn:=Tryz.f8) rfl H rfl ?_
    exact ⟨congrArg _ (kN (k:=k) (by omega) (by unfold pasOk;rw [Bool.and_eq_false_iff];exact .inl (fE (by omega)))).symm,(S.sel [] G G)⟩
   refine wp_skip ?_
   refine k11 _ _ ?_
   replace H:=H.keep [1,3,4] rfl
   refine sO H<|sr 1 rfl<|sd (aK G G (by unfold i64ok;omega))<|sr 1 rfl<|sE ?_;clear H a;intro a H
   exact k8 (g1-1) (k+1,_,_,_) a _ (by omega) (by first|exact ⟨by omega,by omega,cM hA (oN (eV.2 (by omega)) hz),hM.add⟩|exact ⟨by omega,by omega,cM hA (oO (eV.2 (by omega)) (by omega)),hM.skip (by unfold cE;omega)⟩) (S.sel [2,3] G G) (H.keep [3,4,1] rfl)
  try simp only [o1,o2,o3,o4,o5,o6,o7,o8,o9,oa] at hc4
  refine sS H fun K29 k29=>sf dL rfl<|sl S 0 aE G G G<|sr 1 rfl<|sE ?_;clear H a;intro a H
  refine k29 _ ?_;clear k29 K29
  refine condN H rfl (fun hc9=>?_) (fun hc9=>?_)
  ·skip
   refine sS H fun K30 k30=>sr 1 rfl<|sE ?_;clear H a;intro a H
   refine k30 _ ?_;clear k30 K30
   refine wp_ret ?_
   refine ret1 (fn:=Tryz.f8) rfl H rfl ?_
   exact ⟨congrArg _ (kN (k:=k) (by omega) (by unfold pasOk;rw [Bool.and_eq_false_iff];exact .inl (fE (by omega)))).symm,(S.sel [] G G)⟩
  refine wp_skip ?_
  refine k16 _ _ ?_
  replace H:=H.keep [1,3,4,5] rfl
  refine sS H fun K31 k31=>sf gH rfl<|sl S 0 aE G G G<|sr 1 rfl<|sE ?_;clear H a;intro a H
  refine k31 _ ?_;clear k31 K31
  refine condE H rfl (fun hc10=>?_) (fun hc10=>?_)
  ·skip
   refine sS H fun K32 k32=>sf iV rfl<|sl S 0 aE G G G<|sc rfl Tryz.func32 G G (cJ _ _ _ _)<|sr 1 rfl<|sE ?_;clear H a;intro a H
   refine k32 _ ?_;clear k32 K32
   refine cond_ H rfl (fun hc11=>?_) (fun hc11=>?_)
   ·skip
    try simp only [o1,o2,o3,o4,o5,o6,o7,o8,o9,oa] at hc11
    refine sS H fun K33 k33=>sr 1 rfl<|sE ?_;clear H a;intro a H
    refine k33 _ ?_;clear k33 K33
    refine wp_ret ?_
    refine ret1 (fn:=Tryz.f8) rfl H rfl ?_
    exact ⟨congrArg _ (kN (k:=k) (by omega) (by unfold pasOk;rw [Bool.and_eq_false_iff];exact .inl (fE (by omega)))).symm,(S.sel [] G G)⟩
   try simp only [o1,o2,o3,o4,o5,o6,o7,o8,o9,oa] at hc11
   refine wp_skip ?_
   refine k11 _ _ ?_
   replace H:=H.keep [1,3,4] rfl
   refine sO H<|sr 1 rfl<|sd (aK G G (by unfold i64ok;omega))<|sr 1 rfl<|sE ?_;clear H a;intro a H
   exact k8 (g1-1) (k+1,_,_,_) a _ (by omega) (by first|exact ⟨by omega,by omega,cM hA (oN (eV.2 (by omega)) hz),hM.add⟩|exact ⟨by omega,by omega,cM hA (oO (eV.2 (by omega)) (by omega)),hM.skip (by unfold cE;omega)⟩) (S.sel [1,2] G G) (H.keep [3,4,1] rfl)
  refine sS H fun K35 k35=>sf iV rfl<|sl S 0 aE G G G<|sr 1 rfl<|sE ?_;clear H a;intro a H
  refine k35 _ ?_;clear k35 K35
  refine condN H rfl (fun hc12=>?_) (fun hc12=>?_)
  ·skip
   refine sS H fun K36 k36=>sr 1 rfl<|sE ?_;clear H a;intro a H
   refine k36 _ ?_;clear k36 K36
   refine wp_ret ?_
   refine ret1 (fn:=Tryz.f8) rfl H rfl ?_
   exact ⟨congrArg _ (kN (k:=k) (by omega) (by unfold pasOk;rw [Bool.and_eq_false_iff];exact .inl (fE (by omega)))).symm,(S.sel [] G G)⟩
  refine wp_skip ?_
  refine k11 _ _ ?_
  replace H:=H.keep [1,3,4] rfl
  refine sO H<|sr 1 rfl<|sd (aK G G (by unfold i64ok;omega))<|sr 1 rfl<|sE ?_;clear H a;intro a H
  exact k8 (g1-1) (k+1,_,_,_) a _ (by omega) (by first|exact ⟨by omega,by omega,cM hA (oN (eV.2 (by omega)) hz),hM.add⟩|exact ⟨by omega,by omega,cM hA (oO (eV.2 (by omega)) (by omega)),hM.skip (by unfold cE;omega)⟩) (S.sel [1,2] G G) (H.keep [3,4,1] rfl)
 refine wp_exit ?_
 refine k6 _ _ ?_
 refine wp_seq_k fun K38 k38=>?_
 refine sS H fun K39 k39=>sr 1 rfl<|sE ?_;clear H a;intro a H
 refine k39 _ ?_;clear k39 K39
 refine wp_block ?_
 refine loop_st (X:=Nat) (R0:=_) [1] H rfl (fun k2=>[(6,.int .i64 (k2:Int))]) (fun k2=>[]) (fun g k2=>k2≤xs.length∧g+k2=xs.length∧allN (exOk pl xs) k2=true) (xs.length) 0 ?_ (S.sel [0,1] G G) (H.keep [6,1] rfl) ?_
 · exact ⟨by omega,by omega,rfl⟩
 clear H S a
 intro g2 x2 a w2 hp S H K40 k40
 obtain ⟨k2,rfl⟩:∃ y,y=x2:=⟨_,rfl⟩
 refine wp_seq_k fun K41 k41=>?_
 refine sS H fun K42 k42=>sr 1 rfl<|sf mA rfl<|sl S 1 bT G G G<|sL aY rfl<|sr 1 rfl<|sE ?_;clear H a;intro a H
 refine k42 _ ?_;clear k42 K42
 refine condL H rfl (fun hc13=>?_) (fun hc13=>?_)
 ·skip
  refine wp_skip ?_
  refine k41 _ _ ?_
  refine wp_seq_k fun K43 k43=>?_
  refine wp_block ?_
  replace H:=H.keep [1,6] rfl
  replace S:=S.drew
  refine sD H fun K44 k44=>sf mA rfl<|sl S 1 bT G G G<|sr 1 rfl<|si aY bF G G (hxs.adr (by omega)) (by omega)<|slm aE rfl (hxs.rd S (by omega) (by omega))<|sf dX rfl<|sl S 1 aE G G G<|sd (aR G G (by unfold i64ok;omega))<|sc rfl Tryz.func32 G G (cJ _ _ _ _)<|sr 2 rfl<|sg 16 10 123 139 false G G (fun hg11=>by
      have hq11:=hg11;try simp only [o1,o2,o3,o4,o5,o6,o7,o8,o9,oa] at hq11
      exact sy hg11<|sr 1 rfl<|sy hg11<|sr 1 rfl<|sy hg11<|sr 1 rfl<|sg 12 13 126 138 true G G (fun hg14=>by
           have hq14:=hg14;try simp only [o1,o2,o3,o4,o5,o6,o7,o8,o9,oa] at hq14
           exact sy hg14<|sf mA rfl<|sy hg14<|sl S 1 bT G G G<|sy hg14<|sr 1 rfl<|sy hg14<|si aY bF G G (hxs.adr (by omega)) (by omega)<|sy hg14<|slm aE rfl (hxs.rd S (by omega) (by omega))<|sy hg14<|sf mA rfl<|sy hg14<|sl S 1 bT G G G<|sy hg14<|sr 1 rfl<|sy hg14<|sd (aR G G (by unfold i64ok;omega))<|sy hg14<|sI aY bF G G (hxs.adr (by omega)) (by omega) (by omega)<|sy hg14<|slm aE rfl (hxs.rd S (by omega) (by omega))<|sy hg14<|sr 1 rfl<|sz 12 G G G)<|sy hg11<|sa G G G<|sz 5 G G G)<|so G G G<|sE ?_;clear H a;intro a H
  refine k44 _ ?_;clear k44 K44
  refine cond_ H rfl (fun hc14=>?_) (fun hc14=>?_)
  ·skip
   try simp only [o1,o2,o3,o4,o5,o6,o7,o8,o9,oa] at hc14
   rw [show ((k2:Int)-1).toNat=k2-1 by omega] at hc14
   replace H:=H.keep [] rfl
   refine sS H fun K45 k45=>sr 1 rfl<|sE ?_;clear H a;intro a H
   refine k45 _ ?_;clear k45 K45
   refine wp_ret ?_
   refine ret1 (fn:=Tryz.f8) rfl H rfl ?_
   exact ⟨congrArg _ (Td (k:=k2) (by omega) (Qz (by omega))).symm,(S.sel [] G G)⟩
  try simp only [o1,o2,o3,o4,o5,o6,o7,o8,o9,oa] at hc14
  rw [show ((k2:Int)-1).toNat=k2-1 by omega] at hc14
  refine wp_skip ?_
  refine k43 _ _ ?_
  refine sO H<|sr 1 rfl<|sd (aK G G (by unfold i64ok;omega))<|sr 1 rfl<|sE ?_;clear H a;intro a H
  exact k40 (g2-1) (k2+1) a _ (by omega) (⟨by omega,by omega,cM hp.2.2 (Qy (by omega))⟩) (S.sel [0,1] G G) (H.keep [6,1] rfl)
 refine wp_exit ?_
 refine k38 _ _ ?_
 refine sS H fun K47 k47=>sr 1 rfl<|sE ?_;clear H a;intro a H
 refine k47 _ ?_;clear k47 K47
 refine wp_ret ?_
 refine ret1 (fn:=Tryz.f8) rfl H rfl ?_
 have hk9:k=ps.length:=by omega
 have hk8:k2=xs.length:=by omega
 exact ⟨congrArg _ (Te (by omega) (hk9 ▸ hA) (hk8 ▸ hp.2.2)).symm,(S.sel [] G G)⟩
end
section
theorem pN (l:List Psg):∀ k j,k<l.length→j<7→(pcell l k j).oneCell'=true:=fun k j _ _=>by
  unfold pcell Psg.cell
  split <;> rfl
theorem Cn (pl:Int) (ps:List Psg) (PA:Option Addr) (pc:Nat) (xs:List Int) (XA:Option Addr) (xc:Nat) (w:World) (hps:InS w noF 7 PA ps.length (pcell ps)) (hpn:ps.length≤9223372036854775807) (hxs:InS w noF 1 XA xs.length (icl xs)) (hxn:xs.length≤9223372036854775807) (hps2:56*ps.length≤140737488355328) (hxs2:8*xs.length≤140737488355328) :
    Calls Tryz.prog 58 [.agg [.int .i64 pl,.slice PA ps.length pc,.slice XA xs.length xc].toArray].toArray w (Ret (fun u w'=>∃ A c B d,u = .agg [.int .i64 pl,.slice A ps.length c,.slice B xs.length d].toArray∧St w noF [ownM 109 7 A ps.length c (pcell ps),ownM 3 1 B xs.length d (icl xs)] w')):=by
 refine enter Tryz.func58 rfl Tryz.ntmps58 rfl (fun a H=>?_)
 have S:=St.start w
 refine seq_list fun K1 k1=>?_
 refine aN H rfl S G G ?_;clear H a S;intro b1 _ a hb1 hbw1 S H
 refine aI H rfl S Sw ?_;clear H a S;intro b2 _ a hb2 hbw2 S H
 refine k1 _ _ ?_;clear k1 K1
 replace H:=H.keep [1,2] rfl
 replace S:=S.drew
 refine seq_wt 11 (.q 0 (.q 1 (.q 3 (.q 4 (.q 7 (.q 8 (.b2 2 (.b2 5 (.e 6 (.e 9 (.q 10 (.e 11 .nil)))) 6 (.e 5 (.e 9 (.q 10 (.e 11 .nil))))) 6 (.e 2 (.e 5 (.e 9 (.q 10 (.e 11 .nil)))))))))))) (by kernel_rfl) (by kernel_rfl) (S.sel [1] G G) fun K2 k2=>?_
 refine aH H G G (fun _ S => (by first | (exact bI dX rfl; trace "ALT tQ 1.0.1 0") | (exact aD dX rfl; trace "ALT tQ 1.0.1 1"))) ?_;clear H a;intro a H
 refine aH H G G (fun _ S=>aG aE rfl (boxM.rd S (i:=0) G G)) ?_;clear H a;intro a H
 refine aH H G G (fun _ S=>(aD fC rfl)) ?_;clear H a;intro a H
 refine aH H G G (fun _ S=>aG gY rfl (boxM.rd S (i:=0) G G)) ?_;clear H a;intro a H
 refine aH H G G (fun _ S=>(aD mA rfl)) ?_;clear H a;intro a H
 refine aH H G G (fun _ S=>aG bT rfl (boxM.rd S (i:=0) G G)) ?_;clear H a;intro a H
 refine dW G G ?_ ?_
 ·skip
  refine dK H rfl S fZ dR (pcell ps) ?_;clear H a S;intro A1 _ a S H
  refine wpList_nil (And.intro (Or.inr (S.sel [2] G G)) ?_)
  refine dW G G ?_ ?_
  ·skip
   refine aZ H rfl S fZ dR lK Bg G G (i:=0) G G G ((hps.now S)) (pN ps) (by omega) (by omega) ?_;clear H a S;intro A2 c2 _ a S H
   rw [Nat.zero_add] at H
   replace S:=S.recell (i:=0) (n:=ps.length) (cell':=pcell ps) (by simp only [Nat.zero_add];rfl) (fun k j hk hj=>by unfold capp;rw [if_neg (by omega)];rfl)
   refine wpList_nil (And.intro (Or.inr (S.sel [2] G G)) ?_)
   refine aM rfl ?_
   refine dK H rfl S aY bF (icl xs) ?_;clear H a S;intro A3 _ a S H
   refine wpList_nil (And.intro (Or.inr (S.sel [3] G G)) ?_)
   refine aM rfl ?_
   refine aZ H rfl S aY bF iG pG G G (i:=0) G G G ((hxs.now S)) (fun _ _ _ _=>rfl) (by omega) (by omega) ?_;clear H a S;intro A4 c4 _ a S H
   rw [Nat.zero_add] at H
   replace S:=S.recell (i:=0) (n:=xs.length) (cell':=icl xs) (by simp only [Nat.zero_add];rfl) (fun k j hk hj=>by unfold capp;rw [if_neg (by omega)];rfl)
   refine wpList_nil (And.intro (Or.inr (S.sel [3] G G)) ?_)
   refine aH H G G (fun _ S=>aO Ke G G) ?_;clear H a;intro a H
   refine aM rfl ?_
   refine aC H S (i:=2) G G G G eM G G ?_
   clear H a S;intro _ a S H
   refine wpList_nil (And.intro (Or.inl rfl) ?_)
   refine bC ?_
   refine k2 _ _ ?_
   clear k2 K2
   refine wp_ret ?_
   refine retA (fn:=Tryz.f58) rfl H rfl dP (by exact eM) (cA S (i:=2) rfl) ?_
   exact ⟨_,_,_,_,rfl,(S.sel [1,0] G G)⟩
  ·skip
   refine dK H rfl S aY bF (icl xs) ?_;clear H a S;intro A5 _ a S H
   refine wpList_nil (And.intro (Or.inr (S.sel [3] G G)) ?_)
   refine aM rfl ?_
   refine aZ H rfl S fZ dR lK Bg G G (i:=1) G G G ((hps.now S)) (pN ps) (by omega) (by omega) ?_;clear H a S;intro A6 c6 _ a S H
   rw [Nat.zero_add] at H
   replace S:=S.recell (i:=1) (n:=ps.length) (cell':=pcell ps) (by simp only [Nat.zero_add];rfl) (fun k j hk hj=>by unfold capp;rw [if_neg (by omega)];rfl)
   refine wpList_nil (And.intro (Or.inr (S.sel [3] G G)) ?_)
   refine aM rfl ?_
   refine aZ H rfl S aY bF iG pG G G (i:=0) G G G ((hxs.now S)) (fun _ _ _ _=>rfl) (by omega) (by omega) ?_;clear H a S;intro A7 c7 _ a S H
   rw [Nat.zero_add] at H
   replace S:=S.recell (i:=0) (n:=xs.length) (cell':=icl xs) (by simp only [Nat.zero_add];rfl) (fun k j hk hj=>by unfold capp;rw [if_neg (by omega)];rfl)
   refine wpList_nil (And.intro (Or.inr (S.sel [3] G G)) ?_)
   refine aH H G G (fun _ S=>aO Ke G G) ?_;clear H a;intro a H
   refine aM rfl ?_
   refine aC H S (i:=2) G G G G eM G G ?_
   clear H a S;intro _ a S H
   refine wpList_nil (And.intro (Or.inl rfl) ?_)
   refine bC ?_
   refine k2 _ _ ?_
   clear k2 K2
   refine wp_ret ?_
   refine retA (fn:=Tryz.f58) rfl H rfl dP (by exact eM) (cA S (i:=2) rfl) ?_
   exact ⟨_,_,_,_,rfl,(S.sel [1,0] G G)⟩
 ·skip
  refine dK H rfl S aY bF (icl xs) ?_;clear H a S;intro A8 _ a S H
  refine wpList_nil (And.intro (Or.inr (S.sel [2] G G)) ?_)
  refine aM rfl ?_
  refine dK H rfl S fZ dR (pcell ps) ?_;clear H a S;intro A9 _ a S H
  refine wpList_nil (And.intro (Or.inr (S.sel [3] G G)) ?_)
  refine aM rfl ?_
  refine aZ H rfl S fZ dR lK Bg G G (i:=0) G G G ((hps.now S)) (pN ps) (by omega) (by omega) ?_;clear H a S;intro A10 c10 _ a S H
  rw [Nat.zero_add] at H
  replace S:=S.recell (i:=0) (n:=ps.length) (cell':=pcell ps) (by simp only [Nat.zero_add];rfl) (fun k j hk hj=>by unfold capp;rw [if_neg (by omega)];rfl)
  refine wpList_nil (And.intro (Or.inr (S.sel [3] G G)) ?_)
  refine aM rfl ?_
  refine aZ H rfl S aY bF iG pG G G (i:=1) G G G ((hxs.now S)) (fun _ _ _ _=>rfl) (by omega) (by omega) ?_;clear H a S;intro A11 c11 _ a S H
  rw [Nat.zero_add] at H
  replace S:=S.recell (i:=1) (n:=xs.length) (cell':=icl xs) (by simp only [Nat.zero_add];rfl) (fun k j hk hj=>by unfold capp;rw [if_neg (by omega)];rfl)
  refine wpList_nil (And.intro (Or.inr (S.sel [3] G G)) ?_)
  refine aH H G G (fun _ S=>aO Ke G G) ?_;clear H a;intro a H
  refine aM rfl ?_
  refine aC H S (i:=2) G G G G eM G G ?_
  clear H a S;intro _ a S H
  refine wpList_nil (And.intro (Or.inl rfl) ?_)
  refine bC ?_
  refine k2 _ _ ?_
  clear k2 K2
  refine wp_ret ?_
  refine retA (fn:=Tryz.f58) rfl H rfl dP (by exact eM) (cA S (i:=2) rfl) ?_
  exact ⟨_,_,_,_,rfl,(S.sel [0,1] G G)⟩
end
section
theorem oP (pl:Int) (ps:List Psg) (PA:Option Addr) (pc:Nat) (xs:List Int) (XA:Option Addr) (xc:Nat) (pe:List Int) (BA:Option Addr) (bc:Nat) (w:World) (hpe:InS w noF 1 BA pe.length (icl pe)) (hpen:pe.length≤9223372036854775807) :
    Calls Tryz.prog 66 [.agg [.int .i64 pl,.slice PA ps.length pc,.slice XA xs.length xc].toArray,.slice BA pe.length bc].toArray w (Ret (fun v w'=>v = .bool (eY pl pe)∧St w noF [] w')):=by
 refine enter Tryz.func66 rfl Tryz.ntmps66 rfl (fun a H=>?_)
 have S:=St.start w
 refine seq_list fun K1 k1=>?_
 refine aN H rfl S G G ?_;clear H a S;intro b2 _ a hb2 hbw2 S H
 refine ls 1 H<|sr 1 rfl<|sE ?_;clear H a;intro a H
 refine k1 _ _ ?_;clear k1 K1
 refine wp_seq_k fun K2 k2=>?_
 refine sS H fun K3 k3=>sr 1 rfl<|sE ?_;clear H a;intro a H
 refine k3 _ ?_;clear k3 K3
 refine wp_block ?_
 refine loop_st (X:=Nat) (R0:=_) [1,2] H rfl (fun k=>[(5,.int .i64 (k:Int))]) (fun k=>[]) (fun g k=>k≤pe.length∧g+k=pe.length∧allN (fun k=>decide (0≤pe.getD k 0∧pe.getD k 0≤1000)) k=true) (pe.length) 0 ?_ (S.sel [0] G G) (H.keep [5,1,2] rfl) ?_
 · exact ⟨by omega,by omega,rfl⟩
 clear H S a
 intro g1 x1 a w1 hp S H K4 k4
 obtain ⟨k,rfl⟩:∃ y,y=x1:=⟨_,rfl⟩
 refine wp_seq_k fun K5 k5=>?_
 refine sS H fun K6 k6=>sr 2 rfl<|sL aY rfl<|sr 1 rfl<|sE ?_;clear H a;intro a H
 refine k6 _ ?_;clear k6 K6
 refine condL H rfl (fun hc1=>?_) (fun hc1=>?_)
 ·skip
  refine wp_skip ?_
  refine k5 _ _ ?_
  refine wp_seq_k fun K7 k7=>?_
  refine wp_block ?_
  replace H:=H.keep [1,2,5] rfl
  refine sS H fun K8 k8=>sr 2 rfl<|si aY bF G G (hpe.adr (by omega)) (by omega)<|slm aE rfl (hpe.rd S (by omega) (by omega))<|sc rfl Tryz.func32 G G (cJ _ _ _ _)<|sr 1 rfl<|sE ?_;clear H a;intro a H
  refine k8 _ ?_;clear k8 K8
  refine cond_ H rfl (fun hc2=>?_) (fun hc2=>?_)
  ·skip
   try simp only [o1,o2,o3,o4,o5,o6,o7,o8,o9,oa] at hc2
   refine sS H fun K9 k9=>sr 1 rfl<|sE ?_;clear H a;intro a H
   refine k9 _ ?_;clear k9 K9
   refine wp_ret ?_
   refine ret1 (fn:=Tryz.f66) rfl H rfl ?_
   refine ⟨congrArg Value.bool ?_,(S.sel [] G G)⟩;unfold eY;rw [fU (k:=k) (by omega) (by rw [decide_eq_false_iff_not];omega)];rfl
  try simp only [o1,o2,o3,o4,o5,o6,o7,o8,o9,oa] at hc2
  refine wp_skip ?_
  refine k7 _ _ ?_
  replace H:=H.keep [1,2,5] rfl
  refine sO H<|sr 1 rfl<|sd (aK G G (by unfold i64ok;omega))<|sr 1 rfl<|sE ?_;clear H a;intro a H
  exact k4 (g1-1) (k+1) a _ (by omega) (⟨by omega,by omega,cM hp.2.2 (by rw [decide_eq_true_eq];omega)⟩) (S.sel [0] G G) (H.keep [5,1,2] rfl)
 refine wp_exit ?_
 refine k2 _ _ ?_
 refine sS H fun K11 k11=>sr 1 rfl<|sL aY rfl<|sf dX rfl<|sl S 0 aE G G G<|sr 2 rfl<|sE ?_;clear H a;intro a H
 refine k11 _ ?_;clear k11 K11
 refine wp_ret ?_
 refine ret1 (fn:=Tryz.f66) rfl H rfl ?_
 refine ⟨congrArg Value.bool ?_,(S.sel [] G G)⟩;unfold eY;rw [show pe.length=k by omega,hp.2.2,Bool.true_and]
theorem xG (pl:Int) (ps:List Psg) (PA:Option Addr) (pc:Nat) (xs:List Int) (XA:Option Addr) (xc:Nat) (day:List Hq) (HA:Option Addr) (hcp:Nat) (DA:Nat→Option Addr) (dc:Nat→Nat) (w:World) (hps:InS w noF 7 PA ps.length (pcell ps)) (hpn:ps.length≤9223372036854775807) (hxs:InS w noF 1 XA xs.length (icl xs)) (hxn:xs.length≤9223372036854775807) (hday:InS w noF 3 HA day.length (hcl day DA dc)) (hdn:day.length≤9223372036854775807) (hdp:∀ k,k<day.length→InS w noF 1 (DA k) (day.getD k Hq.zero).pe.length (icl (day.getD k Hq.zero).pe)) (hdl:∀ k,k<day.length→(day.getD k Hq.zero).pe.length≤9223372036854775807) :
    Calls Tryz.prog 68 [.agg [.int .i64 pl,.slice PA ps.length pc,.slice XA xs.length xc].toArray,.slice HA day.length hcp].toArray w (Ret (fun v w'=>v = .int .i64 (dayE pl ps xs day)∧St w noF [] w')):=by
 refine enter Tryz.func68 rfl Tryz.ntmps68 rfl (fun a H=>?_)
 have S:=St.start w
 refine seq_list fun K1 k1=>?_
 refine aN H rfl S G G ?_;clear H a S;intro b2 _ a hb2 hbw2 S H
 refine ls 1 H<|sr 1 rfl<|sE ?_;clear H a;intro a H
 refine k1 _ _ ?_;clear k1 K1
 refine seq_list fun K2 k2=>?_
 refine ls 1 H<|sd ((aB dP eM rfl S (i:=0) G G))<|sE ?_;clear H a;intro a H
 refine aA H G G Tryz.func8 G G (lQ pl ps PA pc xs XA xc _ (hps.now S) hpn (hxs.now S) hxn) ?_;clear H a
 rintro _ _ a ⟨rfl,S2⟩ H
 replace S:=S.call S2;clear S2
 refine ls 1 H<|sr 1 rfl<|sE ?_;clear H a;intro a H
 refine k2 _ _ ?_;clear k2 K2
 refine wp_seq_k fun K3 k3=>?_
 refine sS H fun K4 k4=>sr 2 rfl<|sE ?_;clear H a;intro a H
 refine k4 _ ?_;clear k4 K4
 refine condN H rfl (fun hc1=>?_) (fun hc1=>?_)
 ·skip
  refine sS H fun K5 k5=>sr 2 rfl<|sE ?_;clear H a;intro a H
  refine k5 _ ?_;clear k5 K5
  refine wp_ret ?_
  refine ret1 (fn:=Tryz.f68) rfl H rfl ?_
  refine ⟨congrArg (Value.int .i64) ?_,(S.sel [] G G)⟩;unfold dayE;rw [if_pos hc1]
 have hst:stE pl ps xs=0:=by omega
 refine wp_skip ?_
 refine k3 _ _ ?_
 refine wp_seq_k fun K6 k6=>?_
 replace H:=H.keep [1,2] rfl
 refine sS H fun K7 k7=>sr 1 rfl<|sL jK rfl<|sr 1 rfl<|sE ?_;clear H a;intro a H
 refine k7 _ ?_;clear k7 K7
 refine condL H rfl (fun hc2=>?_) (fun hc2=>?_)
 ·skip
  refine sS H fun K8 k8=>sr 1 rfl<|sE ?_;clear H a;intro a H
  refine k8 _ ?_;clear k8 K8
  refine wp_ret ?_
  refine ret1 (fn:=Tryz.f68) rfl H rfl ?_
  refine ⟨congrArg (Value.int .i64) ?_,(S.sel [] G G)⟩;unfold dayE;rw [if_neg (by omega),if_neg];unfold dayOk;rw [decide_eq_false (p:=day.length≤48) (by omega),Bool.and_false];simp
 refine wp_skip ?_
 refine k6 _ _ ?_
 refine wp_seq_k fun K9 k9=>?_
 refine sS H fun K10 k10=>sr 1 rfl<|sE ?_;clear H a;intro a H
 refine k10 _ ?_;clear k10 K10
 refine wp_block ?_
 refine loop_st (X:=Nat) (R0:=_) [1,2] H rfl (fun k=>[(6,.int .i64 (k:Int))]) (fun k=>[]) (fun g k=>k≤day.length∧g+k=day.length∧allN (fun k=>hqOk pl (day.getD k Hq.zero)) k=true) (day.length) 0 ?_ (S.sel [0] G G) (H.keep [6,1,2] rfl) ?_
 · exact ⟨by omega,by omega,rfl⟩
 clear H S a
 intro g1 x1 a w1 hp S H K11 k11
 obtain ⟨k,rfl⟩:∃ y,y=x1:=⟨_,rfl⟩
 refine wp_seq_k fun K12 k12=>?_
 refine sS H fun K13 k13=>sr 2 rfl<|sL jK rfl<|sr 1 rfl<|sE ?_;clear H a;intro a H
 refine k13 _ ?_;clear k13 K13
 refine condL H rfl (fun hc3=>?_) (fun hc3=>?_)
 ·skip
  refine wp_skip ?_
  refine k12 _ _ ?_
  refine wp_seq_k fun K14 k14=>?_
  refine wp_block ?_
  by_cases hB:0≤(day.getD k Hq.zero).out∧(day.getD k Hq.zero).out≤4095
  ·skip
   replace H:=H.keep [1,2,6] rfl
   replace S:=S.drew
   refine seq_wq [(0,true),(1,true),(2,true),(3,true),(4,true),(5,false),(6,true),(7,true),(8,true),(9,true),(10,true),(11,true),(12,true),(13,true),(14,false),(15,true),(16,true)] (by kernel_rfl) (by kernel_rfl) (S.sel [0] G G) fun K15 k15=>?_
   refine qF H<|qr 2 rfl<|qd rfl (fun _ S=>bP jK kJ G G (hday.adr (by omega)) (by omega))<|qd rfl (fun _ S=>(bI oA rfl))<|qd rfl (fun _ S=>aG aE rfl (hday.rd S (by omega) (by omega)))<|qK ?_;clear H a;intro a H
   refine aU rfl ?_
   refine aA H G G Tryz.func65 G G (xF _ _) ?_;clear H a
   rintro _ _ a ⟨rfl,rfl⟩ H
   rw [decide_eq_true hB.1,decide_eq_true hB.2,Bool.and_self] at H
   refine wpList_nil (And.intro (S.sel [0] G G) ?_)
   refine qF H<|qr 2 rfl<|qK ?_;clear H a;intro a H
   refine aF H G G G G (fun _ S=>(aB dP eM rfl S (i:=0) G G)) ?_;clear H a;intro a H
   refine aF H G G G G (fun _ S=>aL rfl) ?_;clear H a;intro a H
   refine aF H G G G G (fun _ S=>aL rfl) ?_;clear H a;intro a H
   refine aF H G G G G (fun _ S=>bP jK kJ G G (hday.adr (by omega)) (by omega)) ?_;clear H a;intro a H
   refine aF H G G G G (fun _ S=>(bI yO rfl)) ?_;clear H a;intro a H
   refine aF H G G G G (fun _ S=>aG bT rfl (hday.rd S (by omega) (by omega))) ?_;clear H a;intro a H
   refine aU rfl ?_
   refine aX H G G ?_
   refine aA H G G Tryz.func66 G G (oP pl ps PA pc xs XA xc (day.getD k Hq.zero).pe (DA k) (dc k) _ ((hdp k (by omega)).now S) (hdl k (by omega))) ?_;clear H a
   rintro _ _ a ⟨rfl,S2⟩ H
   replace S:=S.call S2;clear S2
   refine wpList_nil (And.intro (S.sel [0] G G) ?_)
   refine aF H G G G G (fun _ S=>cP rfl) ?_;clear H a;intro a H
   refine qF H<|qd rfl (fun _ S=>(aW G G G))<|qK ?_;clear H a;intro a H
   refine bM ?_
   refine k15 _ _ ?_
   clear k15 K15
   refine cond_ H rfl (fun hc4=>?_) (fun hc4=>?_)
   ·skip
    try simp only [o1,o2,o3,o4,o5,o6,o7,o8,o9,oa] at hc4
    replace H:=H.keep [] rfl
    refine sS H fun K16 k16=>sr 1 rfl<|sE ?_;clear H a;intro a H
    refine k16 _ ?_;clear k16 K16
    refine wp_ret ?_
    refine ret1 (fn:=Tryz.f68) rfl H rfl ?_
    refine ⟨congrArg (Value.int .i64) ?_,(S.sel [] G G)⟩;unfold dayE;rw [if_neg (by omega),sU (k:=k) (by omega) (by unfold hqOk;rw [hc4.resolve_left (by simp),Bool.and_false])];rfl
   try simp only [o1,o2,o3,o4,o5,o6,o7,o8,o9,oa] at hc4
   refine wp_skip ?_
   refine k14 _ _ ?_
   refine sO H<|sr 1 rfl<|sd (aK G G (by unfold i64ok;omega))<|sr 1 rfl<|sE ?_;clear H a;intro a H
   exact k11 (g1-1) (k+1) a _ (by omega) (⟨by omega,by omega,cM hp.2.2 (by unfold hqOk;rw [decide_eq_true hB,hc4.2];rfl)⟩) (S.sel [0] G G) (H.keep [6,1,2] rfl)
  replace H:=H.keep [1,2,6] rfl
  replace S:=S.drew
  refine seq_wq [(0,true),(1,true),(2,true),(3,true),(4,true),(5,false),(6,true),(7,true),(8,true),(9,true),(10,true),(11,true),(12,true),(13,true),(14,true),(15,true),(16,true)] (by kernel_rfl) (by kernel_rfl) (S.sel [0] G G) fun K18 k18=>?_
  refine qF H<|qr 2 rfl<|qd rfl (fun _ S=>bP jK kJ G G (hday.adr (by omega)) (by omega))<|qd rfl (fun _ S=>(bI oA rfl))<|qd rfl (fun _ S=>aG aE rfl (hday.rd S (by omega) (by omega)))<|qK ?_;clear H a;intro a H
  refine aU rfl ?_
  refine aA H G G Tryz.func65 G G (xF _ _) ?_;clear H a
  rintro _ _ a ⟨rfl,rfl⟩ H
  rw [Bool.and_eq_false_iff.2 (by simp only [decide_eq_false_iff_not];omega)] at H
  refine wpList_nil (And.intro (S.sel [0] G G) ?_)
  refine qF H<|qr 2 rfl<|qK ?_;clear H a;intro a H
  refine aJ H G G G G G ?_;clear H a;intro a H
  refine aJ H G G G G G ?_;clear H a;intro a H
  refine aJ H G G G G G ?_;clear H a;intro a H
  refine aJ H G G G G G ?_;clear H a;intro a H
  refine aJ H G G G G G ?_;clear H a;intro a H
  refine aJ H G G G G G ?_;clear H a;intro a H
  refine aJ H G G G G G ?_;clear H a;intro a H
  refine aJ H G G G G G ?_;clear H a;intro a H
  refine qF H<|qd rfl (fun _ S=>(aS G G G))<|qK ?_;clear H a;intro a H
  refine bM ?_
  refine k18 _ _ ?_
  clear k18 K18
  refine cond_ H rfl (fun hc5=>?_) (fun hc5=>?_)
  ·skip
   skip
   replace H:=H.keep [] rfl
   refine sS H fun K19 k19=>sr 1 rfl<|sE ?_;clear H a;intro a H
   refine k19 _ ?_;clear k19 K19
   refine wp_ret ?_
   refine ret1 (fn:=Tryz.f68) rfl H rfl ?_
   refine ⟨congrArg (Value.int .i64) ?_,(S.sel [] G G)⟩;unfold dayE;rw [if_neg (by omega),sU (k:=k) (by omega) (by unfold hqOk;rw [decide_eq_false hB];rfl)];rfl
  skip
  cases hc5
 refine wp_exit ?_
 refine k9 _ _ ?_
 refine sS H fun K20 k20=>sr 1 rfl<|sE ?_;clear H a;intro a H
 refine k20 _ ?_;clear k20 K20
 refine wp_ret ?_
 refine ret1 (fn:=Tryz.f68) rfl H rfl ?_
 obtain rfl:k=day.length:=by omega
 exact ⟨congrArg (Value.int .i64) (uY hst (by rw [zC hp.2.2];exact decide_eq_true (by omega))).symm,(S.sel [] G G)⟩
theorem oQ (pl:Int) (ps:List Psg) (PA:Option Addr) (pc:Nat) (xs:List Int) (XA:Option Addr) (xc:Nat) (day:List Hq) (HA:Option Addr) (hcp:Nat) (DA:Nat→Option Addr) (dc:Nat→Nat) (l:List Prm) (LA:Option Addr) (lc:Nat) (w:World) (hps:InS w noF 7 PA ps.length (pcell ps)) (hpn:ps.length≤9223372036854775807) (hxs:InS w noF 1 XA xs.length (icl xs)) (hxn:xs.length≤9223372036854775807) (hday:InS w noF 3 HA day.length (hcl day DA dc)) (hdn:day.length≤9223372036854775807) (hdp:∀ k,k<day.length→InS w noF 1 (DA k) (day.getD k Hq.zero).pe.length (icl (day.getD k Hq.zero).pe)) (hdl:∀ k,k<day.length→(day.getD k Hq.zero).pe.length≤9223372036854775807) (hl:InS w noF 5 LA l.length (gL l)) (hln:l.length≤9223372036854775807) :
    Calls Tryz.prog 27 [.agg [.int .i64 pl,.slice PA ps.length pc,.slice XA xs.length xc].toArray,.slice HA day.length hcp,.slice LA l.length lc].toArray w (Ret (fun v w'=>v = .int .i64 (keptE pl ps xs day l)∧St w noF [] w')):=by
 refine enter Tryz.func27 rfl Tryz.ntmps27 rfl (fun a H=>?_)
 have S:=St.start w
 refine seq_list fun K1 k1=>?_
 refine aN H rfl S G G ?_;clear H a S;intro b3 _ a hb3 hbw3 S H
 refine ls 1 H<|sr 1 rfl<|sE ?_;clear H a;intro a H
 refine k1 _ _ ?_;clear k1 K1
 refine seq_list fun K2 k2=>?_
 refine ls 2 H<|sd ((aB dP eM rfl S (i:=0) G G))<|sr 1 rfl<|sE ?_;clear H a;intro a H
 refine aA H G G Tryz.func68 G G (xG pl ps PA pc xs XA xc day HA hcp DA dc _ (hps.now S) hpn (hxs.now S) hxn (hday.now S) hdn (fun k hk=>(hdp k hk).now S) hdl) ?_;clear H a
 rintro _ _ a ⟨rfl,S2⟩ H
 replace S:=S.call S2;clear S2
 refine ls 1 H<|sr 1 rfl<|sE ?_;clear H a;intro a H
 refine k2 _ _ ?_;clear k2 K2
 refine wp_seq_k fun K3 k3=>?_
 refine sS H fun K4 k4=>sr 2 rfl<|sE ?_;clear H a;intro a H
 refine k4 _ ?_;clear k4 K4
 refine condN H rfl (fun hc1=>?_) (fun hc1=>?_)
 ·skip
  replace H:=H.keep [7] rfl
  refine sS H fun K5 k5=>sr 2 rfl<|sE ?_;clear H a;intro a H
  refine k5 _ ?_;clear k5 K5
  refine wp_ret ?_
  refine ret1 (fn:=Tryz.f27) rfl H rfl ?_
  refine ⟨congrArg (Value.int .i64) ?_,(S.sel [] G G)⟩;unfold keptE;rw [if_pos hc1]
 have hdE:dayE pl ps xs day=0:=by omega
 have hV:=oC (wS hdE).1
 have hP10:=hV.size
 refine wp_skip ?_
 refine k3 _ _ ?_
 refine wp_seq_k fun K6 k6=>?_
 refine sS H fun K7 k7=>sr 1 rfl<|sL lG rfl<|sr 1 rfl<|sE ?_;clear H a;intro a H
 refine k7 _ ?_;clear k7 K7
 refine condL H rfl (fun hc2=>?_) (fun hc2=>?_)
 ·skip
  refine sS H fun K8 k8=>sr 1 rfl<|sE ?_;clear H a;intro a H
  refine k8 _ ?_;clear k8 K8
  refine wp_ret ?_
  refine ret1 (fn:=Tryz.f27) rfl H rfl ?_
  exact ⟨congrArg (Value.int .i64) (mF hdE (zY (by omega))).symm,(S.sel [] G G)⟩
 refine wp_skip ?_
 refine k6 _ _ ?_
 refine wp_seq_k fun K9 k9=>?_
 refine sS H fun K10 k10=>sr 1 rfl<|sE ?_;clear H a;intro a H
 refine k10 _ ?_;clear k10 K10
 refine wp_block ?_
 refine loop_st (X:=Nat) (R0:=_) [2,3] H rfl (fun k=>[(8,.int .i64 (k:Int))]) (fun k=>[]) (fun g k=>k≤l.length∧g+k=l.length∧allN (fun k=>prmOk pl (l.getD k Prm.zero)) k=true) (l.length) 0 ?_ (S.sel [0] G G) (H.keep [8,2,3] rfl) ?_
 · exact ⟨by omega,by omega,rfl⟩
 clear H S a
 intro g1 x1 a w1 hp S H K11 k11
 obtain ⟨k,rfl⟩:∃ y,y=x1:=⟨_,rfl⟩
 refine wp_seq_k fun K12 k12=>?_
 refine sS H fun K13 k13=>sr 2 rfl<|sL lG rfl<|sr 1 rfl<|sE ?_;clear H a;intro a H
 refine k13 _ ?_;clear k13 K13
 refine condL H rfl (fun hc3=>?_) (fun hc3=>?_)
 ·skip
  refine wp_skip ?_
  refine k12 _ _ ?_
  refine wp_seq_k fun K14 k14=>?_
  refine wp_block ?_
  replace H:=H.keep [2,3,8] rfl
  refine seq_list fun K15 k15=>?_
  refine ls 4 H<|sr 2 rfl<|si lG lC G G (hl.adr (by omega)) (by omega)<|sd ((aT Bb lC rfl S hl (by omega) (by omega)))<|sE ?_;clear H a;intro a H
  refine aI H rfl S Du ?_;clear H a S;intro b9 _ a hb9 hbw9 S H
  refine aC H S (i:=0) G G G G lC G G ?_
  clear H a S;intro _ a S H
  refine k15 _ _ ?_;clear k15 K15
  replace H:=H.keep [2,3,8,9] rfl
  refine sS H fun K16 k16=>sf wF rfl<|sl S 0 aE G G G<|sf dX rfl<|sl S 1 aE G G G<|sd (aR G G (by unfold i64ok;omega))<|sc rfl Tryz.func32 G G (cJ _ _ _ _)<|sr 2 rfl<|sg 7 7 36 43 false G G (fun hg8=>by
      have hq8:=hg8;try simp only [o1,o2,o3,o4,o5,o6,o7,o8,o9,oa] at hq8
      exact sy hg8<|sf wG rfl<|sy hg8<|sl S 0 aE G G G<|sy hg8<|sf dX rfl<|sy hg8<|sl S 1 aE G G G<|sy hg8<|sd (aR G G (by unfold i64ok;omega))<|sy hg8<|sc rfl Tryz.func32 G G (cJ _ _ _ _)<|sy hg8<|sr 1 rfl<|sz 7 G G G)<|so G G G<|sr 1 rfl<|sg 6 16 45 51 false G G (fun hg17=>by
      have hq17:=hg17;try simp only [o1,o2,o3,o4,o5,o6,o7,o8,o9,oa] at hq17
      exact sy hg17<|sf qR rfl<|sy hg17<|sl S 0 aE G G G<|sy hg17<|sf nY rfl<|sy hg17<|sl S 0 aE G G G<|sy hg17<|sc rfl Tryz.func32 G G (cJ _ _ _ _)<|sy hg17<|sr 1 rfl<|sz 6 G G G)<|so G G G<|sr 1 rfl<|sg 3 24 53 56 false G G (fun hg25=>by
      have hq25:=hg25;try simp only [o1,o2,o3,o4,o5,o6,o7,o8,o9,oa] at hq25
      exact sy hg25<|sf nY rfl<|sy hg25<|sl S 0 aE G G G<|sy hg25<|sr 1 rfl<|sz 3 G G G)<|so G G G<|sE ?_;clear H a;intro a H
  refine k16 _ ?_;clear k16 K16
  refine cond_ H rfl (fun hc4=>?_) (fun hc4=>?_)
  ·skip
   try simp only [o1,o2,o3,o4,o5,o6,o7,o8,o9,oa] at hc4
   replace H:=H.keep [] rfl
   refine sS H fun K17 k17=>sr 1 rfl<|sE ?_;clear H a;intro a H
   refine k17 _ ?_;clear k17 K17
   refine wp_ret ?_
   refine ret1 (fn:=Tryz.f27) rfl H rfl ?_
   exact ⟨congrArg (Value.int .i64) (mF hdE (Em (k:=k) (by omega) (Mc (by omega)))).symm,(S.sel [] G G)⟩
  try simp only [o1,o2,o3,o4,o5,o6,o7,o8,o9,oa] at hc4
  refine wp_skip ?_
  refine k14 _ _ ?_
  refine sO H<|sr 1 rfl<|sd (aK G G (by unfold i64ok;omega))<|sr 1 rfl<|sE ?_;clear H a;intro a H
  exact k11 (g1-1) (k+1) a _ (by omega) (⟨by omega,by omega,cM hp.2.2 (pJ.2 (by omega))⟩) (S.sel [1] G G) (H.keep [8,2,3] rfl)
 refine wp_exit ?_
 refine k9 _ _ ?_
 refine sS H fun K19 k19=>sr 1 rfl<|sE ?_;clear H a;intro a H
 refine k19 _ ?_;clear k19 K19
 refine wp_ret ?_
 refine ret1 (fn:=Tryz.f27) rfl H rfl ?_
 obtain rfl:k=l.length:=by omega
 exact ⟨congrArg (Value.int .i64) (tK hdE (En hp.2.2 (by omega))).symm,(S.sel [] G G)⟩
end
section
theorem Rb {l:List Int} (h:∀ k,k<l.length→0≤l.getD k 0∧l.getD k 0≤1000):∀ k,k≤l.length→0≤sumI l k∧sumI l k≤1000*k:=by
  intro k
  induction k with
  | zero=>intro _;simp [sumI,sm]
  | succ k ih=>
    intro hk
    have h1:=ih (by omega)
    have h2:=h k (by omega)
    unfold sumI at *
    rw [sm]
    push_cast
    omega
end
section
theorem lR (pl:Int) (ps:List Psg) (PA:Option Addr) (pc:Nat) (xs:List Int) (XA:Option Addr) (xc:Nat) (out:Int) (pe:List Int) (BA:Option Addr) (bc:Nat) (T:Int) (w:World) (hps:InS w noF 7 PA ps.length (pcell ps)) (hpn:ps.length≤9223372036854775807) (hxs:InS w noF 1 XA xs.length (icl xs)) (hxn:xs.length≤9223372036854775807) (hpe:InS w noF 1 BA pe.length (icl pe)) (hpen:pe.length≤9223372036854775807) :
    Calls Tryz.prog 25 [.agg [.int .i64 pl,.slice PA ps.length pc,.slice XA xs.length xc].toArray,.int .i64 out,.slice BA pe.length bc,.int .i64 T].toArray w (Ret (fun v w'=>v = .int .i64 (iJ pl ps xs out pe T)∧St w noF [] w')):=by
 refine enter Tryz.func25 rfl Tryz.ntmps25 rfl (fun a H=>?_)
 have S:=St.start w
 refine seq_list fun K1 k1=>?_
 refine aN H rfl S G G ?_;clear H a S;intro b4 _ a hb4 hbw4 S H
 refine ls 1 H<|sr 1 rfl<|sE ?_;clear H a;intro a H
 refine k1 _ _ ?_;clear k1 K1
 refine seq_list fun K2 k2=>?_
 refine ls 1 H<|sd ((aB dP eM rfl S (i:=0) G G))<|sE ?_;clear H a;intro a H
 refine aA H G G Tryz.func8 G G (lQ pl ps PA pc xs XA xc _ (hps.now S) hpn (hxs.now S) hxn) ?_;clear H a
 rintro _ _ a ⟨rfl,S2⟩ H
 replace S:=S.call S2;clear S2
 refine ls 1 H<|sr 1 rfl<|sE ?_;clear H a;intro a H
 refine k2 _ _ ?_;clear k2 K2
 refine wp_seq_k fun K3 k3=>?_
 refine sS H fun K4 k4=>sr 2 rfl<|sE ?_;clear H a;intro a H
 refine k4 _ ?_;clear k4 K4
 refine condN H rfl (fun hc1=>?_) (fun hc1=>?_)
 ·skip
  refine sS H fun K5 k5=>sr 2 rfl<|sE ?_;clear H a;intro a H
  refine k5 _ ?_;clear k5 K5
  refine wp_ret ?_
  refine ret1 (fn:=Tryz.f25) rfl H rfl ?_
  refine ⟨?_,(S.sel [] G G)⟩;unfold iJ;rw [if_pos hc1]
 refine wp_skip ?_
 refine k3 _ _ ?_
 refine wp_seq_k fun K6 k6=>?_
 replace H:=H.keep [1,2,3,4] rfl
 refine seq_list fun K7 k7=>?_
 refine ls 1 H<|sr 1 rfl<|sE ?_;clear H a;intro a H
 refine aA H G G Tryz.func65 G G (xF _ _) ?_;clear H a
 rintro _ _ a ⟨rfl,rfl⟩ H
 refine ls 2 H<|sr 2 rfl<|sE ?_;clear H a;intro a H
 apply bN (i:=3) (g:=18) (t:=22) (b:=false) 4 H S G G (by kernel_rfl) (by kernel_rfl) G G
 case h1=>
  intro hg4
  have hq4:=hg4;try simp only [o1,o2,o3,o4,o5,o6,o7,o8,o9,oa] at hq4
  refine ls 2 H<|sy hg4<|sd ((aB dP eM rfl S (i:=0) G G))<|sy hg4<|sr 1 rfl<|sE ?_;intro a H
  refine bY H G G (by assumption) ?_
  refine aA H G G Tryz.func66 G G (oP pl ps PA pc xs XA xc pe BA bc _ (hpe.now S) hpen) ?_
  rintro _ _ a ⟨rfl,S2⟩ H
  replace S:=S.call S2;clear S2
  refine ls 1 H<|sy hg4<|sr 1 rfl<|sE ?_;intro a H
  exact wpList_nil ⟨H.strip 4 G G,(S.sel [0] G G)⟩
 clear H a S;intro a _ H S
 refine ls 6 H<|so G G G<|sr 1 rfl<|sg 3 9 24 27 false G G (fun hg10=>by
     have hq10:=hg10;try simp only [o1,o2,o3,o4,o5,o6,o7,o8,o9,oa] at hq10
     exact sy hg10<|sr 1 rfl<|sy hg10<|sc rfl Tryz.func32 G G (cJ _ _ _ _)<|sy hg10<|sr 1 rfl<|sz 3 G G G)<|so G G G<|sE ?_;clear H a;intro a H
 refine k7 _ _ ?_;clear k7 K7
 refine cond_ H rfl (fun hc2=>?_) (fun hc2=>?_)
 ·skip
  try simp only [o1,o2,o3,o4,o5,o6,o7,o8,o9,oa] at hc2
  replace H:=H.keep [] rfl
  refine sS H fun K8 k8=>sr 1 rfl<|sE ?_;clear H a;intro a H
  refine k8 _ ?_;clear k8 K8
  refine wp_ret ?_
  refine ret1 (fn:=Tryz.f25) rfl H rfl ?_
  refine ⟨?_,(S.sel [] rfl rfl)⟩;unfold iJ;rw [if_neg (by omega),if_neg (by simp only [Bool.and_eq_true,decide_eq_true_eq];rcases hc2 with (h|h)|h <;> first|(intro h9;omega)|(rw [h];simp))]
 try simp only [o1,o2,o3,o4,o5,o6,o7,o8,o9,oa] at hc2
 refine wp_skip ?_
 refine k6 _ _ ?_
 refine sS H fun K9 k9=>sr 1 rfl<|sE ?_;clear H a;intro a H
 refine k9 _ ?_;clear k9 K9
 refine wp_ret ?_
 refine ret1 (fn:=Tryz.f25) rfl H rfl ?_
 refine ⟨?_,(S.sel [] G G)⟩;unfold iJ;rw [if_neg (by omega),if_pos (by simp only [Bool.and_eq_true,decide_eq_true_eq];exact ⟨⟨by omega,hc2.1.2⟩,by omega⟩)]
end
section
open Classical in
noncomputable def yrB (y:Yr):Bool:=if yrI y then true else false
theorem Mk {y:Yr} (h:yrI y):yrB y=true:=by unfold yrB;rw [if_pos h]
theorem Ml {y:Yr} (h:¬ yrI y):yrB y=false:=by unfold yrB;rw [if_neg h]
theorem Rc {y:Yr}:yrB y=true↔yrI y:=⟨fun h=>Classical.byContradiction (fun h2=>by rw [Ml h2] at h;cases h),Mk⟩
theorem Re {pl:Int} {ps:List Psg} {xs pe:List Int} {T:Int} (h:stE pl ps xs=0):iJ pl ps xs 0 pe T=0↔((pe.length:Int)=pl∧∀ k,k<pe.length→0≤pe.getD k 0∧pe.getD k 0≤1000)∧(0≤T∧T≤60):=by
  constructor
  · intro h1
    obtain ⟨_,_,h2,h3⟩:=uO h1
    have h4:=zA h2
    exact ⟨⟨h4.2,h4.1⟩,h3⟩
  · rintro ⟨⟨h1,h2⟩,h3⟩
    unfold iJ
    rw [if_neg (by omega),if_pos]
    have h4:eY pl pe=true:=by unfold eY;rw [decide_eq_true h1,Bool.and_true,bZ];exact fun k hk=>decide_eq_true (h2 k hk)
    rw [h4,decide_eq_true h3]
    rfl
theorem Mm {ps:List Psg} {us:List Unt} {n i:Nat} {m:Int}:freeN ps us n (i+1) m=(freeN ps us n i m&&!decide ((us.getD i Unt.zero).mach=m)):=by
  unfold freeN
  simp only [allN,Bool.and_assoc]
theorem Hp {p:Part} {l:List Use} (h:cF p l=0):wearE p l=0↔(refO p l).2.1=false:=by
  unfold refO
  rw [if_neg (by omega)]
  constructor
  · intro h1
    rw [if_neg (by rw [wX (kP h1).2];omega)]
  · intro h1
    split at h1
    · cases h1
    · exact sX h (Pe.2 (by have:=(wW p l).le;omega))
theorem Hs {l:List Use} {o:Int} (h0:0≤o) (h:¬ (0<l.length∧o<(l.getD ((l.length:Int)-1).toNat Use.zero).day)):prevD l l.length≤o:=by
  rcases Nat.eq_zero_or_pos l.length with e|e
  · rw [e];exact h0
  · have h1:=nE (l:=l) (k:=((l.length:Int)-1).toNat) (by omega)
    omega
theorem Ht {l:List Use} {o:Int} (e:0<l.length) (h:o<(l.getD ((l.length:Int)-1).toNat Use.zero).day):o<prevD l l.length:=by
  have h1:=nE (l:=l) (k:=((l.length:Int)-1).toNat) (by omega)
  omega
theorem cV (n lo hi:Int) (w:World) :
    Calls Tryz.prog 48 [.int .i64 n,.int .i64 lo,.int .i64 hi].toArray w (Ret (fun v w'=>v = .bool (decide (lo≤n)&&decide (n≤hi))∧w'=w)):=by
 refine enter Tryz.func48 rfl Tryz.ntmps48 rfl (fun a H=>?_)
 have S:=St.start w
 refine sS H fun K1 k1=>sr 1 rfl<|sE ?_;clear H a;intro a H
 refine k1 _ ?_;clear k1 K1
 replace H:=H.keep [0,1,2] rfl
 refine sS H fun K2 k2=>sr 4 rfl<|sg 3 3 10 13 true G G (fun hg4=>sy hg4<|sr 1 rfl<|sy hg4<|sr 1 rfl<|sy hg4<|sr 1 rfl<|sz 3 G G G)<|sa G G G<|sr 1 rfl<|sE ?_;clear H a;intro a H
 refine k2 _ ?_;clear k2 K2
 refine wp_ret ?_
 refine ret1 (fn:=Tryz.f48) rfl H rfl ?_
 exact ⟨rfl,rfl⟩
theorem Hu (a b:Tsk) (w:World) :
    Calls Tryz.prog 49 [.agg [.int .i64 a.day,.int .i64 a.unit,.int .i64 a.kind].toArray,.agg [.int .i64 b.day,.int .i64 b.unit,.int .i64 b.kind].toArray].toArray w (Ret (fun v w'=>v = .bool (befB a b)∧St w noF [] w')):=by
 refine enter Tryz.func49 rfl Tryz.ntmps49 rfl (fun a H=>?_)
 have S:=St.start w
 refine seq_list fun K1 k1=>?_
 refine aN H rfl S G G ?_;clear H a S;intro b2 _ a hb2 hbw2 S H
 refine aN H rfl S G G ?_;clear H a S;intro b3 _ a hb3 hbw3 S H
 refine ls 1 H<|sr 1 rfl<|sE ?_;clear H a;intro a H
 refine k1 _ _ ?_;clear k1 K1
 refine wp_seq_k fun K2 k2=>?_
 refine sS H fun K3 k3=>sf dF rfl<|sl S 1 aE G G G<|sf dF rfl<|sl S 0 aE G G G<|sr 1 rfl<|sE ?_;clear H a;intro a H
 refine k3 _ ?_;clear k3 K3
 refine condN H rfl (fun hc1=>?_) (fun hc1=>?_)
 ·skip
  replace H:=H.keep [2,3] rfl
  refine sS H fun K4 k4=>sf dF rfl<|sl S 1 aE G G G<|sf dF rfl<|sl S 0 aE G G G<|sr 2 rfl<|sE ?_;clear H a;intro a H
  refine k4 _ ?_;clear k4 K4
  refine wp_ret ?_
  refine ret1 (fn:=Tryz.f49) rfl H rfl ?_
  refine ⟨?_,(S.sel [] G G)⟩;unfold befB;rw [if_pos hc1]
 refine wp_skip ?_
 refine k2 _ _ ?_
 refine wp_seq_k fun K5 k5=>?_
 replace H:=H.keep [2,3] rfl
 refine sS H fun K6 k6=>sf dN rfl<|sl S 1 aE G G G<|sf dN rfl<|sl S 0 aE G G G<|sr 1 rfl<|sE ?_;clear H a;intro a H
 refine k6 _ ?_;clear k6 K6
 refine condN H rfl (fun hc2=>?_) (fun hc2=>?_)
 ·skip
  replace H:=H.keep [2,3] rfl
  refine sS H fun K7 k7=>sf dN rfl<|sl S 1 aE G G G<|sf dN rfl<|sl S 0 aE G G G<|sr 2 rfl<|sE ?_;clear H a;intro a H
  refine k7 _ ?_;clear k7 K7
  refine wp_ret ?_
  refine ret1 (fn:=Tryz.f49) rfl H rfl ?_
  refine ⟨?_,(S.sel [] G G)⟩;unfold befB;rw [if_neg (fun h=>h (by omega)),if_pos hc2]
 refine wp_skip ?_
 refine k5 _ _ ?_
 replace H:=H.keep [2,3] rfl
 refine sS H fun K8 k8=>sf fN rfl<|sl S 1 aE G G G<|sf fN rfl<|sl S 0 aE G G G<|sr 2 rfl<|sE ?_;clear H a;intro a H
 refine k8 _ ?_;clear k8 K8
 refine wp_ret ?_
 refine ret1 (fn:=Tryz.f49) rfl H rfl ?_
 refine ⟨?_,(S.sel [] G G)⟩;unfold befB;rw [if_neg (fun h=>h (by omega)),if_neg (fun h=>h (by omega))]
theorem Hv (y:Yr) (w:World) (hy:YIn w noF y) (hyb:YBd y) (hst:stE y.pl y.ps y.xs=0) :
    Calls Tryz.prog 86 [.agg [.int .i64 y.days,.int .i64 y.pl,.slice y.PA y.ps.length y.pc,.slice y.XA y.xs.length y.xc,.slice y.BA y.pe.length y.bc,.int .i64 y.limit,.bool y.help,.slice y.QA y.prs.length y.qc,.slice y.VA y.us.length y.vc,.int .i64 y.crew,.slice y.SA y.sps.length y.sc].toArray].toArray w (Ret (fun v w'=>v = .bool (yrB y)∧St w noF [] w')):=by
 have hlv:=Re (pe:=y.pe) (T:=y.limit) hst;have hn4:=hyb.spn
 refine enter Tryz.func86 rfl Tryz.ntmps86 rfl (fun a H=>?_)
 have S:=St.start w
 refine seq_list fun K1 k1=>?_
 refine aN H rfl S G G ?_;clear H a S;intro b1 _ a hb1 hbw1 S H
 refine ls 1 H<|sr 1 rfl<|sE ?_;clear H a;intro a H
 refine k1 _ _ ?_;clear k1 K1
 refine wp_seq_k fun K2 k2=>?_
 replace H:=H.keep [1] rfl
 refine seq_list fun K3 k3=>?_
 refine ls 2 H<|sf dD rfl<|sl S 0 aE G G G<|sE ?_;clear H a;intro a H
 refine aA H G G Tryz.func48 G G (cV _ _ _ _) ?_;clear H a
 rintro _ _ a ⟨rfl,rfl⟩ H
 refine ls 2 H<|sr 2 rfl<|sE ?_;clear H a;intro a H
 apply bN (i:=4) (g:=9) (t:=17) (b:=false) 8 H S G G (by kernel_rfl) (by kernel_rfl) G G
 case h1=>
  intro hg5
  refine ls 6 H<|sy hg5<|sf eX rfl<|sy hg5<|sd ((aB dP eM rfl S (i:=0) G G))<|sy hg5<|sf jF rfl<|sy hg5<|sl S 0 bT G G G<|sy hg5<|sf nS rfl<|sy hg5<|sl S 0 aE G G G<|sE ?_;intro a H
  refine bY H G G (by assumption) ?_
  refine aA H G G Tryz.func25 G G (lR y.pl y.ps y.PA y.pc y.xs y.XA y.xc 0 y.pe y.BA y.bc y.limit _ (hy.ps.now S) hyb.psn (hy.xs.now S) hyb.xsn (hy.pe.now S) hyb.pen) ?_
  rintro _ _ a ⟨rfl,S2⟩ H
  replace S:=S.call S2;clear S2
  refine ls 1 H<|sy hg5<|sr 1 rfl<|sE ?_;intro a H
  exact wpList_nil ⟨H.strip 8 G G,(S.sel [0] G G)⟩
 clear H a S;intro a _ H S
 refine ls 13 H<|so G G G<|sr 1 rfl<|sg 4 14 19 23 false G G (fun hg15=>sy hg15<|sf Dp rfl<|sy hg15<|sl S 0 aE G G G<|sy hg15<|sc rfl Tryz.func48 G G (cV _ _ _ _)<|sy hg15<|sr 1 rfl<|sz 4 G G G)<|so G G G<|sr 1 rfl<|sg 4 20 25 29 false G G (fun hg21=>sy hg21<|sf jG rfl<|sy hg21<|sl S 0 mU G G G<|sy hg21<|sL nR rfl<|sy hg21<|sr 1 rfl<|sz 4 G G G)<|so G G G<|sE ?_;clear H a;intro a H
 refine k3 _ _ ?_;clear k3 K3
 refine cond_ H rfl (fun hc1=>?_) (fun hc1=>?_)
 ·skip
  try simp only [o1,o2,o3,o4,o5,o6,o7,o8,o9,oa] at hc1
  replace H:=H.keep [] rfl
  refine sS H fun K4 k4=>sr 1 rfl<|sE ?_;clear H a;intro a H
  refine k4 _ ?_;clear k4 K4
  refine wp_ret ?_
  refine ret1 (fn:=Tryz.f86) rfl H rfl ?_
  rw [Ml (fun h=>by unfold yrI at h;have h9:=hlv.2 ⟨h.2.1,h.2.2.1⟩;omega)];exact ⟨rfl,(S.sel [] G G)⟩
 try simp only [o1,o2,o3,o4,o5,o6,o7,o8,o9,oa] at hc1
 refine wp_skip ?_
 refine k2 _ _ ?_
 refine wp_seq_k fun K5 k5=>?_
 refine sS H fun K6 k6=>sr 1 rfl<|sE ?_;clear H a;intro a H
 refine k6 _ ?_;clear k6 K6
 refine wp_block ?_
 refine loop_st (X:=Nat) (R0:=_) [1] H rfl (fun k=>[(3,.int .i64 (k:Int))]) (fun k=>[]) (fun g k=>k≤y.sps.length∧g+k=y.sps.length∧∀ q,q<k→sprB y.days (y.sps.getD q Spr.zero)=true) (y.sps.length) 0 ?_ (S.sel [0] G G) (H.keep [3,1] rfl) ?_
 · exact ⟨by omega,by omega,fun q hq=>absurd hq (Nat.not_lt_zero q)⟩
 clear H S a
 intro g1 x1 a w1 hp S H K7 k7
 obtain ⟨k,rfl⟩:∃ y,y=x1:=⟨_,rfl⟩
 refine wp_seq_k fun K8 k8=>?_
 refine sS H fun K9 k9=>sr 1 rfl<|sf jG rfl<|sl S 0 mU G G G<|sL nR rfl<|sr 1 rfl<|sE ?_;clear H a;intro a H
 refine k9 _ ?_;clear k9 K9
 refine condL H rfl (fun hc2=>?_) (fun hc2=>?_)
 ·skip
  refine wp_skip ?_
  refine k8 _ _ ?_
  refine wp_seq_k fun K10 k10=>?_
  refine wp_block ?_
  replace H:=H.keep [1,3] rfl
  refine seq_list fun K11 k11=>?_
  refine ls 5 H<|sf jG rfl<|sl S 0 mU G G G<|sr 1 rfl<|si nR lF G G (hy.sps.adr (by omega)) (by omega)<|sd ((aT Dn lF rfl S hy.sps (by omega) (by omega)))<|sE ?_;clear H a;intro a H
  refine aI H rfl S Bi ?_;clear H a S;intro b4 _ a hb4 hbw4 S H
  refine aC H S (i:=0) G G G G lF G G ?_
  clear H a S;intro _ a S H
  refine k11 _ _ ?_;clear k11 K11
  replace H:=H.keep [1,3,4] rfl
  refine sS H fun K12 k12=>sf yS rfl<|sl S 0 aE G G G<|sf dD rfl<|sl S 1 aE G G G<|sd (aR G G (by unfold i64ok;omega))<|sc rfl Tryz.func48 G G (cV _ _ _ _)<|sr 2 rfl<|sg 4 7 50 54 false G G (fun hg8=>sy hg8<|sf yT rfl<|sy hg8<|sl S 0 aE G G G<|sy hg8<|sc rfl Tryz.func48 G G (cV _ _ _ _)<|sy hg8<|sr 1 rfl<|sz 4 G G G)<|so G G G<|sr 1 rfl<|sg 4 13 56 60 false G G (fun hg14=>sy hg14<|sf yU rfl<|sy hg14<|sl S 0 aE G G G<|sy hg14<|sc rfl Tryz.func48 G G (cV _ _ _ _)<|sy hg14<|sr 1 rfl<|sz 4 G G G)<|so G G G<|sE ?_;clear H a;intro a H
  refine k12 _ ?_;clear k12 K12
  refine cond_ H rfl (fun hc3=>?_) (fun hc3=>?_)
  ·skip
   try simp only [o1,o2,o3,o4,o5,o6,o7,o8,o9,oa] at hc3
   replace H:=H.keep [] rfl
   refine sS H fun K13 k13=>sr 1 rfl<|sE ?_;clear H a;intro a H
   refine k13 _ ?_;clear k13 K13
   refine wp_ret ?_
   refine ret1 (fn:=Tryz.f86) rfl H rfl ?_
   rw [Ml (fun h=>by have h9:=oM.1 (h.2.2.2.2.2 k (by omega));omega)];exact ⟨rfl,(S.sel [] G G)⟩
  try simp only [o1,o2,o3,o4,o5,o6,o7,o8,o9,oa] at hc3
  refine wp_skip ?_
  refine k10 _ _ ?_
  refine sO H<|sr 1 rfl<|sd (aK G G (by unfold i64ok;omega))<|sr 1 rfl<|sE ?_;clear H a;intro a H
  exact k7 (g1-1) (k+1) a _ (by omega) (⟨by omega,by omega,eU (f:=fun q=>sprB y.days (y.sps.getD q Spr.zero)) hp.2.2 (oM.2 (by omega))⟩) (S.sel [1] G G) (H.keep [3,1] rfl)
 refine wp_exit ?_
 refine k5 _ _ ?_
 refine sS H fun K15 k15=>sr 1 rfl<|sE ?_;clear H a;intro a H
 refine k15 _ ?_;clear k15 K15
 refine wp_ret ?_
 refine ret1 (fn:=Tryz.f86) rfl H rfl ?_
 have h9:=hlv.1 (by omega)
 have h8:=hp.2.2
 rw [Mk (by unfold yrI;exact ⟨by omega,h9.1,h9.2,by omega,by omega,fun q hq=>h8 q (by omega)⟩)];exact ⟨rfl,(S.sel [] G G)⟩
theorem Hw (y:Yr) (i:Nat) (w:World) (hy:YIn w noF y) (hyb:YBd y) (hi:i<y.us.length) :
    Calls Tryz.prog 87 [.agg [.int .i64 y.days,.int .i64 y.pl,.slice y.PA y.ps.length y.pc,.slice y.XA y.xs.length y.xc,.slice y.BA y.pe.length y.bc,.int .i64 y.limit,.bool y.help,.slice y.QA y.prs.length y.qc,.slice y.VA y.us.length y.vc,.int .i64 y.crew,.slice y.SA y.sps.length y.sc].toArray,.int .i64 (i:Int)].toArray w (Ret (fun v w'=>v = .bool (untB y.ps y.us i)∧St w noF [] w')):=by
 have hn1:=hyb.psn;have hn3:=hyb.usn;have hn5:(y.us.getD i Unt.zero).uses.length≤9223372036854775807:=hyb.uln hi;have hn6:(y.us.getD i Unt.zero).rates.length≤9223372036854775807:=hyb.rtn hi
 refine enter Tryz.func87 rfl Tryz.ntmps87 rfl (fun a H=>?_)
 have S:=St.start w
 refine seq_list fun K1 k1=>?_
 refine aN H rfl S G G ?_;clear H a S;intro b2 _ a hb2 hbw2 S H
 refine ls 1 H<|sr 1 rfl<|sE ?_;clear H a;intro a H
 refine k1 _ _ ?_;clear k1 K1
 refine seq_list fun K2 k2=>?_
 refine ls 5 H<|sf cD rfl<|sl S 0 dH G G G<|sr 1 rfl<|si eJ fY G G (hy.us.adr (by omega)) (by omega)<|sd ((aT mV fY rfl S hy.us (by omega) (by omega)))<|sE ?_;clear H a;intro a H
 refine aI H rfl S yX ?_;clear H a S;intro b5 _ a hb5 hbw5 S H
 refine aC H S (i:=0) G G G G fY G G ?_
 clear H a S;intro _ a S H
 refine k2 _ _ ?_;clear k2 K2
 replace H:=H.keep [1,2,5] rfl
 refine sS H fun K3 k3=>sr 1 rfl<|sE ?_;clear H a;intro a H
 refine k3 _ ?_;clear k3 K3
 refine wp_seq_k fun K4 k4=>?_
 refine sS H fun K5 k5=>sr 1 rfl<|sE ?_;clear H a;intro a H
 refine k5 _ ?_;clear k5 K5
 refine wp_block ?_
 refine loop_st (X:=Nat) (R0:=_) [1,2,5] H rfl (fun k=>[(6,.bool (freeN y.ps y.us k 0 (y.us.getD i Unt.zero).mach)),(7,.int .i64 (k:Int))]) (fun k=>[]) (fun g k=>k≤y.ps.length∧g+k=y.ps.length) (y.ps.length) 0 ?_ (S.sel [0,1] G G) (H.keep [6,7,1,2,5] rfl) ?_
 · exact ⟨by omega,by omega⟩
 clear H S a
 intro g1 x1 a w1 hp S H K6 k6
 obtain ⟨k,rfl⟩:∃ y,y=x1:=⟨_,rfl⟩
 refine wp_seq_k fun K7 k7=>?_
 refine sS H fun K8 k8=>sr 1 rfl<|sf eX rfl<|sf fC rfl<|sl S 1 gY G G G<|sL fZ rfl<|sr 1 rfl<|sE ?_;clear H a;intro a H
 refine k8 _ ?_;clear k8 K8
 refine condL H rfl (fun hc1=>?_) (fun hc1=>?_)
 ·skip
  refine wp_skip ?_
  refine k7 _ _ ?_
  refine wp_seq_k fun K9 k9=>?_
  refine wp_block ?_
  replace H:=H.keep [1,2,5,6,7] rfl
  refine seq_list fun K10 k10=>?_
  refine ls 6 H<|sf eX rfl<|sf fC rfl<|sl S 1 gY G G G<|sr 1 rfl<|si fZ dR G G (hy.ps.adr (by omega)) (by omega)<|sd ((aT kG dR rfl S hy.ps (by omega) (by omega)))<|sE ?_;clear H a;intro a H
  refine aI H rfl S lK ?_;clear H a S;intro b8 _ a hb8 hbw8 S H
  refine aC H S (i:=0) G G G G dR G G ?_
  clear H a S;intro _ a S H
  refine k10 _ _ ?_;clear k10 K10
  replace H:=H.keep [1,2,5,6,7,8] rfl
  refine sO H<|sr 2 rfl<|sg 10 1 33 43 false G G (fun hg2=>by
      have hq2:=hg2;try simp only [o1,o2,o3,o4,o5,o6,o7,o8,o9,oa] at hq2
      exact sy hg2<|sf dL rfl<|sy hg2<|sl S 0 aE G G G<|sy hg2<|sr 1 rfl<|sy hg2<|sr 1 rfl<|sg 5 5 37 42 true G G (fun hg6=>by
           have hq6:=hg6;try simp only [o1,o2,o3,o4,o5,o6,o7,o8,o9,oa] at hq6
           exact sy hg6<|sf dL rfl<|sy hg6<|sl S 0 aE G G G<|sy hg6<|sf nV rfl<|sy hg6<|sl S 1 aE G G G<|sy hg6<|sr 1 rfl<|sz 5 G G G)<|sy hg2<|sa G G G<|sz 6 G G G)<|so G G G<|sr 1 rfl<|sE ?_;clear H a;intro a H
  refine k9 _ _ ?_
  replace H:=H.keep [1,2,5,6,7] rfl
  refine sO H<|sr 1 rfl<|sd (aK G G (by unfold i64ok;omega))<|sr 1 rfl<|sE ?_;clear H a;intro a H
  rw [←zK (ps:=y.ps) (us:=y.us)] at H
  exact k6 (g1-1) (k+1) a _ (by omega) (⟨by omega,by omega⟩) (S.sel [1,2] G G) (H.keep [6,7,1,2,5] rfl)
 refine wp_exit ?_
 refine k4 _ _ ?_
 refine wp_seq_k fun K13 k13=>?_
 refine sS H fun K14 k14=>sr 1 rfl<|sE ?_;clear H a;intro a H
 refine k14 _ ?_;clear k14 K14
 refine wp_block ?_
 obtain rfl:k=y.ps.length:=by omega
 refine loop_st (X:=Nat) (R0:=_) [1,2,5] H rfl (fun k=>[(6,.bool (freeN y.ps y.us y.ps.length k (y.us.getD i Unt.zero).mach)),(9,.int .i64 (k:Int))]) (fun k=>[]) (fun g k=>k≤i∧g+k=i) (i) 0 ?_ (S.sel [0,1] G G) (H.keep [6,9,1,2,5] rfl) ?_
 · exact ⟨by omega,by omega⟩
 clear H S a
 intro g2 x2 a w2 hp S H K15 k15
 obtain ⟨k,rfl⟩:∃ y,y=x2:=⟨_,rfl⟩
 refine wp_seq_k fun K16 k16=>?_
 refine sS H fun K17 k17=>sr 3 rfl<|sE ?_;clear H a;intro a H
 refine k17 _ ?_;clear k17 K17
 refine condL H rfl (fun hc2=>?_) (fun hc2=>?_)
 ·skip
  refine wp_skip ?_
  refine k16 _ _ ?_
  refine wp_seq_k fun K18 k18=>?_
  refine wp_block ?_
  replace H:=H.keep [1,2,5,6,9] rfl
  replace S:=S.drew
  refine sP H<|sr 2 rfl<|sg 9 1 51 60 true G G (fun hg2=>by
      have hq2:=hg2;try simp only [o1,o2,o3,o4,o5,o6,o7,o8,o9,oa] at hq2
      exact sy hg2<|sf cD rfl<|sy hg2<|sl S 1 dH G G G<|sy hg2<|sr 1 rfl<|sy hg2<|si eJ fY G G (hy.us.adr (by omega)) (by omega)<|sy hg2<|sp nV rfl<|sy hg2<|slm aE rfl (hy.us.rd S (by omega) (by omega))<|sy hg2<|sf nV rfl<|sy hg2<|sl S 0 aE G G G<|sy hg2<|sr 1 rfl<|sz 9 G G G)<|sa G G G<|sr 1 rfl<|sE ?_;clear H a;intro a H
  refine k18 _ _ ?_
  replace H:=H.keep [1,2,5,6,9] rfl
  refine sO H<|sr 1 rfl<|sd (aK G G (by unfold i64ok;omega))<|sr 1 rfl<|sE ?_;clear H a;intro a H
  rw [←Mm (ps:=y.ps) (us:=y.us)] at H
  exact k15 (g2-1) (k+1) a _ (by omega) (⟨by omega,by omega⟩) (S.sel [0,1] G G) (H.keep [6,9,1,2,5] rfl)
 refine wp_exit ?_
 refine k13 _ _ ?_
 refine wp_seq_k fun K21 k21=>?_
 obtain rfl:i=k:=by omega
 replace H:=H.keep [5,6] rfl
 refine seq_list fun K22 k22=>?_
 refine ls 21 H<|sr 3 rfl<|sg 4 2 64 68 false G G (fun hg3=>by
     have hq3:=hg3;try simp only [o1,o2,o3,o4,o5,o6,o7,o8,o9,oa] at hq3
     exact sy hg3<|sf mB rfl<|sy hg3<|sl S 0 aE G G G<|sy hg3<|sc rfl Tryz.func48 G G (cV _ _ _ _)<|sy hg3<|sr 1 rfl<|sz 4 G G G)<|so G G G<|sr 1 rfl<|sg 4 8 70 74 false G G (fun hg9=>by
     have hq9:=hg9;try simp only [o1,o2,o3,o4,o5,o6,o7,o8,o9,oa] at hq9
     exact sy hg9<|sf qM rfl<|sy hg9<|sl S 0 aE G G G<|sy hg9<|sc rfl Tryz.func48 G G (cV _ _ _ _)<|sy hg9<|sr 1 rfl<|sz 4 G G G)<|so G G G<|sr 1 rfl<|sg 4 14 76 80 false G G (fun hg15=>by
     have hq15:=hg15;try simp only [o1,o2,o3,o4,o5,o6,o7,o8,o9,oa] at hq15
     exact sy hg15<|sf Dq rfl<|sy hg15<|sl S 0 aE G G G<|sy hg15<|sc rfl Tryz.func48 G G (cV _ _ _ _)<|sy hg15<|sr 1 rfl<|sz 4 G G G)<|so G G G<|sr 1 rfl<|sE ?_;clear H a;intro a H
 apply bN (i:=20) (g:=82) (t:=88) (b:=false) 6 H S G G (by kernel_rfl) (by kernel_rfl) G G
 case h1=>
  intro hg21
  have hq21:=hg21;try simp only [o1,o2,o3,o4,o5,o6,o7,o8,o9,oa] at hq21
  refine ls 4 H<|sy hg21<|sf jH rfl<|sy hg21<|sd ((aB dQ eS rfl S (i:=0) G G))<|sy hg21<|sf fD rfl<|sy hg21<|sl S 0 iI G G G<|sE ?_;intro a H
  refine bY H G G (by assumption) ?_
  refine aA H G G Tryz.func126 G G (mP (y.us.getD i Unt.zero).rates (y.us.getD i Unt.zero).worn (y.us.getD i Unt.zero).turns (y.us.getD i Unt.zero).age (y.us.getD i Unt.zero).RA (y.us.getD i Unt.zero).rc (y.us.getD i Unt.zero).uses (y.us.getD i Unt.zero).UA (y.us.getD i Unt.zero).uc _ ((hy.rt i hi).now S) (hyb.rtn hi) ((hy.ul i hi).now S) (hyb.uln hi)) ?_
  rintro _ _ a ⟨rfl,S2⟩ H
  replace S:=S.call S2;clear S2
  refine ls 1 H<|sy hg21<|sr 1 rfl<|sE ?_;intro a H
  exact wpList_nil ⟨H.strip 6 G G,(S.sel [0,1] G G)⟩
 clear H a S;intro a _ H S
 refine ls 7 H<|so G G G<|sr 1 rfl<|sg 4 28 90 94 false G G (fun hg29=>by
     have hq29:=hg29;try simp only [o1,o2,o3,o4,o5,o6,o7,o8,o9,oa] at hq29
     exact sy hg29<|sf fD rfl<|sy hg29<|sl S 0 iI G G G<|sy hg29<|sL cZ rfl<|sy hg29<|sr 1 rfl<|sz 4 G G G)<|so G G G<|sE ?_;clear H a;intro a H
 refine k22 _ _ ?_;clear k22 K22
 refine cond_ H rfl (fun hc3=>?_) (fun hc3=>?_)
 ·skip
  try simp only [o1,o2,o3,o4,o5,o6,o7,o8,o9,oa] at hc3
  replace H:=H.keep [] rfl
  refine sS H fun K23 k23=>sr 1 rfl<|sE ?_;clear H a;intro a H
  refine k23 _ ?_;clear k23 K23
  refine wp_ret ?_
  refine ret1 (fn:=Tryz.f87) rfl H rfl ?_
  rw [zL (fun h=>by have h1:freeN y.ps y.us y.ps.length i (y.us.getD i Unt.zero).mach=true:=h.free;have h2:=h.i;have h3:cF ⟨(y.us.getD i Unt.zero).rates,(y.us.getD i Unt.zero).worn,(y.us.getD i Unt.zero).turns,(y.us.getD i Unt.zero).age⟩ (y.us.getD i Unt.zero).uses=0:=(kP h.wear).1;unfold untI at h2;rw [h1] at hc3;simp only [Bool.true_eq_false,Bool.not_true,Bool.false_eq_true,not_true_eq_false,false_or] at hc3;omega)];exact ⟨rfl,(S.sel [] G G)⟩
 try simp only [o1,o2,o3,o4,o5,o6,o7,o8,o9,oa] at hc3
 have hcp:cF (y.us.getD i Unt.zero).part (y.us.getD i Unt.zero).uses=0:=by show cF ⟨_,_,_,_⟩ _=0;omega
 have hrw:=Hp hcp
 refine wp_skip ?_
 refine k21 _ _ ?_
 replace H:=H.keep [5] rfl
 refine seq_list fun K24 k24=>?_
 refine ls 4 H<|sf jH rfl<|sd ((aB dQ eS rfl S (i:=0) G G))<|sf fD rfl<|sl S 0 iI G G G<|sE ?_;clear H a;intro a H
 refine aA H G G Tryz.func127 G G (zZ (y.us.getD i Unt.zero).rates (y.us.getD i Unt.zero).worn (y.us.getD i Unt.zero).turns (y.us.getD i Unt.zero).age (y.us.getD i Unt.zero).RA (y.us.getD i Unt.zero).rc (y.us.getD i Unt.zero).uses (y.us.getD i Unt.zero).UA (y.us.getD i Unt.zero).uc _ ((hy.rt i hi).now S) (hyb.rtn hi) ((hy.ul i hi).now S) (hyb.uln hi)) ?_;clear H a
 rintro _ _ a ⟨rfl,S2⟩ H
 replace S:=S.call S2;clear S2
 refine ls 7 H<|sr 7 rfl<|sE ?_;clear H a;intro a H
 refine k24 _ _ ?_;clear k24 K24
 refine wp_seq_k fun K25 k25=>?_
 replace H:=H.keep [5,11] rfl
 replace S:=S.drew
 refine sD H fun K26 k26=>sr 2 rfl<|sg 4 1 106 110 false G G (fun hg2=>by
     have hq2:=hg2;try simp only [o1,o2,o3,o4,o5,o6,o7,o8,o9,oa] at hq2
     exact sy hg2<|sf qN rfl<|sy hg2<|sl S 0 aE G G G<|sy hg2<|sc rfl Tryz.func48 G G (cV _ _ _ _)<|sy hg2<|sr 1 rfl<|sz 4 G G G)<|so G G G<|sr 1 rfl<|sg 18 7 112 130 false G G (fun hg8=>by
     have hq8:=hg8;try simp only [o1,o2,o3,o4,o5,o6,o7,o8,o9,oa] at hq8
     exact sy hg8<|sf fD rfl<|sy hg8<|sl S 0 iI G G G<|sy hg8<|sL cZ rfl<|sy hg8<|sr 1 rfl<|sy hg8<|sr 1 rfl<|sg 12 12 117 129 true G G (fun hg13=>by
          have hq13:=hg13;try simp only [o1,o2,o3,o4,o5,o6,o7,o8,o9,oa] at hq13
          exact sy hg13<|sf qN rfl<|sy hg13<|sl S 0 aE G G G<|sy hg13<|sf fD rfl<|sy hg13<|sl S 0 iI G G G<|sy hg13<|sf fD rfl<|sy hg13<|sl S 0 iI G G G<|sy hg13<|sL cZ rfl<|sy hg13<|sd (aR G G (by unfold i64ok;omega))<|sy hg13<|sI cZ cR G G ((hy.ul i hi).adr (by omega)) (by omega) (by omega)<|sy hg13<|sp gK rfl<|sy hg13<|slm aE rfl ((hy.ul i hi).rd S (by omega) (by omega))<|sy hg13<|sr 1 rfl<|sz 12 G G G)<|sy hg8<|sa G G G<|sz 7 G G G)<|so G G G<|sE ?_;clear H a;intro a H
 refine k26 _ ?_;clear k26 K26
 refine cond_ H rfl (fun hc4=>?_) (fun hc4=>?_)
 ·skip
  try simp only [o1,o2,o3,o4,o5,o6,o7,o8,o9,oa] at hc4
  replace H:=H.keep [] rfl
  refine sS H fun K27 k27=>sr 1 rfl<|sE ?_;clear H a;intro a H
  refine k27 _ ?_;clear k27 K27
  refine wp_ret ?_
  refine ret1 (fn:=Tryz.f87) rfl H rfl ?_
  rw [zL (fun h=>by
    have h2:=h.i;have h3:=tR h.wear;unfold untI at h2
    have h5:=hrw.1 h.wear
    rcases hc4 with (h9|h9)|h9
    · have h6:(refO (y.us.getD i Unt.zero).part (y.us.getD i Unt.zero).uses).2.1=true:=h9
      rw [h5] at h6;cases h6
    · omega
    · have h7:=Ht (l:=(y.us.getD i Unt.zero).uses) (by omega) h9.2;omega)];exact ⟨rfl,(S.sel [] G G)⟩
 try simp only [o1,o2,o3,o4,o5,o6,o7,o8,o9,oa] at hc4
 refine wp_skip ?_
 refine k25 _ _ ?_
 replace H:=H.keep [5] rfl
 refine sS H fun K28 k28=>sf qO rfl<|sl S 0 aE G G G<|sc rfl Tryz.func48 G G (cV _ _ _ _)<|sr 1 rfl<|sg 8 3 135 143 true G G (fun hg4=>by
     have hq4:=hg4;try simp only [o1,o2,o3,o4,o5,o6,o7,o8,o9,oa] at hq4
     exact sy hg4<|sf qP rfl<|sy hg4<|sl S 0 aE G G G<|sy hg4<|sf jH rfl<|sy hg4<|sf eO rfl<|sy hg4<|sl S 0 gF G G G<|sy hg4<|sL cL rfl<|sy hg4<|sd (aR G G (by unfold i64ok;omega))<|sy hg4<|sc rfl Tryz.func48 G G (cV _ _ _ _)<|sz 8 G G G)<|sa G G G<|sr 1 rfl<|sE ?_;clear H a;intro a H
 refine k28 _ ?_;clear k28 K28
 refine wp_ret ?_
 refine ret1 (fn:=Tryz.f87) rfl H rfl ?_
 refine ⟨congrArg Value.bool ?_,(S.sel [] G G)⟩
 rw [Bool.eq_iff_iff,lP]
 simp only [Bool.and_eq_true,decide_eq_true_eq]
 constructor
 · intro h9
   refine ⟨?_,?_,hrw.2 ?_⟩
   · show freeN _ _ _ _ _=true;rcases hc3 with ⟨⟨⟨⟨⟨h1,_⟩,_⟩,_⟩,_⟩,_⟩;exact h1
   · have h8:=Hs (l:=(y.us.getD i Unt.zero).uses) (o:=(y.us.getD i Unt.zero).old) (by omega) (by omega)
     unfold untI;omega
   · rcases hc4 with ⟨⟨h1,_⟩,_⟩;exact h1
 · intro h9
   have h2:=h9.i
   unfold untI at h2
   omega
theorem gR (y:Yr) (w:World) (hy:YIn w noF y) (hyb:YBd y) :
    Calls Tryz.prog 47 [.agg [.int .i64 y.days,.int .i64 y.pl,.slice y.PA y.ps.length y.pc,.slice y.XA y.xs.length y.xc,.slice y.BA y.pe.length y.bc,.int .i64 y.limit,.bool y.help,.slice y.QA y.prs.length y.qc,.slice y.VA y.us.length y.vc,.int .i64 y.crew,.slice y.SA y.sps.length y.sc].toArray].toArray w (Ret (fun v w'=>v = .int .i64 (yearE y)∧St w noF [] w')):=by
 have hn3:=hyb.usn
 refine enter Tryz.func47 rfl Tryz.ntmps47 rfl (fun a H=>?_)
 have S:=St.start w
 refine seq_list fun K1 k1=>?_
 refine aN H rfl S G G ?_;clear H a S;intro b1 _ a hb1 hbw1 S H
 refine ls 1 H<|sr 1 rfl<|sE ?_;clear H a;intro a H
 refine k1 _ _ ?_;clear k1 K1
 refine seq_list fun K2 k2=>?_
 refine ls 2 H<|sf eX rfl<|sd ((aB dP eM rfl S (i:=0) G G))<|sE ?_;clear H a;intro a H
 refine aA H G G Tryz.func8 G G (lQ y.pl y.ps y.PA y.pc y.xs y.XA y.xc _ (hy.ps.now S) hyb.psn (hy.xs.now S) hyb.xsn) ?_;clear H a
 rintro _ _ a ⟨rfl,S2⟩ H
 replace S:=S.call S2;clear S2
 refine ls 1 H<|sr 1 rfl<|sE ?_;clear H a;intro a H
 refine k2 _ _ ?_;clear k2 K2
 refine wp_seq_k fun K3 k3=>?_
 refine sS H fun K4 k4=>sr 2 rfl<|sE ?_;clear H a;intro a H
 refine k4 _ ?_;clear k4 K4
 refine condN H rfl (fun hc1=>?_) (fun hc1=>?_)
 ·skip
  replace H:=H.keep [3] rfl
  refine sS H fun K5 k5=>sr 2 rfl<|sE ?_;clear H a;intro a H
  refine k5 _ ?_;clear k5 K5
  refine wp_ret ?_
  refine ret1 (fn:=Tryz.f47) rfl H rfl ?_
  have e9:=tJ (day:=[]) (l:=y.prs) hc1
  rw [nB (by rw [e9];exact hc1),e9];exact ⟨rfl,(S.sel [] G G)⟩
 refine wp_skip ?_
 refine k3 _ _ ?_
 refine seq_list fun K6 k6=>?_
 refine ls 4 H<|sf eX rfl<|sd ((aB dP eM rfl S (i:=0) G G))<|sf nT rfl<|sl S 0 vT G G G<|sE ?_;clear H a;intro a H
 refine aA H G G Tryz.func27 G G (oQ y.pl y.ps y.PA y.pc y.xs y.XA y.xc ([]:List Hq) none 0 (fun _=>none) (fun _=>0) y.prs y.QA y.qc _ (hy.ps.now S) hyb.psn (hy.xs.now S) hyb.xsn InS.nil (by decide) (fun k hk=>absurd hk (Nat.not_lt_zero k)) (fun k hk=>absurd hk (Nat.not_lt_zero k)) (hy.prs.now S) hyb.prn) ?_;clear H a
 rintro _ _ a ⟨rfl,S2⟩ H
 replace S:=S.call S2;clear S2
 refine ls 1 H<|sr 1 rfl<|sE ?_;clear H a;intro a H
 refine k6 _ _ ?_;clear k6 K6
 refine wp_seq_k fun K7 k7=>?_
 replace H:=H.keep [1,3] rfl
 refine sS H fun K8 k8=>sr 2 rfl<|sE ?_;clear H a;intro a H
 refine k8 _ ?_;clear k8 K8
 refine condN H rfl (fun hc2=>?_) (fun hc2=>?_)
 ·skip
  refine sS H fun K9 k9=>sr 2 rfl<|sE ?_;clear H a;intro a H
  refine k9 _ ?_;clear k9 K9
  refine wp_ret ?_
  refine ret1 (fn:=Tryz.f47) rfl H rfl ?_
  exact ⟨congrArg _ (nB hc2).symm,(S.sel [] G G)⟩
 refine wp_skip ?_
 refine k7 _ _ ?_
 refine wp_seq_k fun K10 k10=>?_
 refine seq_list fun K11 k11=>?_
 refine ls 1 H<|sd ((aB eN fG rfl S (i:=0) G G))<|sE ?_;clear H a;intro a H
 refine aA H G G Tryz.func86 G G (Hv y _ (hy.now S) hyb (by omega)) ?_;clear H a
 rintro _ _ a ⟨rfl,S2⟩ H
 replace S:=S.call S2;clear S2
 refine ls 1 H<|sr 1 rfl<|sE ?_;clear H a;intro a H
 refine k11 _ _ ?_;clear k11 K11
 refine cond_ H rfl (fun hc3=>?_) (fun hc3=>?_)
 ·skip
  try simp only [o1,o2,o3,o4,o5,o6,o7,o8,o9,oa] at hc3
  refine sS H fun K12 k12=>sr 1 rfl<|sE ?_;clear H a;intro a H
  refine k12 _ ?_;clear k12 K12
  refine wp_ret ?_
  refine ret1 (fn:=Tryz.f47) rfl H rfl ?_
  rw [oH (by omega) (fun h=>by rw [Mk h] at hc3;simp at hc3)];exact ⟨rfl,(S.sel [] G G)⟩
 try simp only [o1,o2,o3,o4,o5,o6,o7,o8,o9,oa] at hc3
 have hyi:=Rc.1 (by simpa using hc3)
 refine wp_skip ?_
 refine k10 _ _ ?_
 refine wp_seq_k fun K13 k13=>?_
 replace H:=H.keep [1] rfl
 refine sS H fun K14 k14=>sf cD rfl<|sl S 0 dH G G G<|sL eJ rfl<|sr 1 rfl<|sE ?_;clear H a;intro a H
 refine k14 _ ?_;clear k14 K14
 refine condL H rfl (fun hc4=>?_) (fun hc4=>?_)
 ·skip
  refine sS H fun K15 k15=>sr 1 rfl<|sE ?_;clear H a;intro a H
  refine k15 _ ?_;clear k15 K15
  refine wp_ret ?_
  refine ret1 (fn:=Tryz.f47) rfl H rfl ?_
  rw [sY (by omega) hyi (by omega)];exact ⟨rfl,(S.sel [] G G)⟩
 refine wp_skip ?_
 refine k13 _ _ ?_
 refine wp_seq_k fun K16 k16=>?_
 refine sS H fun K17 k17=>sr 1 rfl<|sE ?_;clear H a;intro a H
 refine k17 _ ?_;clear k17 K17
 refine wp_block ?_
 refine loop_st (X:=Nat) (R0:=_) [1] H rfl (fun k=>[(4,.int .i64 (k:Int))]) (fun k=>[]) (fun g k=>k≤y.us.length∧g+k=y.us.length∧∀ q,q<k→untB y.ps y.us q=true) (y.us.length) 0 ?_ (S.sel [0] G G) (H.keep [4,1] rfl) ?_
 · exact ⟨by omega,by omega,fun q hq=>absurd hq (Nat.not_lt_zero q)⟩
 clear H S a
 intro g1 x1 a w1 hp S H K18 k18
 obtain ⟨k,rfl⟩:∃ y,y=x1:=⟨_,rfl⟩
 refine wp_seq_k fun K19 k19=>?_
 refine sS H fun K20 k20=>sr 1 rfl<|sf cD rfl<|sl S 0 dH G G G<|sL eJ rfl<|sr 1 rfl<|sE ?_;clear H a;intro a H
 refine k20 _ ?_;clear k20 K20
 refine condL H rfl (fun hc5=>?_) (fun hc5=>?_)
 ·skip
  refine wp_skip ?_
  refine k19 _ _ ?_
  refine wp_seq_k fun K21 k21=>?_
  refine wp_block ?_
  refine seq_list fun K22 k22=>?_
  refine ls 2 H<|sd ((aB eN fG rfl S (i:=0) G G))<|sr 1 rfl<|sE ?_;clear H a;intro a H
  refine aA H G G Tryz.func87 G G (Hw y k _ (hy.now S) hyb (by omega)) ?_;clear H a
  rintro _ _ a ⟨rfl,S2⟩ H
  replace S:=S.call S2;clear S2
  refine ls 1 H<|sr 1 rfl<|sE ?_;clear H a;intro a H
  refine k22 _ _ ?_;clear k22 K22
  refine cond_ H rfl (fun hc6=>?_) (fun hc6=>?_)
  ·skip
   try simp only [o1,o2,o3,o4,o5,o6,o7,o8,o9,oa] at hc6
   replace H:=H.keep [] rfl
   refine sS H fun K23 k23=>sr 1 rfl<|sE ?_;clear H a;intro a H
   refine k23 _ ?_;clear k23 K23
   refine wp_ret ?_
   refine ret1 (fn:=Tryz.f47) rfl H rfl ?_
   rw [sZ (by omega) hyi (by omega) (show k<y.us.length by omega) (by simpa using hc6)];exact ⟨rfl,(S.sel [] G G)⟩
  try simp only [o1,o2,o3,o4,o5,o6,o7,o8,o9,oa] at hc6
  refine wp_skip ?_
  refine k21 _ _ ?_
  refine sO H<|sr 1 rfl<|sd (aK G G (by unfold i64ok;omega))<|sr 1 rfl<|sE ?_;clear H a;intro a H
  exact k18 (g1-1) (k+1) a _ (by omega) (⟨by omega,by omega,eU (f:=untB y.ps y.us) hp.2.2 (by simpa using hc6)⟩) (S.sel [0] G G) (H.keep [4,1] rfl)
 refine wp_exit ?_
 refine k16 _ _ ?_
 refine sS H fun K25 k25=>sr 1 rfl<|sE ?_;clear H a;intro a H
 refine k25 _ ?_;clear k25 K25
 refine wp_ret ?_
 refine ret1 (fn:=Tryz.f47) rfl H rfl ?_
 rw [tB (by omega) hyi (by omega) (bZ.2 fun q hq=>hp.2.2 q (by omega))];exact ⟨rfl,(S.sel [] G G)⟩
theorem Mn (y:Yr) (l:List Tsk) (LA:Option Addr) (lc:Nat) (w:World) (hy:YIn w noF y) (hyb:YBd y) (hl:InS w noF 3 LA l.length (jL l)) (hln:l.length≤9223372036854775807) :
    Calls Tryz.prog 16 [.agg [.int .i64 y.days,.int .i64 y.pl,.slice y.PA y.ps.length y.pc,.slice y.XA y.xs.length y.xc,.slice y.BA y.pe.length y.bc,.int .i64 y.limit,.bool y.help,.slice y.QA y.prs.length y.qc,.slice y.VA y.us.length y.vc,.int .i64 y.crew,.slice y.SA y.sps.length y.sc].toArray,.slice LA l.length lc].toArray w (Ret (fun v w'=>v = .int .i64 (taskE y l)∧St w noF [] w')):=by
 have hn3:=hyb.usn
 refine enter Tryz.func16 rfl Tryz.ntmps16 rfl (fun a H=>?_)
 have S:=St.start w
 refine seq_list fun K1 k1=>?_
 refine aN H rfl S G G ?_;clear H a S;intro b2 _ a hb2 hbw2 S H
 refine ls 1 H<|sr 1 rfl<|sE ?_;clear H a;intro a H
 refine k1 _ _ ?_;clear k1 K1
 refine seq_list fun K2 k2=>?_
 refine ls 1 H<|sd ((aB eN fG rfl S (i:=0) G G))<|sE ?_;clear H a;intro a H
 refine aA H G G Tryz.func47 G G (gR y _ (hy.now S) hyb) ?_;clear H a
 rintro _ _ a ⟨rfl,S2⟩ H
 replace S:=S.call S2;clear S2
 refine ls 1 H<|sr 1 rfl<|sE ?_;clear H a;intro a H
 refine k2 _ _ ?_;clear k2 K2
 refine wp_seq_k fun K3 k3=>?_
 refine sS H fun K4 k4=>sr 2 rfl<|sE ?_;clear H a;intro a H
 refine k4 _ ?_;clear k4 K4
 refine condN H rfl (fun hc1=>?_) (fun hc1=>?_)
 ·skip
  refine sS H fun K5 k5=>sr 2 rfl<|sE ?_;clear H a;intro a H
  refine k5 _ ?_;clear k5 K5
  refine wp_ret ?_
  refine ret1 (fn:=Tryz.f16) rfl H rfl ?_
  exact ⟨congrArg _ (tD hc1).symm,(S.sel [] G G)⟩
 have hye:yearE y=0:=by omega
 have hyi:=(mE hye).yr
 unfold yrI at hyi
 refine wp_skip ?_
 refine k3 _ _ ?_
 refine wp_seq_k fun K6 k6=>?_
 replace H:=H.keep [1,2] rfl
 refine sS H fun K7 k7=>sr 1 rfl<|sL eK rfl<|sr 1 rfl<|sE ?_;clear H a;intro a H
 refine k7 _ ?_;clear k7 K7
 refine condL H rfl (fun hc2=>?_) (fun hc2=>?_)
 ·skip
  refine sS H fun K8 k8=>sr 1 rfl<|sE ?_;clear H a;intro a H
  refine k8 _ ?_;clear k8 K8
  refine wp_ret ?_
  refine ret1 (fn:=Tryz.f16) rfl H rfl ?_
  rw [tE hye (by omega)];exact ⟨rfl,(S.sel [] G G)⟩
 refine wp_skip ?_
 refine k6 _ _ ?_
 refine wp_seq_k fun K9 k9=>?_
 refine sS H fun K10 k10=>sr 1 rfl<|sE ?_;clear H a;intro a H
 refine k10 _ ?_;clear k10 K10
 refine wp_block ?_
 refine loop_st (X:=Nat) (R0:=_) [1,2] H rfl (fun k=>[(6,.int .i64 (k:Int))]) (fun k=>[]) (fun g k=>k≤l.length∧g+k=l.length∧∀ q,q<k→tskB y l q=true) (l.length) 0 ?_ (S.sel [0] G G) (H.keep [6,1,2] rfl) ?_
 · exact ⟨by omega,by omega,fun q hq=>absurd hq (Nat.not_lt_zero q)⟩
 clear H S a
 intro g1 x1 a w1 hp S H K11 k11
 obtain ⟨k,rfl⟩:∃ y,y=x1:=⟨_,rfl⟩
 refine wp_seq_k fun K12 k12=>?_
 refine sS H fun K13 k13=>sr 2 rfl<|sL eK rfl<|sr 1 rfl<|sE ?_;clear H a;intro a H
 refine k13 _ ?_;clear k13 K13
 refine condL H rfl (fun hc3=>?_) (fun hc3=>?_)
 ·skip
  refine wp_skip ?_
  refine k12 _ _ ?_
  refine wp_seq_k fun K14 k14=>?_
  refine wp_block ?_
  rcases chk5 (0≤(l.getD k Tsk.zero).day∧(l.getD k Tsk.zero).day≤y.days-1) (0≤(l.getD k Tsk.zero).unit∧(l.getD k Tsk.zero).unit≤(y.us.length:Int)-1) (1≤(l.getD k Tsk.zero).kind∧(l.getD k Tsk.zero).kind≤2) k with hB|hB|hB|hB|hB
  ·skip
   skip
   replace H:=H.keep [1,2,6] rfl
   replace S:=S.drew
   refine seq_wq [(0,true),(1,true),(2,true),(3,true),(4,true),(5,true),(6,true),(7,true),(8,false),(9,true),(10,true),(11,true),(12,true),(13,true),(14,true),(15,true),(16,true),(17,true),(18,true),(19,true),(20,true),(21,true),(22,true),(23,true),(24,true),(25,true),(26,true),(27,true),(28,true),(29,true),(30,true),(31,true),(32,true),(33,true),(34,true),(35,true),(36,true),(37,true),(38,true),(39,true),(40,true),(41,true),(42,true),(43,true),(44,true),(45,true),(46,true),(47,true),(48,true)] (by kernel_rfl) (by kernel_rfl) (S.sel [0] G G) fun K15 k15=>?_
   refine qF H<|qr 2 rfl<|qd rfl (fun _ S=>bP eK eF G G (hl.adr (by omega)) (by omega))<|qd rfl (fun _ S=>(bI dF rfl))<|qd rfl (fun _ S=>aG aE rfl (hl.rd S (by omega) (by omega)))<|qd rfl (fun _ S=>(aD dD rfl))<|qd rfl (fun _ S=>aG aE rfl (boxM.rd S (i:=0) G G))<|qd rfl (fun _ S=>aR G G (by unfold i64ok;omega))<|qK ?_;clear H a;intro a H
   refine aU rfl ?_
   refine aA H G G Tryz.func48 G G (cV _ _ _ _) ?_;clear H a
   rintro _ _ a ⟨rfl,rfl⟩ H
   refine wpList_nil (And.intro (S.sel [0] G G) ?_)
   refine qF H<|qd rfl (fun _ S=>gD rfl (by omega))<|qr 1 rfl<|qK ?_;clear H a;intro a H
   refine aJ H G G G G G ?_;clear H a;intro a H
   refine aJ H G G G G G ?_;clear H a;intro a H
   refine aJ H G G G G G ?_;clear H a;intro a H
   refine aJ H G G G G G ?_;clear H a;intro a H
   refine aJ H G G G G G ?_;clear H a;intro a H
   refine aJ H G G G G G ?_;clear H a;intro a H
   refine aJ H G G G G G ?_;clear H a;intro a H
   refine aJ H G G G G G ?_;clear H a;intro a H
   refine aJ H G G G G G ?_;clear H a;intro a H
   refine aJ H G G G G G ?_;clear H a;intro a H
   refine aJ H G G G G G ?_;clear H a;intro a H
   refine qF H<|qd rfl (fun _ S=>(aS G G G))<|qr 1 rfl<|qK ?_;clear H a;intro a H
   refine aJ H G G G G G ?_;clear H a;intro a H
   refine aJ H G G G G G ?_;clear H a;intro a H
   refine aJ H G G G G G ?_;clear H a;intro a H
   refine aJ H G G G G G ?_;clear H a;intro a H
   refine aJ H G G G G G ?_;clear H a;intro a H
   refine aJ H G G G G G ?_;clear H a;intro a H
   refine aJ H G G G G G ?_;clear H a;intro a H
   refine qF H<|qd rfl (fun _ S=>(aS G G G))<|qr 1 rfl<|qK ?_;clear H a;intro a H
   refine aJ H G G G G G ?_;clear H a;intro a H
   refine aJ H G G G G G ?_;clear H a;intro a H
   refine aJ H G G G G G ?_;clear H a;intro a H
   refine bQ H G G G G ?_;clear H a;intro a H
   refine bQ H G G G G ?_;clear H a;intro a H
   refine bQ H G G G G ?_;clear H a;intro a H
   refine bQ H G G G G ?_;clear H a;intro a H
   refine bQ H G G G G ?_;clear H a;intro a H
   refine bQ H G G G G ?_;clear H a;intro a H
   refine bQ H G G G G ?_;clear H a;intro a H
   refine bQ H G G G G ?_;clear H a;intro a H
   refine bQ H G G G G ?_;clear H a;intro a H
   refine bQ H G G G G ?_;clear H a;intro a H
   refine bQ H G G G G ?_;clear H a;intro a H
   refine aJ H G G G G G ?_;clear H a;intro a H
   refine qF H<|qd rfl (fun _ S=>(aS G G G))<|qK ?_;clear H a;intro a H
   refine bM ?_
   refine k15 _ _ ?_
   clear k15 K15
   refine cond_ H rfl (fun hc4=>?_) (fun hc4=>?_)
   ·skip
    skip
    replace H:=H.keep [] rfl
    refine sS H fun K16 k16=>sr 1 rfl<|sE ?_;clear H a;intro a H
    refine k16 _ ?_;clear k16 K16
    refine wp_ret ?_
    refine ret1 (fn:=Tryz.f16) rfl H rfl ?_
    rw [gB hye (by omega) (show k<l.length by omega) (jY (by omega))];exact ⟨rfl,(S.sel [] G G)⟩
   skip
   cases hc4
  ·skip
   skip
   replace H:=H.keep [1,2,6] rfl
   replace S:=S.drew
   refine seq_wq [(0,true),(1,true),(2,true),(3,true),(4,true),(5,true),(6,true),(7,true),(8,false),(9,true),(10,true),(11,true),(12,true),(13,true),(14,true),(15,true),(16,true),(17,true),(18,true),(19,true),(20,false),(21,true),(22,true),(23,true),(24,true),(25,true),(26,true),(27,true),(28,true),(29,true),(30,true),(31,true),(32,true),(33,true),(34,true),(35,true),(36,true),(37,true),(38,true),(39,true),(40,true),(41,true),(42,true),(43,true),(44,true),(45,true),(46,true),(47,true),(48,true)] (by kernel_rfl) (by kernel_rfl) (S.sel [0] G G) fun K17 k17=>?_
   refine qF H<|qr 2 rfl<|qd rfl (fun _ S=>bP eK eF G G (hl.adr (by omega)) (by omega))<|qd rfl (fun _ S=>(bI dF rfl))<|qd rfl (fun _ S=>aG aE rfl (hl.rd S (by omega) (by omega)))<|qd rfl (fun _ S=>(aD dD rfl))<|qd rfl (fun _ S=>aG aE rfl (boxM.rd S (i:=0) G G))<|qd rfl (fun _ S=>aR G G (by unfold i64ok;omega))<|qK ?_;clear H a;intro a H
   refine aU rfl ?_
   refine aA H G G Tryz.func48 G G (cV _ _ _ _) ?_;clear H a
   rintro _ _ a ⟨rfl,rfl⟩ H
   refine wpList_nil (And.intro (S.sel [0] G G) ?_)
   refine qF H<|qd rfl (fun _ S=>bS rfl (by omega))<|qr 1 rfl<|qK ?_;clear H a;intro a H
   refine aF H G G G G (fun _ S=>aL rfl) ?_;clear H a;intro a H
   refine aF H G G G G (fun _ S=>aL rfl) ?_;clear H a;intro a H
   refine aF H G G G G (fun _ S=>bP eK eF G G (hl.adr (by omega)) (by omega)) ?_;clear H a;intro a H
   refine aF H G G G G (fun _ S=>(bI dN rfl)) ?_;clear H a;intro a H
   refine aF H G G G G (fun _ S=>aG aE rfl (hl.rd S (by omega) (by omega))) ?_;clear H a;intro a H
   refine aF H G G G G (fun _ S=>(aD cD rfl)) ?_;clear H a;intro a H
   refine aF H G G G G (fun _ S=>aG dH rfl (boxM.rd S (i:=0) G G)) ?_;clear H a;intro a H
   refine aF H G G G G (fun _ S=>cH eJ rfl) ?_;clear H a;intro a H
   refine aF H G G G G (fun _ S=>aR G G (by unfold i64ok;omega)) ?_;clear H a;intro a H
   refine aU rfl ?_
   refine aX H G G ?_
   refine aA H G G Tryz.func48 G G (cV _ _ _ _) ?_;clear H a
   rintro _ _ a ⟨rfl,rfl⟩ H
   refine wpList_nil (And.intro (S.sel [0] G G) ?_)
   refine aF H G G G G (fun _ S=>gD rfl (by omega)) ?_;clear H a;intro a H
   refine qF H<|qd rfl (fun _ S=>(aW G G G))<|qr 1 rfl<|qK ?_;clear H a;intro a H
   refine aJ H G G G G G ?_;clear H a;intro a H
   refine aJ H G G G G G ?_;clear H a;intro a H
   refine aJ H G G G G G ?_;clear H a;intro a H
   refine aJ H G G G G G ?_;clear H a;intro a H
   refine aJ H G G G G G ?_;clear H a;intro a H
   refine aJ H G G G G G ?_;clear H a;intro a H
   refine aJ H G G G G G ?_;clear H a;intro a H
   refine qF H<|qd rfl (fun _ S=>(aS G G G))<|qr 1 rfl<|qK ?_;clear H a;intro a H
   refine aJ H G G G G G ?_;clear H a;intro a H
   refine aJ H G G G G G ?_;clear H a;intro a H
   refine aJ H G G G G G ?_;clear H a;intro a H
   refine bQ H G G G G ?_;clear H a;intro a H
   refine bQ H G G G G ?_;clear H a;intro a H
   refine bQ H G G G G ?_;clear H a;intro a H
   refine bQ H G G G G ?_;clear H a;intro a H
   refine bQ H G G G G ?_;clear H a;intro a H
   refine bQ H G G G G ?_;clear H a;intro a H
   refine bQ H G G G G ?_;clear H a;intro a H
   refine bQ H G G G G ?_;clear H a;intro a H
   refine bQ H G G G G ?_;clear H a;intro a H
   refine bQ H G G G G ?_;clear H a;intro a H
   refine bQ H G G G G ?_;clear H a;intro a H
   refine aJ H G G G G G ?_;clear H a;intro a H
   refine qF H<|qd rfl (fun _ S=>(aS G G G))<|qK ?_;clear H a;intro a H
   refine bM ?_
   refine k17 _ _ ?_
   clear k17 K17
   refine cond_ H rfl (fun hc5=>?_) (fun hc5=>?_)
   ·skip
    skip
    replace H:=H.keep [] rfl
    refine sS H fun K18 k18=>sr 1 rfl<|sE ?_;clear H a;intro a H
    refine k18 _ ?_;clear k18 K18
    refine wp_ret ?_
    refine ret1 (fn:=Tryz.f16) rfl H rfl ?_
    rw [gB hye (by omega) (show k<l.length by omega) (jY (by omega))];exact ⟨rfl,(S.sel [] G G)⟩
   skip
   cases hc5
  ·skip
   skip
   replace H:=H.keep [1,2,6] rfl
   replace S:=S.drew
   refine seq_wq [(0,true),(1,true),(2,true),(3,true),(4,true),(5,true),(6,true),(7,true),(8,false),(9,true),(10,true),(11,true),(12,true),(13,true),(14,true),(15,true),(16,true),(17,true),(18,true),(19,true),(20,false),(21,true),(22,true),(23,true),(24,true),(25,true),(26,true),(27,true),(28,true),(29,false),(30,true),(31,true),(32,true),(33,true),(34,true),(35,true),(36,true),(37,true),(38,true),(39,true),(40,true),(41,true),(42,true),(43,true),(44,true),(45,true),(46,true),(47,true),(48,true)] (by kernel_rfl) (by kernel_rfl) (S.sel [0] G G) fun K19 k19=>?_
   refine qF H<|qr 2 rfl<|qd rfl (fun _ S=>bP eK eF G G (hl.adr (by omega)) (by omega))<|qd rfl (fun _ S=>(bI dF rfl))<|qd rfl (fun _ S=>aG aE rfl (hl.rd S (by omega) (by omega)))<|qd rfl (fun _ S=>(aD dD rfl))<|qd rfl (fun _ S=>aG aE rfl (boxM.rd S (i:=0) G G))<|qd rfl (fun _ S=>aR G G (by unfold i64ok;omega))<|qK ?_;clear H a;intro a H
   refine aU rfl ?_
   refine aA H G G Tryz.func48 G G (cV _ _ _ _) ?_;clear H a
   rintro _ _ a ⟨rfl,rfl⟩ H
   refine wpList_nil (And.intro (S.sel [0] G G) ?_)
   refine qF H<|qd rfl (fun _ S=>bS rfl (by omega))<|qr 1 rfl<|qK ?_;clear H a;intro a H
   refine aF H G G G G (fun _ S=>aL rfl) ?_;clear H a;intro a H
   refine aF H G G G G (fun _ S=>aL rfl) ?_;clear H a;intro a H
   refine aF H G G G G (fun _ S=>bP eK eF G G (hl.adr (by omega)) (by omega)) ?_;clear H a;intro a H
   refine aF H G G G G (fun _ S=>(bI dN rfl)) ?_;clear H a;intro a H
   refine aF H G G G G (fun _ S=>aG aE rfl (hl.rd S (by omega) (by omega))) ?_;clear H a;intro a H
   refine aF H G G G G (fun _ S=>(aD cD rfl)) ?_;clear H a;intro a H
   refine aF H G G G G (fun _ S=>aG dH rfl (boxM.rd S (i:=0) G G)) ?_;clear H a;intro a H
   refine aF H G G G G (fun _ S=>cH eJ rfl) ?_;clear H a;intro a H
   refine aF H G G G G (fun _ S=>aR G G (by unfold i64ok;omega)) ?_;clear H a;intro a H
   refine aU rfl ?_
   refine aX H G G ?_
   refine aA H G G Tryz.func48 G G (cV _ _ _ _) ?_;clear H a
   rintro _ _ a ⟨rfl,rfl⟩ H
   refine wpList_nil (And.intro (S.sel [0] G G) ?_)
   refine aF H G G G G (fun _ S=>bS rfl (by omega)) ?_;clear H a;intro a H
   refine qF H<|qd rfl (fun _ S=>(aW G G G))<|qr 1 rfl<|qK ?_;clear H a;intro a H
   refine aF H G G G G (fun _ S=>aL rfl) ?_;clear H a;intro a H
   refine aF H G G G G (fun _ S=>aL rfl) ?_;clear H a;intro a H
   refine aF H G G G G (fun _ S=>bP eK eF G G (hl.adr (by omega)) (by omega)) ?_;clear H a;intro a H
   refine aF H G G G G (fun _ S=>(bI fN rfl)) ?_;clear H a;intro a H
   refine aF H G G G G (fun _ S=>aG aE rfl (hl.rd S (by omega) (by omega))) ?_;clear H a;intro a H
   refine aU rfl ?_
   refine aX H G G ?_
   refine aA H G G Tryz.func48 G G (cV _ _ _ _) ?_;clear H a
   rintro _ _ a ⟨rfl,rfl⟩ H
   refine wpList_nil (And.intro (S.sel [0] G G) ?_)
   refine aF H G G G G (fun _ S=>gD rfl (by omega)) ?_;clear H a;intro a H
   refine qF H<|qd rfl (fun _ S=>(aW G G G))<|qr 1 rfl<|qK ?_;clear H a;intro a H
   refine aJ H G G G G G ?_;clear H a;intro a H
   refine aJ H G G G G G ?_;clear H a;intro a H
   refine aJ H G G G G G ?_;clear H a;intro a H
   refine bQ H G G G G ?_;clear H a;intro a H
   refine bQ H G G G G ?_;clear H a;intro a H
   refine bQ H G G G G ?_;clear H a;intro a H
   refine bQ H G G G G ?_;clear H a;intro a H
   refine bQ H G G G G ?_;clear H a;intro a H
   refine bQ H G G G G ?_;clear H a;intro a H
   refine bQ H G G G G ?_;clear H a;intro a H
   refine bQ H G G G G ?_;clear H a;intro a H
   refine bQ H G G G G ?_;clear H a;intro a H
   refine bQ H G G G G ?_;clear H a;intro a H
   refine bQ H G G G G ?_;clear H a;intro a H
   refine aJ H G G G G G ?_;clear H a;intro a H
   refine qF H<|qd rfl (fun _ S=>(aS G G G))<|qK ?_;clear H a;intro a H
   refine bM ?_
   refine k19 _ _ ?_
   clear k19 K19
   refine cond_ H rfl (fun hc6=>?_) (fun hc6=>?_)
   ·skip
    skip
    replace H:=H.keep [] rfl
    refine sS H fun K20 k20=>sr 1 rfl<|sE ?_;clear H a;intro a H
    refine k20 _ ?_;clear k20 K20
    refine wp_ret ?_
    refine ret1 (fn:=Tryz.f16) rfl H rfl ?_
    rw [gB hye (by omega) (show k<l.length by omega) (jY (by omega))];exact ⟨rfl,(S.sel [] G G)⟩
   skip
   cases hc6
  ·skip
   skip
   replace H:=H.keep [1,2,6] rfl
   replace S:=S.drew
   refine seq_wq [(0,true),(1,true),(2,true),(3,true),(4,true),(5,true),(6,true),(7,true),(8,false),(9,true),(10,true),(11,true),(12,true),(13,true),(14,true),(15,true),(16,true),(17,true),(18,true),(19,true),(20,false),(21,true),(22,true),(23,true),(24,true),(25,true),(26,true),(27,true),(28,true),(29,false),(30,true),(31,true),(32,true),(33,true),(34,true),(35,true),(36,true),(37,true),(38,true),(39,true),(40,true),(41,true),(42,true),(43,true),(44,true),(45,true),(46,true),(47,true),(48,true)] (by kernel_rfl) (by kernel_rfl) (S.sel [0] G G) fun K21 k21=>?_
   refine qF H<|qr 2 rfl<|qd rfl (fun _ S=>bP eK eF G G (hl.adr (by omega)) (by omega))<|qd rfl (fun _ S=>(bI dF rfl))<|qd rfl (fun _ S=>aG aE rfl (hl.rd S (by omega) (by omega)))<|qd rfl (fun _ S=>(aD dD rfl))<|qd rfl (fun _ S=>aG aE rfl (boxM.rd S (i:=0) G G))<|qd rfl (fun _ S=>aR G G (by unfold i64ok;omega))<|qK ?_;clear H a;intro a H
   refine aU rfl ?_
   refine aA H G G Tryz.func48 G G (cV _ _ _ _) ?_;clear H a
   rintro _ _ a ⟨rfl,rfl⟩ H
   refine wpList_nil (And.intro (S.sel [0] G G) ?_)
   refine qF H<|qd rfl (fun _ S=>bS rfl (by omega))<|qr 1 rfl<|qK ?_;clear H a;intro a H
   refine aF H G G G G (fun _ S=>aL rfl) ?_;clear H a;intro a H
   refine aF H G G G G (fun _ S=>aL rfl) ?_;clear H a;intro a H
   refine aF H G G G G (fun _ S=>bP eK eF G G (hl.adr (by omega)) (by omega)) ?_;clear H a;intro a H
   refine aF H G G G G (fun _ S=>(bI dN rfl)) ?_;clear H a;intro a H
   refine aF H G G G G (fun _ S=>aG aE rfl (hl.rd S (by omega) (by omega))) ?_;clear H a;intro a H
   refine aF H G G G G (fun _ S=>(aD cD rfl)) ?_;clear H a;intro a H
   refine aF H G G G G (fun _ S=>aG dH rfl (boxM.rd S (i:=0) G G)) ?_;clear H a;intro a H
   refine aF H G G G G (fun _ S=>cH eJ rfl) ?_;clear H a;intro a H
   refine aF H G G G G (fun _ S=>aR G G (by unfold i64ok;omega)) ?_;clear H a;intro a H
   refine aU rfl ?_
   refine aX H G G ?_
   refine aA H G G Tryz.func48 G G (cV _ _ _ _) ?_;clear H a
   rintro _ _ a ⟨rfl,rfl⟩ H
   refine wpList_nil (And.intro (S.sel [0] G G) ?_)
   refine aF H G G G G (fun _ S=>bS rfl (by omega)) ?_;clear H a;intro a H
   refine qF H<|qd rfl (fun _ S=>(aW G G G))<|qr 1 rfl<|qK ?_;clear H a;intro a H
   refine aF H G G G G (fun _ S=>aL rfl) ?_;clear H a;intro a H
   refine aF H G G G G (fun _ S=>aL rfl) ?_;clear H a;intro a H
   refine aF H G G G G (fun _ S=>bP eK eF G G (hl.adr (by omega)) (by omega)) ?_;clear H a;intro a H
   refine aF H G G G G (fun _ S=>(bI fN rfl)) ?_;clear H a;intro a H
   refine aF H G G G G (fun _ S=>aG aE rfl (hl.rd S (by omega) (by omega))) ?_;clear H a;intro a H
   refine aU rfl ?_
   refine aX H G G ?_
   refine aA H G G Tryz.func48 G G (cV _ _ _ _) ?_;clear H a
   rintro _ _ a ⟨rfl,rfl⟩ H
   refine wpList_nil (And.intro (S.sel [0] G G) ?_)
   refine aF H G G G G (fun _ S=>bS rfl (by omega)) ?_;clear H a;intro a H
   refine qF H<|qd rfl (fun _ S=>(aW G G G))<|qr 1 rfl<|qK ?_;clear H a;intro a H
   refine aF H G G G G (fun _ S=>aL rfl) ?_;clear H a;intro a H
   refine aF H G G G G (fun _ S=>oY G G (by omega)) ?_;clear H a;intro a H
   refine aF H G G G G (fun _ S=>aL rfl) ?_;clear H a;intro a H
   refine aJ H G G G G G ?_;clear H a;intro a H
   refine aJ H G G G G G ?_;clear H a;intro a H
   refine aJ H G G G G G ?_;clear H a;intro a H
   refine aJ H G G G G G ?_;clear H a;intro a H
   refine aJ H G G G G G ?_;clear H a;intro a H
   refine aJ H G G G G G ?_;clear H a;intro a H
   refine aJ H G G G G G ?_;clear H a;intro a H
   refine aJ H G G G G G ?_;clear H a;intro a H
   refine aJ H G G G G G ?_;clear H a;intro a H
   refine aJ H G G G G G ?_;clear H a;intro a H
   refine aJ H G G G G G ?_;clear H a;intro a H
   refine aF H G G G G (fun _ S=>(aS G G G)) ?_;clear H a;intro a H
   refine qF H<|qd rfl (fun _ S=>(aW G G G))<|qK ?_;clear H a;intro a H
   refine bM ?_
   refine k21 _ _ ?_
   clear k21 K21
   refine cond_ H rfl (fun hc7=>?_) (fun hc7=>?_)
   ·skip
    skip
    cases hc7
   skip
   refine wp_skip ?_
   refine k14 _ _ ?_
   replace H:=H.keep [1,2,6] rfl
   refine sO H<|sr 1 rfl<|sd (aK G G (by unfold i64ok;omega))<|sr 1 rfl<|sE ?_;clear H a;intro a H
   exact k11 (g1-1) (k+1) a _ (by omega) (by first|exact ⟨by omega,by omega,eU (f:=tskB y l) hp.2.2 (mG hB)⟩|exact ⟨by omega,by omega,eU (f:=tskB y l) hp.2.2 (mH hB hc8)⟩) (S.sel [0] G G) (H.keep [6,1,2] rfl)
  skip
  replace H:=H.keep [1,2,6] rfl
  replace S:=S.drew
  refine seq_wq [(0,true),(1,true),(2,true),(3,true),(4,true),(5,true),(6,true),(7,true),(8,false),(9,true),(10,true),(11,true),(12,true),(13,true),(14,true),(15,true),(16,true),(17,true),(18,true),(19,true),(20,false),(21,true),(22,true),(23,true),(24,true),(25,true),(26,true),(27,true),(28,true),(29,false),(30,true),(31,true),(32,true),(33,true),(34,true),(35,true),(36,true),(37,true),(38,true),(39,true),(40,true),(41,true),(42,true),(43,true),(44,true),(45,false),(46,true),(47,true),(48,true)] (by kernel_rfl) (by kernel_rfl) (S.sel [0] G G) fun K23 k23=>?_
  refine qF H<|qr 2 rfl<|qd rfl (fun _ S=>bP eK eF G G (hl.adr (by omega)) (by omega))<|qd rfl (fun _ S=>(bI dF rfl))<|qd rfl (fun _ S=>aG aE rfl (hl.rd S (by omega) (by omega)))<|qd rfl (fun _ S=>(aD dD rfl))<|qd rfl (fun _ S=>aG aE rfl (boxM.rd S (i:=0) G G))<|qd rfl (fun _ S=>aR G G (by unfold i64ok;omega))<|qK ?_;clear H a;intro a H
  refine aU rfl ?_
  refine aA H G G Tryz.func48 G G (cV _ _ _ _) ?_;clear H a
  rintro _ _ a ⟨rfl,rfl⟩ H
  refine wpList_nil (And.intro (S.sel [0] G G) ?_)
  refine qF H<|qd rfl (fun _ S=>bS rfl (by omega))<|qr 1 rfl<|qK ?_;clear H a;intro a H
  refine aF H G G G G (fun _ S=>aL rfl) ?_;clear H a;intro a H
  refine aF H G G G G (fun _ S=>aL rfl) ?_;clear H a;intro a H
  refine aF H G G G G (fun _ S=>bP eK eF G G (hl.adr (by omega)) (by omega)) ?_;clear H a;intro a H
  refine aF H G G G G (fun _ S=>(bI dN rfl)) ?_;clear H a;intro a H
  refine aF H G G G G (fun _ S=>aG aE rfl (hl.rd S (by omega) (by omega))) ?_;clear H a;intro a H
  refine aF H G G G G (fun _ S=>(aD cD rfl)) ?_;clear H a;intro a H
  refine aF H G G G G (fun _ S=>aG dH rfl (boxM.rd S (i:=0) G G)) ?_;clear H a;intro a H
  refine aF H G G G G (fun _ S=>cH eJ rfl) ?_;clear H a;intro a H
  refine aF H G G G G (fun _ S=>aR G G (by unfold i64ok;omega)) ?_;clear H a;intro a H
  refine aU rfl ?_
  refine aX H G G ?_
  refine aA H G G Tryz.func48 G G (cV _ _ _ _) ?_;clear H a
  rintro _ _ a ⟨rfl,rfl⟩ H
  refine wpList_nil (And.intro (S.sel [0] G G) ?_)
  refine aF H G G G G (fun _ S=>bS rfl (by omega)) ?_;clear H a;intro a H
  refine qF H<|qd rfl (fun _ S=>(aW G G G))<|qr 1 rfl<|qK ?_;clear H a;intro a H
  refine aF H G G G G (fun _ S=>aL rfl) ?_;clear H a;intro a H
  refine aF H G G G G (fun _ S=>aL rfl) ?_;clear H a;intro a H
  refine aF H G G G G (fun _ S=>bP eK eF G G (hl.adr (by omega)) (by omega)) ?_;clear H a;intro a H
  refine aF H G G G G (fun _ S=>(bI fN rfl)) ?_;clear H a;intro a H
  refine aF H G G G G (fun _ S=>aG aE rfl (hl.rd S (by omega) (by omega))) ?_;clear H a;intro a H
  refine aU rfl ?_
  refine aX H G G ?_
  refine aA H G G Tryz.func48 G G (cV _ _ _ _) ?_;clear H a
  rintro _ _ a ⟨rfl,rfl⟩ H
  refine wpList_nil (And.intro (S.sel [0] G G) ?_)
  refine aF H G G G G (fun _ S=>bS rfl (by omega)) ?_;clear H a;intro a H
  refine qF H<|qd rfl (fun _ S=>(aW G G G))<|qr 1 rfl<|qK ?_;clear H a;intro a H
  refine aF H G G G G (fun _ S=>aL rfl) ?_;clear H a;intro a H
  refine aF H G G G G (fun _ S=>oX G G (by omega)) ?_;clear H a;intro a H
  refine aF H G G G G (fun _ S=>aL rfl) ?_;clear H a;intro a H
  refine aF H G G G G (fun _ S=>aL rfl) ?_;clear H a;intro a H
  refine aF H G G G G (fun _ S=>aL rfl) ?_;clear H a;intro a H
  refine aF H G G G G (fun _ S=>aR G G (by unfold i64ok;omega)) ?_;clear H a;intro a H
  refine aF H G G G G (fun _ S=>bV eK eF G G (hl.adr (by omega)) (by omega) (by omega)) ?_;clear H a;intro a H
  refine aF H G G G G (fun _ S=>(aT pC eF rfl S hl (by omega) (by omega))) ?_;clear H a;intro a H
  refine aF H G G G G (fun _ S=>aL rfl) ?_;clear H a;intro a H
  refine aF H G G G G (fun _ S=>aL rfl) ?_;clear H a;intro a H
  refine aF H G G G G (fun _ S=>bP eK eF G G (hl.adr (by omega)) (by omega)) ?_;clear H a;intro a H
  refine aF H G G G G (fun _ S=>(aT pC eF rfl S hl (by omega) (by omega))) ?_;clear H a;intro a H
  refine aU rfl ?_
  refine aX H G G ?_
  refine aA H G G Tryz.func49 G G (Hu (l.getD ((k:Int)-1).toNat Tsk.zero) (l.getD k Tsk.zero) _) ?_;clear H a
  rintro _ _ a ⟨rfl,S2⟩ H
  replace S:=S.call S2;clear S2
  refine wpList_nil (And.intro (S.sel [0] G G) ?_)
  refine aF H G G G G (fun _ S=>cP rfl) ?_;clear H a;intro a H
  refine aF H G G G G (fun _ S=>(iR G G G)) ?_;clear H a;intro a H
  refine qF H<|qd rfl (fun _ S=>(aW G G G))<|qK ?_;clear H a;intro a H
  refine bM ?_
  refine k23 _ _ ?_
  clear k23 K23
  refine cond_ H rfl (fun hc8=>?_) (fun hc8=>?_)
  ·skip
   try simp only [o1,o2,o3,o4,o5,o6,o7,o8,o9,oa] at hc8
   replace hc8:befB (l.getD ((k:Int)-1).toNat Tsk.zero) (l.getD k Tsk.zero)=false:=by simpa using hc8
   replace H:=H.keep [] rfl
   refine sS H fun K24 k24=>sr 1 rfl<|sE ?_;clear H a;intro a H
   refine k24 _ ?_;clear k24 K24
   refine wp_ret ?_
   refine ret1 (fn:=Tryz.f16) rfl H rfl ?_
   rw [gB hye (by omega) (show k<l.length by omega) (Ac hB hc8)];exact ⟨rfl,(S.sel [] G G)⟩
  try simp only [o1,o2,o3,o4,o5,o6,o7,o8,o9,oa] at hc8
  replace hc8:befB (l.getD ((k:Int)-1).toNat Tsk.zero) (l.getD k Tsk.zero)=true:=by simpa using hc8
  refine wp_skip ?_
  refine k14 _ _ ?_
  refine sO H<|sr 1 rfl<|sd (aK G G (by unfold i64ok;omega))<|sr 1 rfl<|sE ?_;clear H a;intro a H
  exact k11 (g1-1) (k+1) a _ (by omega) (by first|exact ⟨by omega,by omega,eU (f:=tskB y l) hp.2.2 (mG hB)⟩|exact ⟨by omega,by omega,eU (f:=tskB y l) hp.2.2 (mH hB hc8)⟩) (S.sel [0] G G) (H.keep [6,1,2] rfl)
 refine wp_exit ?_
 refine k9 _ _ ?_
 refine sS H fun K26 k26=>sr 1 rfl<|sE ?_;clear H a;intro a H
 refine k26 _ ?_;clear k26 K26
 refine wp_ret ?_
 refine ret1 (fn:=Tryz.f16) rfl H rfl ?_
 rw [tF hye (by omega) (bZ.2 fun q hq=>hp.2.2 q (by omega))];exact ⟨rfl,(S.sel [] G G)⟩
end
section
theorem six {p:Nat→Prop} (h0:p 0) (h1:p 1) (h2:p 2) (h3:p 3) (h4:p 4) (h5:p 5):∀ j,j<6→p j:=by
  intro j hj
  match j,hj with
  | 0,_=>exact h0
  | 1,_=>exact h1
  | 2,_=>exact h2
  | 3,_=>exact h3
  | 4,_=>exact h4
  | 5,_=>exact h5
theorem tS {l:List Use} {x:Use} {vs:List Value} (h:∀ j,j<6→vs.getD j undef=x.cell j):∀ q j,q<l.length+1→j<6→capp l.length (ucell l) (fun k' j=>([vs].getD k' []).getD j undef) q j=ucell (l++[x]) q j:=by
  intro q j hq hj
  unfold capp ucell
  by_cases h1:q<l.length
  · rw [if_pos h1,List.getD_eq_getElem?_getD,List.getD_eq_getElem?_getD,List.getElem?_append_left h1]
  · rw [if_neg h1]
    have e:q=l.length:=by omega
    subst e
    rw [Nat.sub_self,List.getD_eq_getElem?_getD (l:=l++[x]),List.getElem?_append_right (Nat.le_refl _),Nat.sub_self]
    exact h j hj
theorem Rf {w:World} {p:Part} {l:List Use} {v:Value} {w':World} (h:v = .tuple #[.int .i64 (dO p l Prod.snd).1,.int .i64 (dO p l Prod.snd).2]∧St w noF [] w'):∃ n e:Int,v = .tuple #[.int .i64 n,.int .i64 e]∧bydB p l=(!decide (e=0)||decide (0≤n))∧St w noF [] w':=⟨_,_,h.1,rfl,h.2⟩
theorem Mo {w:World} {F:Nat→Prop} {sz n:Nat} {A:Option Addr} {cell:Nat→Nat→Value} (h:InS w F sz A n cell):A=none→n=0∧n=0:=fun e=>by
  rcases Nat.eq_zero_or_pos n with h0|h0
  · exact ⟨h0,h0⟩
  · obtain ⟨b,o,h1,_⟩:=h h0
    rw [e] at h1;cases h1
theorem Hx (u:Unt) (l:List Use) (LA:Option Addr) (lc:Nat) (age:Int) (w:World) (hur:InS w noF 2 u.RA u.rates.length (scell u.rates)) (hurn:u.rates.length≤9223372036854775807) (huu:InS w noF 6 u.UA u.uses.length (ucell u.uses)) (huun:u.uses.length≤9223372036854775807) (hl:InS w noF 6 LA l.length (ucell l)) (hln:l.length≤1000000) (hlc:l.length≤lc) :
    Calls Tryz.prog 157 [.agg [.int .i64 u.mach,.int .i64 u.every,.int .i64 u.seen,.slice u.RA u.rates.length u.rc,.int .i64 u.worn,.int .i64 u.turns,.int .i64 u.age,.slice u.UA u.uses.length u.uc,.int .i64 u.old,.int .i64 u.tn,.int .i64 u.cl,.int .i64 u.kind].toArray,.slice LA l.length lc,.int .i64 age].toArray w (Ret (fun v w'=>v = .bool (bydB u.part (l++[⟨age,u.tn,u.cl,false,0,0⟩]))∧St w noF [] w')):=by
 refine enter Tryz.func157 rfl Tryz.ntmps157 rfl (fun a H=>?_)
 have S:=St.start w
 refine seq_list fun K1 k1=>?_
 refine aN H rfl S G G ?_;clear H a S;intro b3 _ a hb3 hbw3 S H
 refine ls 1 H<|sr 1 rfl<|sE ?_;clear H a;intro a H
 refine k1 _ _ ?_;clear k1 K1
 replace H:=H.keep [1,2,3] rfl
 refine seq_list fun K2 k2=>?_
 refine ls 6 H<|sr 1 rfl<|sf qO rfl<|sl S 0 aE G G G<|sf qP rfl<|sl S 0 aE G G G<|sd (aO Kj G G)<|sE ?_;clear H a;intro a H
 refine aI H rfl S iY ?_;clear H a S;intro b7 _ a hb7 hbw7 S H
 refine aC H S (i:=0) G G G G cR G G ?_
 clear H a S;intro _ a S H
 refine k2 _ _ ?_;clear k2 K2
 replace H:=H.keep [1,3,7] rfl
 replace S:=S.drew
 refine seq_wt 999999 (.q 0 (.q 1 (.q 2 (.q 3 (.q 4 (.q 5 (.q 6 (.q 7 (.q 8 (.e 9 (.e 10 (.e 11 (.q 12 (.q 13 (.q 14 (.q 15 (.q 16 .nil))))))))))))))))) (by kernel_rfl) (by kernel_rfl) (S.sel [0,1] G G) fun K3 k3=>?_
 refine aH H G G (fun _ S=>(aD jH rfl)) ?_;clear H a;intro a H
 refine aH H G G (fun _ S=>(aB dQ eS rfl S (i:=1) G G)) ?_;clear H a;intro a H
 refine aH H G G (fun _ S=>aL rfl) ?_;clear H a;intro a H
 refine aH H G G (fun _ S=>aL rfl) ?_;clear H a;intro a H
 refine aH H G G (fun _ S=>cH cZ rfl) ?_;clear H a;intro a H
 refine aH H G G (fun _ S=>aL rfl) ?_;clear H a;intro a H
 refine aH H G G (fun _ S=>cH cZ rfl) ?_;clear H a;intro a H
 refine aH H G G (fun _ S=>qB cZ cR G G G hlc) ?_;clear H a;intro a H
 refine aH H G G (fun _ S=>(aB jE cR rfl S (i:=0) G G)) ?_;clear H a;intro a H
 refine aM rfl ?_
 refine aV H rfl S cZ cR iY G G G G G G G G G ?_;clear H a S;intro A1 _ a hA1 S H
 refine wpList_nil (And.intro (Or.inr (S.sel [1,2] G G)) ?_)
 refine aM rfl ?_
 refine oK H rfl S cZ cR iY Bj G G G G (n:=l.length) (cell:=ucell l) (cell':=_) (hl.now S) (Mo (hl.now S)) (by omega) (by omega) (ownM.inS S (i:=0) rfl) (hG (six G G G G G G)) (by omega) (by omega) ?_;clear H a S;intro A2 c2 _ a S H
 replace S:=S.recell (i:=0) rfl (cell':=ucell (l++[⟨age,u.tn,u.cl,false,0,0⟩])) (tS (x:=⟨age,u.tn,u.cl,false,0,0⟩) (six G G G G G G))
 refine wpList_nil (And.intro (Or.inr (S.sel [2,3] G G)) ?_)
 refine aM rfl ?_
 rw [show l.length+1=(l++[(⟨age,u.tn,u.cl,false,0,0⟩:Use)]).length by simp] at H S
 have hcl9:=gP (xD u.rates u.worn u.turns u.age u.RA u.rc (l++[⟨age,u.tn,u.cl,false,0,0⟩]) A2 c2 _ (hur.now S) hurn ((ownM.inS S (i:=0) rfl)) (by simp;omega)) (fun _ _ h=>Rf h)
 refine aA H G G Tryz.func183 G G hcl9 ?_;clear H a hcl9
 rintro _ _ a ⟨n9,e9,rfl,hb9,S2⟩ H
 replace S:=S.call S2;clear S2
 refine wpList_nil (And.intro (Or.inr (S.sel [2,3] G G)) ?_)
 refine aH H G G (fun _ S=>aL rfl) ?_;clear H a;intro a H
 refine aH H G G (fun _ S=>aQ G G) ?_;clear H a;intro a H
 refine aH H G G (fun _ S=>aQ G G) ?_;clear H a;intro a H
 refine aH H G G (fun _ S=>bE rfl) ?_;clear H a;intro a H
 refine aH H G G (fun _ S=>bE rfl) ?_;clear H a;intro a H
 refine bC ?_
 refine k3 _ _ ?_
 clear k3 K3
 replace H:=H.keep [8,9] rfl
 refine sS H fun K4 k4=>sr 3 rfl<|sg 2 2 33 35 false G G (fun hg3=>sy hg3<|sr 1 rfl<|sy hg3<|sr 1 rfl<|sz 2 G G G)<|so G G G<|sr 1 rfl<|sE ?_;clear H a;intro a H
 refine k4 _ ?_;clear k4 K4
 refine wp_ret ?_
 refine ret1 (fn:=Tryz.f157) rfl H rfl ?_
 exact ⟨congrArg Value.bool hb9.symm,(S.sel [] G G)⟩
theorem Rg (u:Unt) (J:Nat→Int) (dy:Nat) (w:World) (hur:InS w noF 2 u.RA u.rates.length (scell u.rates)) (hurn:u.rates.length≤9223372036854775807) (huu:InS w noF 6 u.UA u.uses.length (ucell u.uses)) (huun:u.uses.length≤9223372036854775807) (hucp:u.uses.length≤u.uc) (hui:untI u) (ho0:0≤u.old) (hJ:∀ d,0≤J d∧J d≤6) (hdy:dy≤20) :
    Calls Tryz.prog 125 [.agg [.int .i64 u.mach,.int .i64 u.every,.int .i64 u.seen,.slice u.RA u.rates.length u.rc,.int .i64 u.worn,.int .i64 u.turns,.int .i64 u.age,.slice u.UA u.uses.length u.uc,.int .i64 u.old,.int .i64 u.tn,.int .i64 u.cl,.int .i64 u.kind].toArray,.agg ((List.range 20).map fun k=>Value.int .i64 (J k)).toArray,.int .i64 (dy:Int)].toArray w (Ret (fun v w'=>v = .agg [.int .i64 (bsum (runB' u J) dy),.int .i64 (bsum (certB u J) dy)].toArray∧St w noF [] w')):=by
 have hmx:maxLen=9223372036854775807:=rfl
 unfold untI at hui
 refine enter Tryz.func125 rfl Tryz.ntmps125 rfl (fun a H=>?_)
 have S:=St.start w
 refine seq_list fun K1 k1=>?_
 refine aN H rfl S G G ?_;clear H a S;intro b3 _ a hb3 hbw3 S H
 refine aN H rfl S G G ?_;clear H a S;intro b4 _ a hb4 hbw4 S H
 refine aI H rfl S lL ?_;clear H a S;intro b6 _ a hb6 hbw6 S H
 refine k1 _ _ ?_;clear k1 K1
 replace S:=Ps S (i:=1) rfl (by omega)
 refine seq_list fun K2 k2=>?_
 refine aI H rfl S lL ?_;clear H a S;intro b7 _ a hb7 hbw7 S H
 refine k2 _ _ ?_;clear k2 K2
 replace H:=H.keep [2,3,4,6,7] rfl
 replace S:=S.drew
 refine sD H fun K3 k3=>sf fD rfl<|sl S 3 iI G G G<|sf qN rfl<|sl S 3 aE G G G<|sd (iC rfl (by unfold i64ok;omega))<|sf qM rfl<|sl S 3 aE G G G<|sr 3 rfl<|sE ?_;clear H a;intro a H
 refine k3 _ ?_;clear k3 K3
 refine wp_seq_k fun K4 k4=>?_
 replace H:=H.keep [2,3,4,6,7,8,9,10] rfl
 refine sS H fun K5 k5=>sr 2 rfl<|sE ?_;clear H a;intro a H
 refine k5 _ ?_;clear k5 K5
 refine wp_block ?_
 replace S:=S.frz0
 refine loop_st (X:=Nat×LSt×Option Addr×Nat×(Nat→Prop)×World) (R0:=_) [3,4,6,7,21] H rfl (fun ⟨d,st,A9,c9,B9,wz⟩=>[(8,.slice A9 st.uses.length c9),(9,.int .i64 st.born),(10,.int .i64 st.seen),(22,.int .i64 (d:Int))]) (fun ⟨d,st,A9,c9,B9,wz⟩=>[boxM b7 139 [.int .i64 (bsum (runB' u J) d),.int .i64 (bsum (certB u J) d)],frzM B9 wz]) (fun g ⟨d,st,A9,c9,B9,wz⟩=>(d≤dy∧g+d=dy)∧(RdF w noF B9 wz 6 A9 st.uses.length (ucell st.uses)∧st.uses.length≤c9)∧st=lifeS u J d) (dy) (0,lifeS u J 0,u.UA,u.uc,noF,_) ?_ (S.sel [1,0,2,3,4] G G) (H.keep [8,9,10,22,3,4,6,7,21] rfl) ?_
 · exact ⟨⟨by omega,by omega⟩,⟨RdF.base huu,hucp⟩,rfl⟩
 clear H S a
 intro g1 x1 a w1 hp S H K6 k6
 obtain ⟨d,st,A9,c9,B9,wz⟩:=x1
 dsimp only at hp S H
 obtain ⟨⟨hdl,hgd⟩,⟨hrd,hcap⟩,hst9⟩:=hp
 subst hst9
 have hln:=Gn (u:=u) (J:=J) d
 have hbo:=Bz (u:=u) (J:=J) (by omega) d
 have hsn:=Ca (u:=u) (J:=J) (by omega) d
 skip
 refine sS H fun K7 k7=>sr 1 rfl<|sE ?_;clear H a;intro a H
 refine k7 _ ?_;clear k7 K7
 refine wp_seq_k fun K8 k8=>?_
 refine condL H rfl (fun hc1=>?_) (fun hc1=>?_)
 ·skip
  refine wp_skip ?_
  refine k8 _ _ ?_
  refine wp_seq_k fun K9 k9=>?_
  refine wp_block ?_
  refine sS H fun K10 k10=>sr 2 rfl<|sE ?_;clear H a;intro a H
  refine k10 _ ?_;clear k10 K10
  have hJd:=hJ d
  replace H:=H.keep [3,4,6,7,8,9,10,11,21,22] rfl
  replace S:=S.drew
  refine sD H fun K11 k11=>sr 1 rfl<|sd (eD Tryz.underlying239 bF G G (by omega) (by omega))<|slm aE rfl (ownM.rd S (i:=3) (k:=d) (j:=0) rfl (by omega) (by omega))<|sd (iD G G (by omega) (by omega))<|sd (fX G G)<|sr 2 rfl<|sd (eD Tryz.underlying239 bF G G (by omega) (by omega))<|slm aE rfl (ownM.rd S (i:=3) (k:=d) (j:=0) rfl (by omega) (by omega))<|sd (iD G G (by omega) (by omega))<|sd (fX G G)<|sr 3 rfl<|sE ?_;clear H a;intro a H
  refine k11 _ ?_;clear k11 K11
  have SR:=(S.sel [0,1,2,3,4] G G)
  refine meet_sr (X:=Int) [3,4,6,7,8,9,11,13,21,22] H rfl (fun x=>[(10,.int .i64 x)]) (fun x=>[]) (fun x=>x=seenN (lifeS u J d) (J d) d) SR (fun K13 k13=>?_) ?_
  ·skip
   replace H:=H.keep [3,4,6,7,8,9,10,11,12,13,21,22] rfl
   refine sS H fun K14 k14=>sr 1 rfl<|sE ?_;clear H a;intro a H
   refine k14 _ ?_;clear k14 K14
   refine condE H rfl (fun hc2=>?_) (fun hc2=>?_)
   ·skip
    refine sO H<|sr 2 rfl<|sE ?_;clear H a;intro a H
    exact k13 _ a _ ((if_pos (show insp (J d)=true from decide_eq_true hc2)).symm) (S.sel [0,1,2,3,4] G G) (H.keep [10,3,4,6,7,8,9,11,13,21,22] rfl)
   refine wp_skip ?_
   exact k13 _ a _ ((if_neg (show ¬ insp (J d)=true from fun h=>hc2 (of_decide_eq_true h))).symm) (S.sel [0,1,2,3,4] G G) (H.keep [10,3,4,6,7,8,9,11,13,21,22] rfl)
  clear SR H S a
  intro xm a wm hp S H
  obtain ⟨x,rfl⟩:∃ y,y=xm:=⟨_,rfl⟩
  have hx9:=hp
  have hxb:=zO (s:=(lifeS u J d)) (j:=J d) (d:=d) hsn
  rw [←hx9] at hxb
  have SR:=(S.sel [1,2,3,4] G G)
  refine meet_sr (X:=Unit) [3,4,6,7,8,9,10,11,13,21,22] H rfl (fun u3=>[]) (fun u3=>[boxM b7 139 [.int .i64 (bsum (runB' u J) d),.int .i64 (bsum (certB u J) (d+1))]]) (fun u3=>True) SR (fun K17 k17=>?_) ?_
  ·skip
   refine sS H fun K18 k18=>sr 2 rfl<|sd (aR G G (by unfold i64ok;omega))<|sf mB rfl<|sl S 4 aE G G G<|sr 1 rfl<|sE ?_;clear H a;intro a H
   refine k18 _ ?_;clear k18 K18
   refine condG H rfl (fun hc3=>?_) (fun hc3=>?_)
   ·skip
    replace H:=H.keep [3,4,6,7,8,9,10,11,13,21,22] rfl
    refine nK 6 (by kernel_rfl) (by kernel_rfl) ?_
    replace S:=S.drew
    refine sF H<|sf rU rfl<|sl S 0 aE G G G<|sr 1 rfl<|sd (eR G G (by omega) (by omega) (Lg (by omega)))<|sd (zN G G (uT _ (by omega)) (by omega) (Ei (Nat.le_refl d)))<|sf rU rfl<|sE ?_;clear H a;intro a H
    refine aC H S (i:=0) G G G G bF G G ?_
    clear H a S;intro _ a S H
    replace S:=boxM.same S (i:=0) rfl (cs':=[.int .i64 (bsum (runB' u J) d),.int .i64 (bsum (certB u J) (d+1))]) (by rw [←Lh (f:=certB u J) (n:=d) ((zQ u J d x hx9).symm.trans (decide_eq_true hc3))] <;> rfl)
    exact k17 () a _ (trivial) (S.sel [0,1,2,3,4] G G) (H.keep [3,4,6,7,8,9,10,11,13,21,22] rfl)
   refine wp_skip ?_
   replace S:=boxM.same S (i:=0) rfl (cs':=[.int .i64 (bsum (runB' u J) d),.int .i64 (bsum (certB u J) (d+1))]) (by rw [←Li (f:=certB u J) (n:=d) ((zQ u J d x hx9).symm.trans (decide_eq_false (by omega)))] <;> rfl)
   exact k17 () a _ (trivial) (S.sel [0,1,2,3,4] G G) (H.keep [3,4,6,7,8,9,10,11,13,21,22] rfl)
  clear SR H S a
  intro xm a wm hp S H
  obtain ⟨u3,rfl⟩:∃ y,y=xm:=⟨_,rfl⟩
  skip
  have SR:=(S.sel [2,3,4] G G)
  refine meet_sr (X:=Option Addr×Nat×(Nat→Prop)×World) [3,4,6,7,9,10,11,13,21,22] H rfl (fun ⟨A8,c8,B8,wy⟩=>[(8,.slice A8 (usesN u J d).length c8)]) (fun ⟨A8,c8,B8,wy⟩=>[boxM b7 139 [.int .i64 (bsum (runB' u J) (d+1)),.int .i64 (bsum (certB u J) (d+1))],frzM B8 wy]) (fun ⟨A8,c8,B8,wy⟩=>RdF w noF B8 wy 6 A8 (usesN u J d).length (ucell (usesN u J d))∧(usesN u J d).length≤c8) SR (fun K21 k21=>?_) ?_
  ·skip
   replace H:=H.keep [3,4,6,7,8,9,10,11,13,21,22] rfl
   refine seq_list fun K22 k22=>?_
   refine ls 13 H<|sr 1 rfl<|sd (eD Tryz.underlying239 bF G G (by omega) (by omega))<|slm aE rfl (ownM.rd S (i:=3) (k:=d) (j:=0) rfl (by omega) (by omega))<|sr 2 rfl<|sg 6 4 55 61 true G G (fun hg5=>sy hg5<|sr 1 rfl<|sy hg5<|sr 1 rfl<|sy hg5<|sd (aR G G (by unfold i64ok;omega))<|sy hg5<|sf mB rfl<|sy hg5<|sl S 4 aE G G G<|sy hg5<|sr 1 rfl<|sz 6 G G G)<|sa G G G<|sr 1 rfl<|sE ?_;clear H a;intro a H
   apply bN (i:=12) (g:=63) (t:=70) (b:=true) 7 H S G G (by kernel_rfl) (by kernel_rfl) G G
   case h1=>
    intro hg13
    refine ls 5 H<|sy hg13<|sd ((aB mV fY rfl S (i:=4) G G))<|sy hg13<|sr 1 rfl<|sy hg13<|sr 1 rfl<|sy hg13<|sr 1 rfl<|sy hg13<|sd (aR G G (by unfold i64ok;omega))<|sE ?_;intro a H
    refine bY H G G (by assumption) ?_
    refine aA H G G Tryz.func157 G G (Hx u (lifeS u J d).uses A9 c9 ((d:Int)-(lifeS u J d).born) _ (hur.now S) hurn (huu.now S) huun (hrd.now S (i:=1) rfl) (by omega) hcap) ?_
    rintro _ _ a ⟨rfl,S2⟩ H
    replace S:=S.call S2;clear S2
    refine ls 1 H<|sy hg13<|sr 1 rfl<|sE ?_;intro a H
    exact wpList_nil ⟨H.strip 7 G G,(S.sel [0,1,2,3,4] G G)⟩
   clear H a S;intro a _ H S
   refine ls 1 H<|sa G G G<|sE ?_;clear H a;intro a H
   refine k22 _ _ ?_;clear k22 K22
   refine cond_ H rfl (fun hc4=>?_) (fun hc4=>?_)
   ·skip
    rw [Ej u J d x hx9] at hc4
    replace H:=H.keep [3,4,6,7,8,9,10,11,13,21,22] rfl
    refine xX 6 (by kernel_rfl) (by kernel_rfl) fun K23 k23=>?_
    replace S:=S.drew
    refine sF H<|sf yH rfl<|sl S 0 aE G G G<|sr 1 rfl<|sd (eR G G (by omega) (by omega) (Lg (by omega)))<|sd (zN G G (uT _ (by omega)) (by omega) (Ei (Nat.le_refl d)))<|sf yH rfl<|sE ?_;clear H a;intro a H
    refine aC H S (i:=0) G G G G bF G G ?_
    clear H a S;intro _ a S H
    refine k23 _ _ ?_;clear k23 K23
    replace H:=H.keep [3,4,6,7,8,9,10,11,13,21,22] rfl
    replace S:=S.drew
    refine one_wq [(0,true),(1,true),(2,true),(3,true),(4,true),(5,true),(6,true),(7,true),(8,true),(9,true),(10,true),(11,true),(12,true),(13,true),(14,false),(15,false),(16,true)] (by kernel_rfl) (by kernel_rfl) (S.sel [0,1,2,3,4] G G) ?_
    refine qF H<|qr 2 rfl<|qd rfl (fun _ S=>cH cZ rfl)<|qr 1 rfl<|qd rfl (fun _ S=>cH cZ rfl)<|qd rfl (fun _ S=>qB cZ cR G G G hcap)<|qr 2 rfl<|qd rfl (fun _ S=>aR G G (by unfold i64ok;omega))<|qd rfl (fun _ S=>(aD qO rfl))<|qd rfl (fun _ S=>aG aE rfl (boxM.rd S (i:=4) G G))<|qd rfl (fun _ S=>(aD qP rfl))<|qd rfl (fun _ S=>aG aE rfl (boxM.rd S (i:=4) G G))<|qd rfl (fun _ S=>aO Kj G G)<|qK ?_;clear H a;intro a H
    refine aU rfl ?_
    refine aV H rfl S cZ cR iY G G G G G G G G G ?_;clear H a S;intro A1 _ a hA1 S H
    refine wpList_nil (And.intro (S.sel [1,2,3,4,5] G G) ?_)
    refine aU rfl ?_
    refine oK H rfl S cZ cR iY Bj G G G G (n:=(lifeS u J d).uses.length) (cell:=ucell (lifeS u J d).uses) (cell':=_) (hrd.now S (i:=2) rfl) (Mo (hrd.now S (i:=2) rfl)) (by omega) (by omega) (ownM.inS S (i:=0) rfl) (hG (six G G G G G G)) (by omega) (by omega) ?_;clear H a S;intro A3 c3 _ a S H
    replace S:=S.recell (i:=0) rfl (cell':=ucell ((lifeS u J d).uses++[useAt u d (lifeS u J d).born])) (tS (x:=useAt u d (lifeS u J d).born) (six G G G G G G))
    refine wpList_nil (And.intro (S.sel [2,3,4,5,6] G G) ?_)
    refine qF H<|qr 1 rfl<|qK ?_;clear H a;intro a H
    refine bM ?_
    replace S:=boxM.same S (i:=2) rfl (cs':=[.int .i64 (bsum (runB' u J) (d+1)),.int .i64 (bsum (certB u J) (d+1))]) (by rw [←Lh (f:=runB' u J) (n:=d) hc4] <;> rfl)
    replace S:=(S.sel [0,1,2,3,4,5,6] G G)
    have hle3:=ownM.le S (i:=0) rfl
    obtain ⟨B2,S,hA2,_⟩:=St.freeze S (i:=2) rfl
    rw [show (lifeS u J d).uses.length+1=(usesN u J d).length by unfold usesN;rw [if_pos hc4];simp] at H
    exact k21 (A3,c3,B2,_) a _ (⟨by rw [Ek hc4,List.length_append];exact hA2,by rw [Ek hc4,List.length_append];exact hle3.1⟩) (S.sel [1,2,3,4,5] G G) (H.keep [8,3,4,6,7,9,10,11,13,21,22] rfl)
   rw [Ej u J d x hx9] at hc4
   refine wp_skip ?_
   replace S:=boxM.same S (i:=0) rfl (cs':=[.int .i64 (bsum (runB' u J) (d+1)),.int .i64 (bsum (certB u J) (d+1))]) (by rw [←Li (f:=runB' u J) (n:=d) hc4] <;> rfl)
   rw [←wZ hc4] at H
   exact k21 (A9,c9,B9,wz) a _ (⟨by rw [wZ hc4];exact hrd,by rw [wZ hc4];exact hcap⟩) (S.sel [0,1,2,3,4] G G) (H.keep [8,3,4,6,7,9,10,11,13,21,22] rfl)
  clear SR H S a
  intro xm a wm hp S H
  obtain ⟨A8,c8,B8,wy⟩:=xm
  rw [show Value.bool (decide (J d/2^(2:Int).toNat%2=1))=Value.bool (renw (J d)) from rfl] at H
  replace H:=H.keep [3,4,6,7,8,9,10,11,13,21,22] rfl
  refine sS H fun K25 k25=>sr 1 rfl<|sE ?_;clear H a;intro a H
  refine k25 _ ?_;clear k25 K25
  refine cond_ H rfl (fun hc5=>?_) (fun hc5=>?_)
  ·skip
   skip
   refine sO H<|sr 3 rfl<|sE ?_;clear H a;intro a H
   refine k9 _ _ ?_
   refine sO H<|sd (aK G G (by unfold i64ok;omega))<|sr 1 rfl<|sE ?_;clear H a;intro a H
   have hp8:=hp
   exact k6 (g1-1) (d+1,⟨[],(d:Int),x⟩,none,0,B8,wy) a _ (by omega) (⟨⟨by omega,by omega⟩,⟨RdF.nil,Nat.le_refl 0⟩,Ut hc5 hx9⟩) (S.sel [0,1,2,3,4] G G) (H.keep [8,9,10,22,3,4,6,7,21] rfl)
  skip
  refine wp_skip ?_
  refine k9 _ _ ?_
  refine sO H<|sd (aK G G (by unfold i64ok;omega))<|sr 1 rfl<|sE ?_;clear H a;intro a H
  have hp8:=hp
  exact k6 (g1-1) (d+1,⟨usesN u J d,(lifeS u J d).born,x⟩,A8,c8,B8,wy) a _ (by omega) (⟨⟨by omega,by omega⟩,hp8,Uu hc5 hx9⟩) (S.sel [0,1,2,3,4] G G) (H.keep [8,9,10,22,3,4,6,7,21] rfl)
 refine wp_exit ?_
 refine k4 _ _ ?_
 replace H:=H.keep [6,7] rfl
 refine seq_list fun K29 k29=>?_
 refine ls 1 H<|sd ((aB hX eI rfl S (i:=0) G G))<|sE ?_;clear H a;intro a H
 refine aC H S (i:=2) G G G G eI G G ?_
 clear H a S;intro _ a S H
 refine k29 _ _ ?_;clear k29 K29
 refine wp_ret ?_
 refine retA (fn:=Tryz.f125) rfl H rfl hX (by exact eI) (cA S (i:=2) rfl) ?_
 obtain rfl:d=dy:=by omega
 exact ⟨rfl,(S.sel [] G G)⟩
end
section
theorem keyOK:KeyOk Tryz.prog 241 (encN (n:=21)):=
  Pk (Lf Tryz.underlying241 rP (.cons (by decide) rfl (PartK.int2 Tryz.underlying3 aE) (.cons (by decide) rfl (PartK.of (Le Tryz.underlying239 Jj (PartK.int Tryz.underlying3 aE) bF)) (.nil 21))) (by kernel_rfl)) (by omega) (by rw [Tryz.underlying241])
theorem YIn.nowR {w w0:World} {F0:Nat→Prop} {R:List Mem} {y:Yr} (h:YIn w0 F0 y) (S:St w0 F0 R w):YIn w (fps R) y:=
  ⟨h.ps.nowR S,h.xs.nowR S,h.pe.nowR S,h.prs.nowR S,h.us.nowR S,h.sps.nowR S,fun k hk=>(h.rt k hk).nowR S,fun k hk=>(h.ul k hk).nowR S⟩
theorem YOk.days {y:Yr} (h:YOk y):1≤y.days∧y.days≤20:=h.yr.1
theorem YOk.unit {y:Yr} (h:YOk y) {i:Nat} (hi:i<y.us.length):UntOk y.ps y.us (y.us.getD i Unt.zero) i:=lP.1 (h.un i hi)
theorem YOk.old {y:Yr} (h:YOk y) {i:Nat} (hi:i<y.us.length):0≤(y.us.getD i Unt.zero).old:=by
  have h1:=h.unit hi
  have h2:=tR h1.wear
  have h3:=h1.i
  unfold untI at h3
  omega
theorem Rh (y:Yr) (w:World) :
    Calls Tryz.prog 40 [.agg [.int .i64 y.days,.int .i64 y.pl,.slice y.PA y.ps.length y.pc,.slice y.XA y.xs.length y.xc,.slice y.BA y.pe.length y.bc,.int .i64 y.limit,.bool y.help,.slice y.QA y.prs.length y.qc,.slice y.VA y.us.length y.vc,.int .i64 y.crew,.slice y.SA y.sps.length y.sc].toArray].toArray w (Ret (fun v w'=>∃ cb bl bs bk,v = .pointer (some ⟨cb,0,none⟩)∧St w noF [boxM cb 204 [.int .i64 y.days,.int .i64 y.pl,.slice y.PA y.ps.length y.pc,.slice y.XA y.xs.length y.xc,.slice y.BA y.pe.length y.bc,.int .i64 y.limit,.bool y.help,.slice y.QA y.prs.length y.qc,.slice y.VA y.us.length y.vc,.int .i64 y.crew,.slice y.SA y.sps.length y.sc,.map (some bl),.map (some bs),.map (some bk)],mapK (encN (n:=21)) bl (livP y),mapK (fun n:Int=>Value.int .i64 n) bs (safP y),mapK enc2 bk (kepP y)] w')):=by
 refine enter Tryz.func40 rfl Tryz.ntmps40 rfl (fun a H=>?_)
 have S:=St.start w
 refine seq_list fun K1 k1=>?_
 refine aN H rfl S G G ?_;clear H a S;intro b1 _ a hb1 hbw1 S H
 refine ls 1 H<|sr 1 rfl<|sE ?_;clear H a;intro a H
 refine k1 _ _ ?_;clear k1 K1
 refine seq_list fun K2 k2=>?_
 refine ls 1 H<|sd ((aB eN fG rfl S (i:=0) G G))<|sE ?_;clear H a;intro a H
 refine fL (encN (n:=21)) (livP y) Gt H rfl S ?_;clear H a S;intro bl _ a hbl S H
 refine fL (fun n:Int=>Value.int .i64 n) (safP y) Gu H rfl S ?_;clear H a S;intro bs _ a hbs S H
 refine fL enc2 (kepP y) Gv H rfl S ?_;clear H a S;intro bk _ a hbk S H
 refine ls 1 H<|sd (aO Uc G G)<|sE ?_;clear H a;intro a H
 refine aN H rfl S G G ?_;clear H a S;intro b8 _ a hb8 hbw8 S H
 refine ls 1 H<|sr 1 rfl<|sE ?_;clear H a;intro a H
 refine k2 _ _ ?_;clear k2 K2
 refine wp_ret ?_
 refine ret1 (fn:=Tryz.f40) rfl H rfl ?_
 exact ⟨b8,bl,bs,bk,rfl,(S.sel [0,3,2,1] G G)⟩
theorem Mp (y:Yr) (cb bl bs bk:Nat) (i:Nat) (l:List Tsk) (LA:Option Addr) (lc:Nat) (w:World) (F:Nat→Prop) (S:St w F [boxM cb 204 [.int .i64 y.days,.int .i64 y.pl,.slice y.PA y.ps.length y.pc,.slice y.XA y.xs.length y.xc,.slice y.BA y.pe.length y.bc,.int .i64 y.limit,.bool y.help,.slice y.QA y.prs.length y.qc,.slice y.VA y.us.length y.vc,.int .i64 y.crew,.slice y.SA y.sps.length y.sc,.map (some bl),.map (some bs),.map (some bk)],mapK (encN (n:=21)) bl (livP y),mapK (fun n:Int=>Value.int .i64 n) bs (safP y),mapK enc2 bk (kepP y)] w) (hy:YIn w F y) (hyb:YBd y) (hok:YOk y) (hi:i<y.us.length) (hl:InS w F 3 LA l.length (jL l)) (hln:l.length≤9223372036854775807) (htk:∀ k,k<l.length→tskI y (l.getD k Tsk.zero)) :
    Calls Tryz.prog 84 [.pointer (some ⟨cb,0,none⟩),.int .i64 (i:Int),.slice LA l.length lc].toArray w (Ret (fun v w'=>v=lifeV (y.us.getD i Unt.zero) (jobF l i) y.days.toNat∧St w F [boxM cb 204 [.int .i64 y.days,.int .i64 y.pl,.slice y.PA y.ps.length y.pc,.slice y.XA y.xs.length y.xc,.slice y.BA y.pe.length y.bc,.int .i64 y.limit,.bool y.help,.slice y.QA y.prs.length y.qc,.slice y.VA y.us.length y.vc,.int .i64 y.crew,.slice y.SA y.sps.length y.sc,.map (some bl),.map (some bs),.map (some bk)],mapK (encN (n:=21)) bl (livP y),mapK (fun n:Int=>Value.int .i64 n) bs (safP y),mapK enc2 bk (kepP y)] w')):=by
 have hmx:maxLen=9223372036854775807:=rfl
 have hdy:=hok.days;have husn:=hyb.usn
 have hD:((y.days.toNat:Nat):Int)=y.days:=by omega
 refine enter Tryz.func84 rfl Tryz.ntmps84 rfl (fun a H=>?_)
 skip
 refine seq_list fun K1 k1=>?_
 refine aI H rfl S lL ?_;clear H a S;intro b6 _ a hb6 hbw6 S H
 refine k1 _ _ ?_;clear k1 K1
 refine seq_list fun K2 k2=>?_
 refine ls 2 H<|sr 1 rfl<|sd (aO Ug G G)<|sE ?_;clear H a;intro a H
 refine aI H rfl S Kd ?_;clear H a S;intro b7 _ a hb7 hbw7 S H
 refine aC H S (i:=0) G G G G rP G G ?_
 clear H a S;intro _ a S H
 refine k2 _ _ ?_;clear k2 K2
 refine wp_seq_k fun K3 k3=>?_
 replace S:=boxM.same S (i:=0) rfl (cs':=[.int .i64 (i:Int),.int .i64 0,.int .i64 0,.int .i64 0,.int .i64 0,.int .i64 0,.int .i64 0,.int .i64 0,.int .i64 0,.int .i64 0,.int .i64 0,.int .i64 0,.int .i64 0,.int .i64 0,.int .i64 0,.int .i64 0,.int .i64 0,.int .i64 0,.int .i64 0,.int .i64 0,.int .i64 0]) rfl
 replace S:=Lj S (i:=0) rfl (by show 21≤maxLen;decide)
 replace S:=S.recell (i:=0) rfl (cell':=kcl i (jobP l 0 i)) (fun k j hk hj=>Lo hk hj)
 refine sS H fun K4 k4=>sr 1 rfl<|sL eK rfl<|sr 1 rfl<|sE ?_;clear H a;intro a H
 refine k4 _ ?_;clear k4 K4
 refine wp_block ?_
 refine loop_st (X:=Nat) (R0:=_) [0,1,6,7,14,15] H rfl (fun k=>[(16,.int .i64 (k:Int))]) (fun k=>[ownM 241 1 (some ⟨b7,0,none⟩) 21 21 (kcl i (jobP l k i))]) (fun g k=>k≤l.length∧g+k=l.length) (l.length) 0 ?_ (S.sel [0,1,2,3,4,5] G G) (H.keep [16,0,1,6,7,14,15] rfl) ?_
 · exact ⟨by omega,by omega⟩
 clear H S a
 intro g1 x1 a w1 hp S H K5 k5
 obtain ⟨k,rfl⟩:∃ y,y=x1:=⟨_,rfl⟩
 refine sS H fun K6 k6=>sr 1 rfl<|sE ?_;clear H a;intro a H
 refine k6 _ ?_;clear k6 K6
 refine wp_seq_k fun K7 k7=>?_
 refine condL H rfl (fun hc1=>?_) (fun hc1=>?_)
 ·skip
  refine wp_skip ?_
  refine k7 _ _ ?_
  refine wp_seq_k fun K8 k8=>?_
  refine wp_block ?_
  refine seq_list fun K9 k9=>?_
  refine ls 2 H<|si eK eF G G (hl.adr (by omega)) (by omega)<|sd ((aT pC eF rfl S hl (by omega) (by omega)))<|sE ?_;clear H a;intro a H
  refine aI H rfl S Sy ?_;clear H a S;intro b9 _ a hb9 hbw9 S H
  refine aC H S (i:=0) G G G G eF G G ?_
  clear H a S;intro _ a S H
  refine k9 _ _ ?_;clear k9 K9
  have htt:=htk k (by omega);unfold tskI at htt
  refine sS H fun K10 k10=>sf dN rfl<|sl S 0 aE G G G<|sr 2 rfl<|sE ?_;clear H a;intro a H
  refine k10 _ ?_;clear k10 K10
  refine condE H rfl (fun hc2=>?_) (fun hc2=>?_)
  ·skip
   replace H:=H.keep [0,1,6,7,9,14,15,16] rfl
   refine nK 11 (by kernel_rfl) (by kernel_rfl) ?_
   replace S:=S.drew
   refine sF H<|sf dF rfl<|sl S 0 aE G G G<|sf sH rfl<|sd ((eD Tryz.underlying239 bF G G (by omega) (by omega)).to (v' := .pointer (some (pt (some ⟨b7,0,none⟩) 1 ((l.getD k Tsk.zero).day.toNat+1) 0))) (congrArg (fun o=>Value.pointer (some ⟨b7,o,none⟩)) (show 0+1+(l.getD k Tsk.zero).day.toNat*1=0+((l.getD k Tsk.zero).day.toNat+1)*1+0 by omega)))<|slm aE rfl (ownM.rd S (i:=1) (k:=(l.getD k Tsk.zero).day.toNat+1) (j:=0) rfl (by omega) (by omega))<|sf fN rfl<|sl S 0 aE G G G<|sd (eR G G (by omega) (by omega) (Pv htt.2.2))<|sd (Ll G G (Gq _ _ _) (by omega))<|sf sH rfl<|sd ((eD Tryz.underlying239 bF G G (by omega) (by omega)).to (v' := .pointer (some (pt (some ⟨b7,0,none⟩) 1 ((l.getD k Tsk.zero).day.toNat+1) 0))) (congrArg (fun o=>Value.pointer (some ⟨b7,o,none⟩)) (show 0+1+(l.getD k Tsk.zero).day.toNat*1=0+((l.getD k Tsk.zero).day.toNat+1)*1+0 by omega)))<|sE ?_;clear H a;intro a H
   refine cT H S (i:=1) G G G (by omega) (by omega) bF rfl ?_
   clear H a S;intro _ a S H
   refine k8 _ _ ?_
   replace H:=H.keep [0,1,6,7,14,15,16] rfl
   refine sO H<|sd (aK G G (by unfold i64ok;omega))<|sr 1 rfl<|sE ?_;clear H a;intro a H
   replace S:=S.recell (i:=1) rfl (cell':=kcl i (jobP l (k+1) i)) (fun k9 j9 hk9 hj9=>Px (d:=(l.getD k Tsk.zero).day.toNat) (by omega) htt.2.2 (by omega) (by omega) k9 j9 hj9)
   exact k5 (g1-1) (k+1) a _ (by omega) (⟨by omega,by omega⟩) (S.sel [1,2,3,4,5,6] G G) (H.keep [16,0,1,6,7,14,15] rfl)
  refine wp_skip ?_
  refine k8 _ _ ?_
  refine sO H<|sd (aK G G (by unfold i64ok;omega))<|sr 1 rfl<|sE ?_;clear H a;intro a H
  rw [←Pw (l:=l) (n:=k) (i:=i) (by omega) htt.2.2 (by omega)] at S
  exact k5 (g1-1) (k+1) a _ (by omega) (⟨by omega,by omega⟩) (S.sel [1,2,3,4,5,6] G G) (H.keep [16,0,1,6,7,14,15] rfl)
 refine wp_exit ?_
 refine k3 _ _ ?_
 obtain rfl:k=l.length:=by omega
 rw [Ln] at S
 replace S:=Pu S (i:=0) rfl
 obtain ⟨h0,hh0,S⟩:=mapK.fix S (i:=3) rfl
 rcases hk0:h0 (keyOf i (jobF l i)) with _|v0
 ·skip
  skip
  replace H:=H.keep [0,1,6,7] rfl
  replace S:=S.drew
  refine seq_wq [(0,true),(1,true),(2,true),(3,true),(4,true),(5,true),(6,true),(7,true),(8,true),(9,false),(10,false),(11,true)] (by kernel_rfl) (by kernel_rfl) (S.sel [0,1,2,3,4,5] G G) fun K14 k14=>?_
  refine qF H<|qr 2 rfl<|qd rfl (fun _ S=>(aD sC rfl))<|qd rfl (fun _ S=>aG vZ rfl (boxM.rd S (i:=2) G G))<|qd rfl (fun _ S=>(aB wB rP rfl S (i:=0) G G))<|qd rfl (fun _ S=>lO S (i:=3) rfl Bk keyOK Kk rfl (k:=keyOf i (jobF l i)) rfl (fun h e=>by subst e;rw [hk0];exact ⟨rfl,rfl⟩))<|qr 3 rfl<|qK ?_;clear H a;intro a H
  refine aU rfl ?_
  refine aI H rfl S lL ?_;clear H a S;intro b10 _ a hb10 hbw10 S H
  refine wpList_nil (And.intro (S.sel [1,2,3,4,5,6] G G) ?_)
  refine aU rfl ?_
  refine aC H S (i:=0) G G G G eI G G ?_
  clear H a S;intro _ a S H
  refine wpList_nil (And.intro (S.sel [1,2,3,4,5,6] G G) ?_)
  refine qF H<|qr 1 rfl<|qK ?_;clear H a;intro a H
  refine bM ?_
  refine k14 _ _ ?_
  clear k14 K14
  refine wp_seq_k fun K15 k15=>?_
  replace H:=H.keep [0,1,6,7,10,11] rfl
  refine sS H fun K16 k16=>sr 2 rfl<|sE ?_;clear H a;intro a H
  refine k16 _ ?_;clear k16 K16
  refine cond_ H rfl (fun hc3=>?_) (fun hc3=>?_)
  ·skip
   skip
   replace H:=H.keep [0,1,6,7,10] rfl
   replace S:=S.drew
   refine seq_wq [(0,true),(1,true),(2,true),(3,true),(4,true),(5,true),(6,true),(7,true),(8,true),(9,true),(10,true),(11,true),(12,true),(13,true),(14,true),(15,false),(16,false)] (by kernel_rfl) (by kernel_rfl) (S.sel [1,2,3,4,5,6] G G) fun K17 k17=>?_
   refine qF H<|qr 2 rfl<|qd rfl (fun _ S=>(aD yR rfl))<|qd rfl (fun _ S=>(aD cD rfl))<|qd rfl (fun _ S=>aG dH rfl (boxM.rd S (i:=2) G G))<|qr 1 rfl<|qd rfl (fun _ S=>bP eJ fY G G (hy.us.adr (by omega)) (by omega))<|qd rfl (fun _ S=>(aT mV fY rfl S hy.us (by omega) (by omega)))<|qd rfl (fun _ S=>(aD sH rfl))<|qd rfl (fun _ S=>(aB Oq Jj rfl S (i:=0) G G))<|qr 2 rfl<|qd rfl (fun _ S=>(aD yR rfl))<|qd rfl (fun _ S=>(aD dD rfl))<|qd rfl (fun _ S=>aG aE rfl (boxM.rd S (i:=2) G G))<|qK ?_;clear H a;intro a H
   refine aU rfl ?_
   rw [←hD] at H
   refine aA H G G Tryz.func125 G G (Rg (y.us.getD i Unt.zero) (jobF l i) y.days.toNat _ ((hy.rt i hi).now S) (hyb.rtn hi) ((hy.ul i hi).now S) (hyb.uln hi) (hyb.cap i hi) (hok.unit hi).i (hok.old hi) (fun d=>Pt _ _ _) (by omega)) ?_;clear H a
   rintro _ _ a ⟨rfl,S2⟩ H
   replace S:=S.call S2;clear S2
   refine wpList_nil (And.intro (S.sel [1,2,3,4,5,6] G G) ?_)
   refine aU rfl ?_
   refine aC H S (i:=0) G G G G eI G G ?_
   clear H a S;intro _ a S H
   refine wpList_nil (And.intro (S.sel [1,2,3,4,5,6] G G) ?_)
   refine bM ?_
   refine k17 _ _ ?_
   clear k17 K17
   replace H:=H.keep [0,6,7,10] rfl
   refine nK 6 (by kernel_rfl) (by kernel_rfl) ?_
   replace S:=S.drew
   refine sF H<|sr 2 rfl<|sf sC rfl<|sl S 3 vZ G G G<|sd ((aB wB rP rfl S (i:=1) G G))<|sd ((aB hX eI rfl S (i:=0) G G))<|sE ?_;clear H a;intro a H
   refine fQ (k:=keyOf i (jobF l i)) (livP y) H S (i:=4) rfl Bk keyOK G G G (fun h e=>by subst e;exact Lp (by omega) rfl h hh0) ?_;clear H a S;intro _ a S H
   refine k15 _ _ ?_
   refine seq_list fun K19 k19=>?_
   refine ls 1 H<|sd ((aB hX eI rfl S (i:=0) G G))<|sE ?_;clear H a;intro a H
   refine aC H S (i:=2) G G G G eI G G ?_
   clear H a S;intro _ a S H
   refine k19 _ _ ?_;clear k19 K19
   refine wp_ret ?_
   refine retA (fn:=Tryz.f84) rfl H rfl hX (by exact eI) (cA S (i:=2) rfl) ?_
   exact ⟨rfl,(S.sel [3,4,5,6] G G)⟩
  skip
  cases hc3
 obtain rfl:=hh0 _ _ _ hi hk0
 replace H:=H.keep [0,1,6,7] rfl
 replace S:=S.drew
 refine seq_wq [(0,true),(1,true),(2,true),(3,true),(4,true),(5,true),(6,true),(7,true),(8,true),(9,false),(10,false),(11,true)] (by kernel_rfl) (by kernel_rfl) (S.sel [0,1,2,3,4,5] G G) fun K20 k20=>?_
 refine qF H<|qr 2 rfl<|qd rfl (fun _ S=>(aD sC rfl))<|qd rfl (fun _ S=>aG vZ rfl (boxM.rd S (i:=2) G G))<|qd rfl (fun _ S=>(aB wB rP rfl S (i:=0) G G))<|qd rfl (fun _ S=>lO S (i:=3) rfl Bk keyOK Kk rfl (k:=keyOf i (jobF l i)) rfl (fun h e=>by subst e;rw [hk0];exact ⟨rfl,rfl⟩))<|qr 3 rfl<|qK ?_;clear H a;intro a H
 refine aU rfl ?_
 refine aI H rfl S lL ?_;clear H a S;intro b10 _ a hb10 hbw10 S H
 refine wpList_nil (And.intro (S.sel [1,2,3,4,5,6] G G) ?_)
 refine aU rfl ?_
 refine aC H S (i:=0) G G G G eI G G ?_
 clear H a S;intro _ a S H
 refine wpList_nil (And.intro (S.sel [1,2,3,4,5,6] G G) ?_)
 refine qF H<|qr 1 rfl<|qK ?_;clear H a;intro a H
 refine bM ?_
 refine k20 _ _ ?_
 clear k20 K20
 refine wp_seq_k fun K21 k21=>?_
 replace H:=H.keep [0,1,6,7,10,11] rfl
 refine sS H fun K22 k22=>sr 2 rfl<|sE ?_;clear H a;intro a H
 refine k22 _ ?_;clear k22 K22
 refine cond_ H rfl (fun hc4=>?_) (fun hc4=>?_)
 ·skip
  skip
  cases hc4
 skip
 refine wp_skip ?_
 refine k21 _ _ ?_
 refine seq_list fun K23 k23=>?_
 refine ls 1 H<|sd ((aB hX eI rfl S (i:=0) G G))<|sE ?_;clear H a;intro a H
 refine aC H S (i:=2) G G G G eI G G ?_
 clear H a S;intro _ a S H
 refine k23 _ _ ?_;clear k23 K23
 refine wp_ret ?_
 refine retA (fn:=Tryz.f84) rfl H rfl hX (by exact eI) (cA S (i:=2) rfl) ?_
 replace S:=mapK.weak S (i:=4) rfl (Φ':=livP y) (fun g e=>by subst e;exact hh0)
 exact ⟨rfl,(S.sel [3,4,5,6] G G)⟩
end
section
section
variable {y:Yr} {d out:Int} {k:Nat} {b:Bool} {e:Int}
end
end
end Go.Proofs.YtinghmelkmblmaaGreat
