/- Part 3 of the proof. -/
import Derived.Test.YtopmadlgolnmfaaGreatQcb
namespace Go.Proofs.YtopmadlgolnmfaaGreat
open Go.RowKit
set_option linter.unusedVariables false
set_option linter.unusedSimpArgs false
set_option maxRecDepth 100000
set_option maxHeartbeats 4000000
section
theorem tG (rates:List (Int×Int)) (pwn ptn pag:Int) (RA:Option Addr) (rcp:Nat) (l:List Use) (A:Option Addr) (cp:Nat) (w:World) (hr:InS w noF 2 RA rates.length (scell rates)) (hrn:rates.length≤9223372036854775807) (hl:InS w noF 6 A l.length (ucell l)) (hn:l.length≤9223372036854775807) (hok:PartOk (⟨rates,pwn,ptn,pag⟩:Part) l) :
    Calls Tryz.prog 98 [.agg [.slice RA rates.length rcp,.int .i64 pwn,.int .i64 ptn,.int .i64 pag].toArray,.slice A l.length cp].toArray w (Ret (fun v w'=>∃ n A' c',IsAt (⟨rates,pwn,ptn,pag⟩:Part) l n∧v = .tuple #[.slice A' n c',.int .i64 (n:Int)]∧St w noF [ownM 79 2 A' n c' (fcell (fun q=>fwd (⟨rates,pwn,ptn,pag⟩:Part) l (q+1)))] w')):=by
 refine enter Tryz.func98 rfl Tryz.ntmps98 rfl (fun a H=>?_)
 have S:=St.start w
 refine aA fun K1 k1=>?_
 refine aP H rfl S G G ?_;clear H a S;intro b2 _ a hb2 hbw2 S H
 refine ls 2 H<|sr 2 rfl<|sE ?_;clear H a;intro a H
 refine k1 _ _ ?_;clear k1 K1
 refine aA fun K2 k2=>?_
 refine aM H rfl S eT ?_;clear H a S;intro b6 _ a hb6 hbw6 S H
 refine k2 _ _ ?_;clear k2 K2
 refine wp_seq_k fun K3 k3=>?_
 refine sS H fun K4 k4=>sr 1 rfl<|sL cG rfl<|sr 1 rfl<|sE ?_;clear H a;intro a H
 refine k4 _ ?_;clear k4 K4
 refine wp_block ?_
 replace S:=S.newNil 79 2 (fcell (fun q=>fwd (⟨rates,pwn,ptn,pag⟩:Part) l (q+1)))
 refine loop_st (X:=Nat×Option Addr×Nat) (R0:=_) [1,2,6,11,12] H rfl (fun ⟨k,A',c'⟩=>[(4,.slice A' k c'),(13,.int .i64 (k:Int))]) (fun ⟨k,A',c'⟩=>[boxM b6 79 [.int .i64 (fwd (⟨rates,pwn,ptn,pag⟩:Part) l k).1,.int .i64 (fwd (⟨rates,pwn,ptn,pag⟩:Part) l k).2],ownM 79 2 A' k c' (fcell (fun q=>fwd (⟨rates,pwn,ptn,pag⟩:Part) l (q+1)))]) (fun g ⟨k,A',c'⟩=>k≤l.length∧g+k=l.length∧∀ q,q<k→fits (⟨rates,pwn,ptn,pag⟩:Part) l q) (l.length) (0,none,0) ?_ (S.sel [1,0,2] G G) (H.keep [4,13,1,2,6,11,12] rfl) ?_
 · exact ⟨by omega,by omega,fun q hq=>by omega⟩
 clear H S a
 intro g1 x1 a w1 hp S H K5 k5
 obtain ⟨k,A',c'⟩:=x1
 dsimp only at hp S H
 refine sS H fun K6 k6=>sr 1 rfl<|sE ?_;clear H a;intro a H
 refine k6 _ ?_;clear k6 K6
 refine wp_seq_k fun K7 k7=>?_
 refine condL H rfl (fun hc1=>?_) (fun hc1=>?_)
 ·skip
  refine wp_skip ?_
  refine k7 _ _ ?_
  refine wp_seq_k fun K8 k8=>?_
  refine wp_block ?_
  have hu:=hok.use (k:=k) (by omega);unfold useOk at hu;simp only [decide_eq_true_eq] at hu
  have hgb:=kO hok (k:=k) (by omega)
  have hcls:0≤(l.getD k Use.zero).cls∧(l.getD k Use.zero).cls<rates.length:=by
    have:((⟨rates,pwn,ptn,pag⟩:Part).rates.length:Int)=rates.length:=rfl
    omega
  have hll:=hok.len
  have hfb:=Ar hok k (by omega)
  refine aA fun K9 k9=>?_
  refine ls 3 H<|sr 1 rfl<|si cG bV G G (hl.adr (by omega)) (by omega)<|sd ((aU jE bV rfl S hl (by omega) (by omega)))<|sE ?_;clear H a;intro a H
  refine aM H rfl S fZ ?_;clear H a S;intro b8 _ a hb8 hbw8 S H
  refine ls 1 H<|sr 1 rfl<|sE ?_;clear H a;intro a H
  refine aH H S (i:=0) G G G G bV G G ?_
  clear H a S;intro _ a S H
  refine k9 _ _ ?_;clear k9 K9
  replace H:=H.keep [1,2,4,6,7,8,11,12,13] rfl
  refine aA fun K10 k10=>?_
  refine ls 2 H<|sd ((aD dE dV rfl S (i:=3) G G))<|sd ((aD jE bV rfl S (i:=0) G G))<|sE ?_;clear H a;intro a H
  refine aC H G G Tryz.func99 G G (iD rates pwn ptn pag RA rcp (l.getD k Use.zero) _ (hr.now S) hrn hcls (by unfold i64ok;omega) (by unfold i64ok;omega)) ?_;clear H a
  rintro _ _ a ⟨rfl,S2⟩ H
  replace S:=S.call S2;clear S2
  refine aM H rfl S eT ?_;clear H a S;intro b9 _ a hb9 hbw9 S H
  refine aH H S (i:=0) G G G G bC G G ?_
  clear H a S;intro _ a S H
  refine k10 _ _ ?_;clear k10 K10
  replace H:=H.keep [1,2,4,6,7,8,9,11,12,13] rfl
  refine aA fun K11 k11=>?_
  refine ls 11 H<|sf cD rfl<|sl S 2 aB G G G<|sf cD rfl<|sl S 0 aB G G G<|sd (aG G G (by unfold i64ok;omega))<|sf bW rfl<|sl S 2 aB G G G<|sf bW rfl<|sl S 0 aB G G G<|sd (aG G G (by unfold i64ok;omega))<|sd (aN kL G G)<|sE ?_;clear H a;intro a H
  refine aH H S (i:=2) G G G G bC G G ?_
  clear H a S;intro _ a S H
  refine k11 _ _ ?_;clear k11 K11
  refine wp_seq_k fun K12 k12=>?_
  replace H:=H.keep [1,2,4,6,7,8,11,12,13] rfl
  refine sS H fun K13 k13=>sf lR rfl<|sl S 1 iV G G G<|sE ?_;clear H a;intro a H
  refine k13 _ ?_;clear k13 K13
  refine aT H rfl (fun hc2=>?_) (fun hc2=>?_)
  ·skip
   try simp only [o1,o2,o3,o4,o5,o6,o7,o8,o9,oa] at hc2
   refine sS H fun K14 k14=>sr 1 rfl<|sE ?_;clear H a;intro a H
   refine k14 _ ?_;clear k14 K14
   replace H:=H.keep [1,2,4,6,7,8,11,12,13] rfl
   refine aA fun K15 k15=>?_
   refine ls 3 H<|sd ((aD eK bC rfl S (i:=2) G G))<|sf fR rfl<|sd ((aD eK bC rfl S (i:=1) G G))<|sE ?_;clear H a;intro a H
   refine aC H G G Tryz.func100 G G (iC _ _ _ _ _) ?_;clear H a
   rintro _ _ a ⟨rfl,S2⟩ H
   replace S:=S.call S2;clear S2
   refine ls 3 H<|sr 3 rfl<|sE ?_;clear H a;intro a H
   refine aH H S (i:=2) G G G G bC G G ?_
   clear H a S;intro _ a S H
   refine ls 1 H<|sr 1 rfl<|sE ?_;clear H a;intro a H
   refine k15 _ _ ?_;clear k15 K15
   replace H:=H.keep [1,2,4,6,7,10,11,12,13] rfl
   refine sS H fun K16 k16=>sr 2 rfl<|sE ?_;clear H a;intro a H
   refine k16 _ ?_;clear k16 K16
   refine aT H rfl (fun hc3=>?_) (fun hc3=>?_)
   ·skip
    try simp only [o1,o2,o3,o4,o5,o6,o7,o8,o9,oa] at hc3
    refine sS H fun K17 k17=>sr 4 rfl<|sE ?_;clear H a;intro a H
    refine k17 _ ?_;clear k17 K17
    refine wp_ret ?_
    refine ret2 (fn:=Tryz.f98) rfl H G G ?_
    refine ⟨k,A',c',⟨by omega,hp.2.2,fun _ hf=>?_⟩,rfl,(S.sel [3] G G)⟩
    have h9:=hf hc2
    rw [wL hc2] at h9
    exact absurd h9 (Int.not_le.2 hc3)
   try simp only [o1,o2,o3,o4,o5,o6,o7,o8,o9,oa] at hc3
   refine wp_skip ?_
   refine k12 _ _ ?_
   have e9:=(by first|exact wL (p:=(⟨rates,pwn,ptn,pag⟩:Part)) hc2|exact uE (p:=(⟨rates,pwn,ptn,pag⟩:Part)) hc2:fwd (⟨rates,pwn,ptn,pag⟩:Part) l (k+1)=_)
   replace H:=H.keep [1,2,4,6,11,12,13] rfl
   refine cE ?_
   refine ls 2 H<|sr 1 rfl<|sd ((aD eK bC rfl S (i:=2) G G))<|sE ?_;clear H a;intro a H
   refine aL H rfl S cY bC eT G G G G G G G G G ?_;clear H a S;intro A1 _ a hA1 S H
   refine aY H rfl S cY bC eT Ie G G (i:=4) G G G (ownM.inS S (i:=0) rfl) (jR (two G G)) (by omega) (by omega) ?_;clear H a S;intro A2 c2 _ a S H
   replace S:=S.recell (i:=4) rfl (cell':=fcell (fun q=>fwd (⟨rates,pwn,ptn,pag⟩:Part) l (q+1))) (wM (two (by show _=Value.int .i64 (fwd (⟨rates,pwn,ptn,pag⟩:Part) l (k+1)).1;rw [e9];rfl) (by show _=Value.int .i64 (fwd (⟨rates,pwn,ptn,pag⟩:Part) l (k+1)).2;rw [e9];rfl)))
   refine ls 1 H<|sr 1 rfl<|sE ?_;clear H a;intro a H
   refine k8 _ _ ?_
   refine sO H<|sd (aG G G (by unfold i64ok;omega))<|sr 1 rfl<|sE ?_;clear H a;intro a H
   replace S:=boxM.same S (i:=3) (cs':=[.int .i64 (fwd (⟨rates,pwn,ptn,pag⟩:Part) l (k+1)).1,.int .i64 (fwd (⟨rates,pwn,ptn,pag⟩:Part) l (k+1)).2]) rfl (by rw [e9];rfl)
   exact k5 (g1-1) (k+1,_,_) a _ (by omega) (⟨by omega,by omega,fun q hq=>by
     by_cases h:q=k
     · subst h;first|exact rB hc2|(intro _;rw [e9];exact hc3)
     · exact hp.2.2 q (by omega)⟩) (S.sel [3,4,5] G G) (H.keep [4,13,1,2,6,11,12] rfl)
  try simp only [o1,o2,o3,o4,o5,o6,o7,o8,o9,oa] at hc2
  refine wp_skip ?_
  refine k12 _ _ ?_
  have e9:=(by first|exact wL (p:=(⟨rates,pwn,ptn,pag⟩:Part)) hc2|exact uE (p:=(⟨rates,pwn,ptn,pag⟩:Part)) hc2:fwd (⟨rates,pwn,ptn,pag⟩:Part) l (k+1)=_)
  replace H:=H.keep [1,2,4,6,11,12,13] rfl
  refine cE ?_
  refine ls 2 H<|sr 1 rfl<|sd ((aD eK bC rfl S (i:=2) G G))<|sE ?_;clear H a;intro a H
  refine aL H rfl S cY bC eT G G G G G G G G G ?_;clear H a S;intro A3 _ a hA3 S H
  refine aY H rfl S cY bC eT Ie G G (i:=4) G G G (ownM.inS S (i:=0) rfl) (jR (two G G)) (by omega) (by omega) ?_;clear H a S;intro A4 c4 _ a S H
  replace S:=S.recell (i:=4) rfl (cell':=fcell (fun q=>fwd (⟨rates,pwn,ptn,pag⟩:Part) l (q+1))) (wM (two (by show _=Value.int .i64 (fwd (⟨rates,pwn,ptn,pag⟩:Part) l (k+1)).1;rw [e9];rfl) (by show _=Value.int .i64 (fwd (⟨rates,pwn,ptn,pag⟩:Part) l (k+1)).2;rw [e9];rfl)))
  refine ls 1 H<|sr 1 rfl<|sE ?_;clear H a;intro a H
  refine k8 _ _ ?_
  refine sO H<|sd (aG G G (by unfold i64ok;omega))<|sr 1 rfl<|sE ?_;clear H a;intro a H
  replace S:=boxM.same S (i:=3) (cs':=[.int .i64 (fwd (⟨rates,pwn,ptn,pag⟩:Part) l (k+1)).1,.int .i64 (fwd (⟨rates,pwn,ptn,pag⟩:Part) l (k+1)).2]) rfl (by rw [e9];rfl)
  exact k5 (g1-1) (k+1,_,_) a _ (by omega) (⟨by omega,by omega,fun q hq=>by
    by_cases h:q=k
    · subst h;first|exact rB hc2|(intro _;rw [e9];exact hc3)
    · exact hp.2.2 q (by omega)⟩) (S.sel [3,4,5] G G) (H.keep [4,13,1,2,6,11,12] rfl)
 refine wp_exit ?_
 refine k3 _ _ ?_
 replace H:=H.keep [1,4] rfl
 refine sS H fun K22 k22=>sr 2 rfl<|sL cG rfl<|sr 2 rfl<|sE ?_;clear H a;intro a H
 refine k22 _ ?_;clear k22 K22
 refine wp_ret ?_
 refine ret2 (fn:=Tryz.f98) rfl H G G ?_
 have hk9:k=l.length:=by omega
 subst hk9
 exact ⟨_,A',c',⟨Nat.le_refl _,hp.2.2,fun h=>absurd h (Nat.lt_irrefl _)⟩,rfl,(S.sel [1] G G)⟩
end
section
def Worn (w:World) (p:Part) (l:List Use) (v:Value) (w':World):Prop:=
  (IsAt p l l.length∧∃ A' c',v = .tuple #[.slice A' l.length c',.bool true]∧St w noF [ownM 79 2 A' l.length c' (fcell (bF p l))] w')∨(¬ IsAt p l l.length∧v = .tuple #[.slice none 0 0,.bool false]∧St w noF [] w')
theorem wN (rates:List (Int×Int)) (pwn ptn pag:Int) (RA:Option Addr) (rcp:Nat) (l:List Use) (A:Option Addr) (cp:Nat) (w:World) (hr:InS w noF 2 RA rates.length (scell rates)) (hrn:rates.length≤9223372036854775807) (hl:InS w noF 6 A l.length (ucell l)) (hn:l.length≤9223372036854775807) (hok:PartOk (⟨rates,pwn,ptn,pag⟩:Part) l) :
    Calls Tryz.prog 82 [.agg [.slice RA rates.length rcp,.int .i64 pwn,.int .i64 ptn,.int .i64 pag].toArray,.slice A l.length cp].toArray w (Ret (Worn w (⟨rates,pwn,ptn,pag⟩:Part) l)):=by
 refine enter Tryz.func82 rfl Tryz.ntmps82 rfl (fun a H=>?_)
 have S:=St.start w
 refine aA fun K1 k1=>?_
 refine aP H rfl S G G ?_;clear H a S;intro b2 _ a hb2 hbw2 S H
 refine ls 2 H<|sr 2 rfl<|sE ?_;clear H a;intro a H
 refine k1 _ _ ?_;clear k1 K1
 by_cases hA:IsAt (⟨rates,pwn,ptn,pag⟩:Part) l l.length
 ·skip
  replace H:=H.keep [1,2] rfl
  refine aA fun K2 k2=>?_
  refine ls 2 H<|sd ((aD dE dV rfl S (i:=0) G G))<|sr 1 rfl<|sE ?_;clear H a;intro a H
  refine aC H G G Tryz.func98 G G (dU (tG rates pwn ptn pag RA rcp l A cp _ (hr.now S) hrn (hl.now S) hn hok) (fun _ _ ⟨n,A',c',h1,h2,h3⟩=>(⟨A',c',by rw [h1.same hA] at h2;exact h2,by rw [h1.same hA] at h3;exact h3⟩:∃ A' c',_∧_))) ?_;clear H a
  rintro _ _ a ⟨A',c',rfl,S2⟩ H
  replace S:=S.call S2;clear S2
  refine ls 5 H<|sr 5 rfl<|sE ?_;clear H a;intro a H
  refine k2 _ _ ?_;clear k2 K2
  refine wp_seq_k fun K3 k3=>?_
  try have hnl:=hn1.le
  replace H:=H.keep [1,2,6,7] rfl
  refine sS H fun K4 k4=>sr 2 rfl<|sL cG rfl<|sr 1 rfl<|sE ?_;clear H a;intro a H
  refine k4 _ ?_;clear k4 K4
  refine condL H rfl (fun hc1=>?_) (fun hc1=>?_)
  ·skip
   all_goals (exfalso;omega)
  refine wp_skip ?_
  refine k3 _ _ ?_
  refine wp_seq_k fun K5 k5=>?_
  refine sS H fun K6 k6=>sr 1 rfl<|sL cG rfl<|sd (aS G G (by unfold i64ok;omega))<|sr 1 rfl<|sE ?_;clear H a;intro a H
  refine k6 _ ?_;clear k6 K6
  refine wp_block ?_
  have hll:=hok.len
  replace S:=S.recell (i:=0) rfl (cell':=fcell (fun q=>if (l.length:Int)-2<((q:Nat):Int) then bF (⟨rates,pwn,ptn,pag⟩:Part) l q else fwd (⟨rates,pwn,ptn,pag⟩:Part) l (q+1))) (fun q j hq hj=>by
    unfold fcell;congr 1;(try dsimp only);by_cases h1:(l.length:Int)-2<((q:Nat):Int)
    · rw [if_pos h1,lA (show q+1=l.length by omega),show q+1=l.length by omega]
    · rw [if_neg h1])
  refine loop_st (X:=Int) (R0:=_) [1,2,6] H rfl (fun i=>[(8,.int .i64 i)]) (fun i=>[ownM 79 2 A' l.length c' (fcell (fun q=>if i<((q:Nat):Int) then bF (⟨rates,pwn,ptn,pag⟩:Part) l q else fwd (⟨rates,pwn,ptn,pag⟩:Part) l (q+1)))]) (fun g i => -2≤i∧i≤(l.length:Int)-2∧g=(i+2).toNat) (l.length) ((l.length:Int)-2) ?_ (S.sel [0,1] G G) (H.keep [8,1,2,6] rfl) ?_
  · exact ⟨by omega,by omega,by omega⟩
  clear H S a
  intro g1 x1 a w1 hp S H K7 k7
  obtain ⟨i,rfl⟩:∃ y,y=x1:=⟨_,rfl⟩
  refine wp_seq_k fun K8 k8=>?_
  refine sS H fun K9 k9=>sr 2 rfl<|sE ?_;clear H a;intro a H
  refine k9 _ ?_;clear k9 K9
  refine condG H rfl (fun hc2=>?_) (fun hc2=>?_)
  ·skip
   refine wp_skip ?_
   refine k8 _ _ ?_
   refine wp_seq_k fun K10 k10=>?_
   refine wp_block ?_
   have hu:=hok.use (k:=(i+1).toNat) (by omega);unfold useOk at hu;simp only [decide_eq_true_eq] at hu
   have hgb:=kO hok (k:=(i+1).toNat) (by omega)
   have hcls:0≤(l.getD (i+1).toNat Use.zero).cls∧(l.getD (i+1).toNat Use.zero).cls<rates.length:=by
     have:((⟨rates,pwn,ptn,pag⟩:Part).rates.length:Int)=rates.length:=rfl
     omega
   have hll:=hok.len
   replace H:=H.keep [1,2,6,8] rfl
   replace S:=S.drew
   refine mI 999999 (.q 0 (.q 1 (.q 2 (.q 3 (.q 4 (.q 5 (.q 7 (.q 8 (.q 9 (.q 10 (.q 11 (.b3 6 (.b2 12 (.e 13 (.e 14 (.e 15 .nil))) 13 (.e 12 (.e 14 (.e 15 .nil)))) 12 (.b2 6 (.e 13 (.e 14 (.e 15 .nil))) 13 (.e 6 (.e 14 (.e 15 .nil)))) 13 (.b2 6 (.e 12 (.e 14 (.e 15 .nil))) 12 (.e 6 (.e 14 (.e 15 .nil)))))))))))))))) (by kernel_rfl) (by kernel_rfl) (S.sel [0,1] G G) fun K11 k11=>?_
   refine aI H G G (fun _ S=>(aD dE dV rfl S (i:=1) G G)) ?_;clear H a;intro a H
   refine aI H G G (fun _ S=>aJ rfl) ?_;clear H a;intro a H
   refine aI H G G (fun _ S=>aJ rfl) ?_;clear H a;intro a H
   refine aI H G G (fun _ S=>aG G G (by unfold i64ok;omega)) ?_;clear H a;intro a H
   refine aI H G G (fun _ S=>bP cG bV G G (hl.adr (by omega)) (by omega) (by omega)) ?_;clear H a;intro a H
   refine aI H G G (fun _ S=>(aU jE bV rfl S hl (by omega) (by omega))) ?_;clear H a;intro a H
   refine aI H G G (fun _ S=>aJ rfl) ?_;clear H a;intro a H
   refine aI H G G (fun _ S=>aJ rfl) ?_;clear H a;intro a H
   refine aI H G G (fun _ S=>aG G G (by unfold i64ok;omega)) ?_;clear H a;intro a H
   refine aI H G G (fun _ S=>bP cY bC G G (ownM.adr S (i:=0) rfl (by omega)) (by omega) (by omega)) ?_;clear H a;intro a H
   refine aI H G G (fun _ S=>eB (vs:=[.int .i64 (bF (⟨rates,pwn,ptn,pag⟩:Part) l (i+1).toNat).1,.int .i64 (bF (⟨rates,pwn,ptn,pag⟩:Part) l (i+1).toNat).2]) eK bC rfl (mS S (i:=0) rfl (by omega) (if_pos (by omega)))) ?_;clear H a;intro a H
   refine aDn G G G ?_ ?_ ?_
   ·skip
    refine aC H G G Tryz.func99 G G (iD rates pwn ptn pag RA rcp (l.getD (i+1).toNat Use.zero) _ (hr.now S) hrn hcls (by unfold i64ok;omega) (by unfold i64ok;omega)) ?_;clear H a
    rintro _ _ a ⟨rfl,S2⟩ H
    replace S:=S.call S2;clear S2
    refine wpList_nil (And.intro (Or.inr (S.sel [0,1] G G)) ?_)
    refine sY G G ?_ ?_
    ·skip
     refine aM H rfl S eT ?_;clear H a S;intro b9 _ a hb9 hbw9 S H
     refine wpList_nil (And.intro (Or.inr (S.sel [1,2] G G)) ?_)
     refine bE rfl ?_
     refine aM H rfl S eT ?_;clear H a S;intro b10 _ a hb10 hbw10 S H
     refine wpList_nil (And.intro (Or.inr (S.sel [2,3] G G)) ?_)
     refine bE rfl ?_
     refine aH H S (i:=1) G G G G bC G G ?_
     clear H a S;intro _ a S H
     refine wpList_nil (And.intro (Or.inr (S.sel [2,3] G G)) ?_)
     refine bE rfl ?_
     refine aH H S (i:=0) G G G G bC G G ?_
     clear H a S;intro _ a S H
     refine wpList_nil (And.intro (Or.inr (S.sel [2,3] G G)) ?_)
     refine dY ?_
     refine k11 _ _ ?_
     clear k11 K11
     have hbw:=iY hok (k:=(i+1).toNat) (by omega)
     replace H:=H.keep [1,2,6,8,9,10] rfl
     replace S:=S.drew
     refine lG 22 (.q 0 (.q 1 (.q 2 (.q 3 (.q 4 (.q 5 (.q 6 (.q 7 (.q 8 (.q 9 (.q 10 (.q 11 (.q 12 (.q 13 (.q 14 (.q 15 (.q 16 (.e 17 (.q 18 (.q 19 (.p 20 (.q 21 (.e 22 .nil))))))))))))))))))))))) (by kernel_rfl) (by kernel_rfl) (S.sel [0,1,2,3] G G) ?_
     refine aI H G G (fun _ S=>aJ rfl) ?_;clear H a;intro a H
     refine aI H G G (fun _ S=>aJ rfl) ?_;clear H a;intro a H
     refine aI H G G (fun _ S=>aJ rfl) ?_;clear H a;intro a H
     refine aI H G G (fun _ S=>aJ rfl) ?_;clear H a;intro a H
     refine aI H G G (fun _ S=>bP cY bC G G (ownM.adr S (i:=2) rfl (by omega)) (by omega) (by omega)) ?_;clear H a;intro a H
     refine aI H G G (fun _ S=>eB (vs:=[.int .i64 (fwd (⟨rates,pwn,ptn,pag⟩:Part) l (i.toNat+1)).1,.int .i64 (fwd (⟨rates,pwn,ptn,pag⟩:Part) l (i.toNat+1)).2]) eK bC rfl (mS S (i:=2) rfl (by omega) (if_neg (by omega)))) ?_;clear H a;intro a H
     refine aI H G G (fun _ S=>(aF cD rfl)) ?_;clear H a;intro a H
     refine aI H G G (fun _ S=>aE aB rfl (boxM.rd S (i:=0) G G)) ?_;clear H a;intro a H
     refine aI H G G (fun _ S=>(aF bW rfl)) ?_;clear H a;intro a H
     refine aI H G G (fun _ S=>aE aB rfl (boxM.rd S (i:=1) G G)) ?_;clear H a;intro a H
     refine aI H G G (fun _ S=>aS G G (by unfold i64ok;omega)) ?_;clear H a;intro a H
     refine aI H G G (fun _ S=>(aF bW rfl)) ?_;clear H a;intro a H
     refine aI H G G (fun _ S=>aE aB rfl (boxM.rd S (i:=0) G G)) ?_;clear H a;intro a H
     refine aI H G G (fun _ S=>(aF cD rfl)) ?_;clear H a;intro a H
     refine aI H G G (fun _ S=>aE aB rfl (boxM.rd S (i:=1) G G)) ?_;clear H a;intro a H
     refine aI H G G (fun _ S=>aS G G (by unfold i64ok;omega)) ?_;clear H a;intro a H
     refine aI H G G (fun _ S=>aN kL G G) ?_;clear H a;intro a H
     refine bE rfl ?_
     refine aC H G G Tryz.func100 G G (iC (fwd (⟨rates,pwn,ptn,pag⟩:Part) l (i.toNat+1)).1 (fwd (⟨rates,pwn,ptn,pag⟩:Part) l (i.toNat+1)).2 _ _ _) ?_;clear H a
     rintro _ _ a ⟨rfl,S2⟩ H
     replace S:=S.call S2;clear S2
     refine wpList_nil (And.intro (Or.inr (S.sel [0,1,2,3] G G)) ?_)
     refine aI H G G (fun _ S=>aJ rfl) ?_;clear H a;intro a H
     refine aI H G G (fun _ S=>cM G G) ?_;clear H a;intro a H
     refine aR H G G (fun _=>cM G G) ?_;clear H a;intro a H
     refine aI H G G (fun _ S=>bP cY bC G G (ownM.adr S (i:=2) rfl (by omega)) (by omega) (by omega)) ?_;clear H a;intro a H
     refine bE rfl ?_
     refine eZ H S (i:=2) (kk:=i.toNat) G G G (by omega) bC ?_
     clear H a S;intro _ a S H
     have e9:=eG (p:=(⟨rates,pwn,ptn,pag⟩:Part)) (l:=l) (k:=i.toNat) (by omega)
     have e8:i.toNat+1=(i+1).toNat:=by omega
     rw [e8] at e9
     replace S:=S.recell (i:=2) rfl (cell':=fcell (fun q=>if i-1<((q:Nat):Int) then bF (⟨rates,pwn,ptn,pag⟩:Part) l q else fwd (⟨rates,pwn,ptn,pag⟩:Part) l (q+1))) (fun q j hq hj=>by
       unfold fcell;congr 1;(try dsimp only);by_cases h1:q=i.toNat
       · subst h1;rw [if_pos rfl,if_pos (by omega),e9,e8]
       · rw [if_neg h1];by_cases h2:i<(q:Int)
         · rw [if_pos h2,if_pos (by omega)]
         · rw [if_neg h2,if_neg (by omega)])
     refine wpList_nil (And.intro (Or.inl rfl) ?_)
     refine dY ?_
     refine k10 _ _ ?_
     replace H:=H.keep [1,2,6,8] rfl
     refine sO H<|sr 1 rfl<|sd (aS G G (by unfold i64ok;omega))<|sr 1 rfl<|sE ?_;clear H a;intro a H
     exact k7 (g1-1) (i-1) a _ (by omega) (⟨by omega,by omega,by omega⟩) (S.sel [2,3] G G) (H.keep [8,1,2,6] rfl)
    ·skip
     refine aM H rfl S eT ?_;clear H a S;intro b10 _ a hb10 hbw10 S H
     refine wpList_nil (And.intro (Or.inr (S.sel [1,2] G G)) ?_)
     refine bE rfl ?_
     refine aM H rfl S eT ?_;clear H a S;intro b9 _ a hb9 hbw9 S H
     refine wpList_nil (And.intro (Or.inr (S.sel [2,3] G G)) ?_)
     refine bE rfl ?_
     refine aH H S (i:=0) G G G G bC G G ?_
     clear H a S;intro _ a S H
     refine wpList_nil (And.intro (Or.inr (S.sel [2,3] G G)) ?_)
     refine bE rfl ?_
     refine aH H S (i:=1) G G G G bC G G ?_
     clear H a S;intro _ a S H
     refine wpList_nil (And.intro (Or.inr (S.sel [2,3] G G)) ?_)
     refine dY ?_
     refine k11 _ _ ?_
     clear k11 K11
     have hbw:=iY hok (k:=(i+1).toNat) (by omega)
     replace H:=H.keep [1,2,6,8,9,10] rfl
     replace S:=S.drew
     refine lG 22 (.q 0 (.q 1 (.q 2 (.q 3 (.q 4 (.q 5 (.q 6 (.q 7 (.q 8 (.q 9 (.q 10 (.q 11 (.q 12 (.q 13 (.q 14 (.q 15 (.q 16 (.e 17 (.q 18 (.q 19 (.p 20 (.q 21 (.e 22 .nil))))))))))))))))))))))) (by kernel_rfl) (by kernel_rfl) (S.sel [0,1,2,3] G G) ?_
     refine aI H G G (fun _ S=>aJ rfl) ?_;clear H a;intro a H
     refine aI H G G (fun _ S=>aJ rfl) ?_;clear H a;intro a H
     refine aI H G G (fun _ S=>aJ rfl) ?_;clear H a;intro a H
     refine aI H G G (fun _ S=>aJ rfl) ?_;clear H a;intro a H
     refine aI H G G (fun _ S=>bP cY bC G G (ownM.adr S (i:=2) rfl (by omega)) (by omega) (by omega)) ?_;clear H a;intro a H
     refine aI H G G (fun _ S=>eB (vs:=[.int .i64 (fwd (⟨rates,pwn,ptn,pag⟩:Part) l (i.toNat+1)).1,.int .i64 (fwd (⟨rates,pwn,ptn,pag⟩:Part) l (i.toNat+1)).2]) eK bC rfl (mS S (i:=2) rfl (by omega) (if_neg (by omega)))) ?_;clear H a;intro a H
     refine aI H G G (fun _ S=>(aF cD rfl)) ?_;clear H a;intro a H
     refine aI H G G (fun _ S=>aE aB rfl (boxM.rd S (i:=1) G G)) ?_;clear H a;intro a H
     refine aI H G G (fun _ S=>(aF bW rfl)) ?_;clear H a;intro a H
     refine aI H G G (fun _ S=>aE aB rfl (boxM.rd S (i:=0) G G)) ?_;clear H a;intro a H
     refine aI H G G (fun _ S=>aS G G (by unfold i64ok;omega)) ?_;clear H a;intro a H
     refine aI H G G (fun _ S=>(aF bW rfl)) ?_;clear H a;intro a H
     refine aI H G G (fun _ S=>aE aB rfl (boxM.rd S (i:=1) G G)) ?_;clear H a;intro a H
     refine aI H G G (fun _ S=>(aF cD rfl)) ?_;clear H a;intro a H
     refine aI H G G (fun _ S=>aE aB rfl (boxM.rd S (i:=0) G G)) ?_;clear H a;intro a H
     refine aI H G G (fun _ S=>aS G G (by unfold i64ok;omega)) ?_;clear H a;intro a H
     refine aI H G G (fun _ S=>aN kL G G) ?_;clear H a;intro a H
     refine bE rfl ?_
     refine aC H G G Tryz.func100 G G (iC (fwd (⟨rates,pwn,ptn,pag⟩:Part) l (i.toNat+1)).1 (fwd (⟨rates,pwn,ptn,pag⟩:Part) l (i.toNat+1)).2 _ _ _) ?_;clear H a
     rintro _ _ a ⟨rfl,S2⟩ H
     replace S:=S.call S2;clear S2
     refine wpList_nil (And.intro (Or.inr (S.sel [0,1,2,3] G G)) ?_)
     refine aI H G G (fun _ S=>aJ rfl) ?_;clear H a;intro a H
     refine aI H G G (fun _ S=>cM G G) ?_;clear H a;intro a H
     refine aR H G G (fun _=>cM G G) ?_;clear H a;intro a H
     refine aI H G G (fun _ S=>bP cY bC G G (ownM.adr S (i:=2) rfl (by omega)) (by omega) (by omega)) ?_;clear H a;intro a H
     refine bE rfl ?_
     refine eZ H S (i:=2) (kk:=i.toNat) G G G (by omega) bC ?_
     clear H a S;intro _ a S H
     have e9:=eG (p:=(⟨rates,pwn,ptn,pag⟩:Part)) (l:=l) (k:=i.toNat) (by omega)
     have e8:i.toNat+1=(i+1).toNat:=by omega
     rw [e8] at e9
     replace S:=S.recell (i:=2) rfl (cell':=fcell (fun q=>if i-1<((q:Nat):Int) then bF (⟨rates,pwn,ptn,pag⟩:Part) l q else fwd (⟨rates,pwn,ptn,pag⟩:Part) l (q+1))) (fun q j hq hj=>by
       unfold fcell;congr 1;(try dsimp only);by_cases h1:q=i.toNat
       · subst h1;rw [if_pos rfl,if_pos (by omega),e9,e8]
       · rw [if_neg h1];by_cases h2:i<(q:Int)
         · rw [if_pos h2,if_pos (by omega)]
         · rw [if_neg h2,if_neg (by omega)])
     refine wpList_nil (And.intro (Or.inl rfl) ?_)
     refine dY ?_
     refine k10 _ _ ?_
     replace H:=H.keep [1,2,6,8] rfl
     refine sO H<|sr 1 rfl<|sd (aS G G (by unfold i64ok;omega))<|sr 1 rfl<|sE ?_;clear H a;intro a H
     exact k7 (g1-1) (i-1) a _ (by omega) (⟨by omega,by omega,by omega⟩) (S.sel [2,3] G G) (H.keep [8,1,2,6] rfl)
   ·skip
    refine aM H rfl S eT ?_;clear H a S;intro b9 _ a hb9 hbw9 S H
    refine wpList_nil (And.intro (Or.inr (S.sel [1,2] G G)) ?_)
    refine sY G G ?_ ?_
    ·skip
     refine aC H G G Tryz.func99 G G (iD rates pwn ptn pag RA rcp (l.getD (i+1).toNat Use.zero) _ (hr.now S) hrn hcls (by unfold i64ok;omega) (by unfold i64ok;omega)) ?_;clear H a
     rintro _ _ a ⟨rfl,S2⟩ H
     replace S:=S.call S2;clear S2
     refine wpList_nil (And.intro (Or.inr (S.sel [1,2] G G)) ?_)
     refine bE rfl ?_
     refine aM H rfl S eT ?_;clear H a S;intro b10 _ a hb10 hbw10 S H
     refine wpList_nil (And.intro (Or.inr (S.sel [2,3] G G)) ?_)
     refine bE rfl ?_
     refine aH H S (i:=1) G G G G bC G G ?_
     clear H a S;intro _ a S H
     refine wpList_nil (And.intro (Or.inr (S.sel [2,3] G G)) ?_)
     refine bE rfl ?_
     refine aH H S (i:=0) G G G G bC G G ?_
     clear H a S;intro _ a S H
     refine wpList_nil (And.intro (Or.inr (S.sel [2,3] G G)) ?_)
     refine dY ?_
     refine k11 _ _ ?_
     clear k11 K11
     have hbw:=iY hok (k:=(i+1).toNat) (by omega)
     replace H:=H.keep [1,2,6,8,9,10] rfl
     replace S:=S.drew
     refine lG 22 (.q 0 (.q 1 (.q 2 (.q 3 (.q 4 (.q 5 (.q 6 (.q 7 (.q 8 (.q 9 (.q 10 (.q 11 (.q 12 (.q 13 (.q 14 (.q 15 (.q 16 (.e 17 (.q 18 (.q 19 (.p 20 (.q 21 (.e 22 .nil))))))))))))))))))))))) (by kernel_rfl) (by kernel_rfl) (S.sel [0,1,2,3] G G) ?_
     refine aI H G G (fun _ S=>aJ rfl) ?_;clear H a;intro a H
     refine aI H G G (fun _ S=>aJ rfl) ?_;clear H a;intro a H
     refine aI H G G (fun _ S=>aJ rfl) ?_;clear H a;intro a H
     refine aI H G G (fun _ S=>aJ rfl) ?_;clear H a;intro a H
     refine aI H G G (fun _ S=>bP cY bC G G (ownM.adr S (i:=2) rfl (by omega)) (by omega) (by omega)) ?_;clear H a;intro a H
     refine aI H G G (fun _ S=>eB (vs:=[.int .i64 (fwd (⟨rates,pwn,ptn,pag⟩:Part) l (i.toNat+1)).1,.int .i64 (fwd (⟨rates,pwn,ptn,pag⟩:Part) l (i.toNat+1)).2]) eK bC rfl (mS S (i:=2) rfl (by omega) (if_neg (by omega)))) ?_;clear H a;intro a H
     refine aI H G G (fun _ S=>(aF cD rfl)) ?_;clear H a;intro a H
     refine aI H G G (fun _ S=>aE aB rfl (boxM.rd S (i:=0) G G)) ?_;clear H a;intro a H
     refine aI H G G (fun _ S=>(aF bW rfl)) ?_;clear H a;intro a H
     refine aI H G G (fun _ S=>aE aB rfl (boxM.rd S (i:=1) G G)) ?_;clear H a;intro a H
     refine aI H G G (fun _ S=>aS G G (by unfold i64ok;omega)) ?_;clear H a;intro a H
     refine aI H G G (fun _ S=>(aF bW rfl)) ?_;clear H a;intro a H
     refine aI H G G (fun _ S=>aE aB rfl (boxM.rd S (i:=0) G G)) ?_;clear H a;intro a H
     refine aI H G G (fun _ S=>(aF cD rfl)) ?_;clear H a;intro a H
     refine aI H G G (fun _ S=>aE aB rfl (boxM.rd S (i:=1) G G)) ?_;clear H a;intro a H
     refine aI H G G (fun _ S=>aS G G (by unfold i64ok;omega)) ?_;clear H a;intro a H
     refine aI H G G (fun _ S=>aN kL G G) ?_;clear H a;intro a H
     refine bE rfl ?_
     refine aC H G G Tryz.func100 G G (iC (fwd (⟨rates,pwn,ptn,pag⟩:Part) l (i.toNat+1)).1 (fwd (⟨rates,pwn,ptn,pag⟩:Part) l (i.toNat+1)).2 _ _ _) ?_;clear H a
     rintro _ _ a ⟨rfl,S2⟩ H
     replace S:=S.call S2;clear S2
     refine wpList_nil (And.intro (Or.inr (S.sel [0,1,2,3] G G)) ?_)
     refine aI H G G (fun _ S=>aJ rfl) ?_;clear H a;intro a H
     refine aI H G G (fun _ S=>cM G G) ?_;clear H a;intro a H
     refine aR H G G (fun _=>cM G G) ?_;clear H a;intro a H
     refine aI H G G (fun _ S=>bP cY bC G G (ownM.adr S (i:=2) rfl (by omega)) (by omega) (by omega)) ?_;clear H a;intro a H
     refine bE rfl ?_
     refine eZ H S (i:=2) (kk:=i.toNat) G G G (by omega) bC ?_
     clear H a S;intro _ a S H
     have e9:=eG (p:=(⟨rates,pwn,ptn,pag⟩:Part)) (l:=l) (k:=i.toNat) (by omega)
     have e8:i.toNat+1=(i+1).toNat:=by omega
     rw [e8] at e9
     replace S:=S.recell (i:=2) rfl (cell':=fcell (fun q=>if i-1<((q:Nat):Int) then bF (⟨rates,pwn,ptn,pag⟩:Part) l q else fwd (⟨rates,pwn,ptn,pag⟩:Part) l (q+1))) (fun q j hq hj=>by
       unfold fcell;congr 1;(try dsimp only);by_cases h1:q=i.toNat
       · subst h1;rw [if_pos rfl,if_pos (by omega),e9,e8]
       · rw [if_neg h1];by_cases h2:i<(q:Int)
         · rw [if_pos h2,if_pos (by omega)]
         · rw [if_neg h2,if_neg (by omega)])
     refine wpList_nil (And.intro (Or.inl rfl) ?_)
     refine dY ?_
     refine k10 _ _ ?_
     replace H:=H.keep [1,2,6,8] rfl
     refine sO H<|sr 1 rfl<|sd (aS G G (by unfold i64ok;omega))<|sr 1 rfl<|sE ?_;clear H a;intro a H
     exact k7 (g1-1) (i-1) a _ (by omega) (⟨by omega,by omega,by omega⟩) (S.sel [2,3] G G) (H.keep [8,1,2,6] rfl)
    ·skip
     refine aM H rfl S eT ?_;clear H a S;intro b10 _ a hb10 hbw10 S H
     refine wpList_nil (And.intro (Or.inr (S.sel [2,3] G G)) ?_)
     refine bE rfl ?_
     refine aC H G G Tryz.func99 G G (iD rates pwn ptn pag RA rcp (l.getD (i+1).toNat Use.zero) _ (hr.now S) hrn hcls (by unfold i64ok;omega) (by unfold i64ok;omega)) ?_;clear H a
     rintro _ _ a ⟨rfl,S2⟩ H
     replace S:=S.call S2;clear S2
     refine wpList_nil (And.intro (Or.inr (S.sel [2,3] G G)) ?_)
     refine bE rfl ?_
     refine aH H S (i:=1) G G G G bC G G ?_
     clear H a S;intro _ a S H
     refine wpList_nil (And.intro (Or.inr (S.sel [2,3] G G)) ?_)
     refine bE rfl ?_
     refine aH H S (i:=0) G G G G bC G G ?_
     clear H a S;intro _ a S H
     refine wpList_nil (And.intro (Or.inr (S.sel [2,3] G G)) ?_)
     refine dY ?_
     refine k11 _ _ ?_
     clear k11 K11
     have hbw:=iY hok (k:=(i+1).toNat) (by omega)
     replace H:=H.keep [1,2,6,8,9,10] rfl
     replace S:=S.drew
     refine lG 22 (.q 0 (.q 1 (.q 2 (.q 3 (.q 4 (.q 5 (.q 6 (.q 7 (.q 8 (.q 9 (.q 10 (.q 11 (.q 12 (.q 13 (.q 14 (.q 15 (.q 16 (.e 17 (.q 18 (.q 19 (.p 20 (.q 21 (.e 22 .nil))))))))))))))))))))))) (by kernel_rfl) (by kernel_rfl) (S.sel [0,1,2,3] G G) ?_
     refine aI H G G (fun _ S=>aJ rfl) ?_;clear H a;intro a H
     refine aI H G G (fun _ S=>aJ rfl) ?_;clear H a;intro a H
     refine aI H G G (fun _ S=>aJ rfl) ?_;clear H a;intro a H
     refine aI H G G (fun _ S=>aJ rfl) ?_;clear H a;intro a H
     refine aI H G G (fun _ S=>bP cY bC G G (ownM.adr S (i:=2) rfl (by omega)) (by omega) (by omega)) ?_;clear H a;intro a H
     refine aI H G G (fun _ S=>eB (vs:=[.int .i64 (fwd (⟨rates,pwn,ptn,pag⟩:Part) l (i.toNat+1)).1,.int .i64 (fwd (⟨rates,pwn,ptn,pag⟩:Part) l (i.toNat+1)).2]) eK bC rfl (mS S (i:=2) rfl (by omega) (if_neg (by omega)))) ?_;clear H a;intro a H
     refine aI H G G (fun _ S=>(aF cD rfl)) ?_;clear H a;intro a H
     refine aI H G G (fun _ S=>aE aB rfl (boxM.rd S (i:=0) G G)) ?_;clear H a;intro a H
     refine aI H G G (fun _ S=>(aF bW rfl)) ?_;clear H a;intro a H
     refine aI H G G (fun _ S=>aE aB rfl (boxM.rd S (i:=1) G G)) ?_;clear H a;intro a H
     refine aI H G G (fun _ S=>aS G G (by unfold i64ok;omega)) ?_;clear H a;intro a H
     refine aI H G G (fun _ S=>(aF bW rfl)) ?_;clear H a;intro a H
     refine aI H G G (fun _ S=>aE aB rfl (boxM.rd S (i:=0) G G)) ?_;clear H a;intro a H
     refine aI H G G (fun _ S=>(aF cD rfl)) ?_;clear H a;intro a H
     refine aI H G G (fun _ S=>aE aB rfl (boxM.rd S (i:=1) G G)) ?_;clear H a;intro a H
     refine aI H G G (fun _ S=>aS G G (by unfold i64ok;omega)) ?_;clear H a;intro a H
     refine aI H G G (fun _ S=>aN kL G G) ?_;clear H a;intro a H
     refine bE rfl ?_
     refine aC H G G Tryz.func100 G G (iC (fwd (⟨rates,pwn,ptn,pag⟩:Part) l (i.toNat+1)).1 (fwd (⟨rates,pwn,ptn,pag⟩:Part) l (i.toNat+1)).2 _ _ _) ?_;clear H a
     rintro _ _ a ⟨rfl,S2⟩ H
     replace S:=S.call S2;clear S2
     refine wpList_nil (And.intro (Or.inr (S.sel [0,1,2,3] G G)) ?_)
     refine aI H G G (fun _ S=>aJ rfl) ?_;clear H a;intro a H
     refine aI H G G (fun _ S=>cM G G) ?_;clear H a;intro a H
     refine aR H G G (fun _=>cM G G) ?_;clear H a;intro a H
     refine aI H G G (fun _ S=>bP cY bC G G (ownM.adr S (i:=2) rfl (by omega)) (by omega) (by omega)) ?_;clear H a;intro a H
     refine bE rfl ?_
     refine eZ H S (i:=2) (kk:=i.toNat) G G G (by omega) bC ?_
     clear H a S;intro _ a S H
     have e9:=eG (p:=(⟨rates,pwn,ptn,pag⟩:Part)) (l:=l) (k:=i.toNat) (by omega)
     have e8:i.toNat+1=(i+1).toNat:=by omega
     rw [e8] at e9
     replace S:=S.recell (i:=2) rfl (cell':=fcell (fun q=>if i-1<((q:Nat):Int) then bF (⟨rates,pwn,ptn,pag⟩:Part) l q else fwd (⟨rates,pwn,ptn,pag⟩:Part) l (q+1))) (fun q j hq hj=>by
       unfold fcell;congr 1;(try dsimp only);by_cases h1:q=i.toNat
       · subst h1;rw [if_pos rfl,if_pos (by omega),e9,e8]
       · rw [if_neg h1];by_cases h2:i<(q:Int)
         · rw [if_pos h2,if_pos (by omega)]
         · rw [if_neg h2,if_neg (by omega)])
     refine wpList_nil (And.intro (Or.inl rfl) ?_)
     refine dY ?_
     refine k10 _ _ ?_
     replace H:=H.keep [1,2,6,8] rfl
     refine sO H<|sr 1 rfl<|sd (aS G G (by unfold i64ok;omega))<|sr 1 rfl<|sE ?_;clear H a;intro a H
     exact k7 (g1-1) (i-1) a _ (by omega) (⟨by omega,by omega,by omega⟩) (S.sel [2,3] G G) (H.keep [8,1,2,6] rfl)
   ·skip
    refine aM H rfl S eT ?_;clear H a S;intro b10 _ a hb10 hbw10 S H
    refine wpList_nil (And.intro (Or.inr (S.sel [1,2] G G)) ?_)
    refine sY G G ?_ ?_
    ·skip
     refine aC H G G Tryz.func99 G G (iD rates pwn ptn pag RA rcp (l.getD (i+1).toNat Use.zero) _ (hr.now S) hrn hcls (by unfold i64ok;omega) (by unfold i64ok;omega)) ?_;clear H a
     rintro _ _ a ⟨rfl,S2⟩ H
     replace S:=S.call S2;clear S2
     refine wpList_nil (And.intro (Or.inr (S.sel [1,2] G G)) ?_)
     refine bE rfl ?_
     refine aM H rfl S eT ?_;clear H a S;intro b9 _ a hb9 hbw9 S H
     refine wpList_nil (And.intro (Or.inr (S.sel [2,3] G G)) ?_)
     refine bE rfl ?_
     refine aH H S (i:=0) G G G G bC G G ?_
     clear H a S;intro _ a S H
     refine wpList_nil (And.intro (Or.inr (S.sel [2,3] G G)) ?_)
     refine bE rfl ?_
     refine aH H S (i:=1) G G G G bC G G ?_
     clear H a S;intro _ a S H
     refine wpList_nil (And.intro (Or.inr (S.sel [2,3] G G)) ?_)
     refine dY ?_
     refine k11 _ _ ?_
     clear k11 K11
     have hbw:=iY hok (k:=(i+1).toNat) (by omega)
     replace H:=H.keep [1,2,6,8,9,10] rfl
     replace S:=S.drew
     refine lG 22 (.q 0 (.q 1 (.q 2 (.q 3 (.q 4 (.q 5 (.q 6 (.q 7 (.q 8 (.q 9 (.q 10 (.q 11 (.q 12 (.q 13 (.q 14 (.q 15 (.q 16 (.e 17 (.q 18 (.q 19 (.p 20 (.q 21 (.e 22 .nil))))))))))))))))))))))) (by kernel_rfl) (by kernel_rfl) (S.sel [0,1,2,3] G G) ?_
     refine aI H G G (fun _ S=>aJ rfl) ?_;clear H a;intro a H
     refine aI H G G (fun _ S=>aJ rfl) ?_;clear H a;intro a H
     refine aI H G G (fun _ S=>aJ rfl) ?_;clear H a;intro a H
     refine aI H G G (fun _ S=>aJ rfl) ?_;clear H a;intro a H
     refine aI H G G (fun _ S=>bP cY bC G G (ownM.adr S (i:=2) rfl (by omega)) (by omega) (by omega)) ?_;clear H a;intro a H
     refine aI H G G (fun _ S=>eB (vs:=[.int .i64 (fwd (⟨rates,pwn,ptn,pag⟩:Part) l (i.toNat+1)).1,.int .i64 (fwd (⟨rates,pwn,ptn,pag⟩:Part) l (i.toNat+1)).2]) eK bC rfl (mS S (i:=2) rfl (by omega) (if_neg (by omega)))) ?_;clear H a;intro a H
     refine aI H G G (fun _ S=>(aF cD rfl)) ?_;clear H a;intro a H
     refine aI H G G (fun _ S=>aE aB rfl (boxM.rd S (i:=1) G G)) ?_;clear H a;intro a H
     refine aI H G G (fun _ S=>(aF bW rfl)) ?_;clear H a;intro a H
     refine aI H G G (fun _ S=>aE aB rfl (boxM.rd S (i:=0) G G)) ?_;clear H a;intro a H
     refine aI H G G (fun _ S=>aS G G (by unfold i64ok;omega)) ?_;clear H a;intro a H
     refine aI H G G (fun _ S=>(aF bW rfl)) ?_;clear H a;intro a H
     refine aI H G G (fun _ S=>aE aB rfl (boxM.rd S (i:=1) G G)) ?_;clear H a;intro a H
     refine aI H G G (fun _ S=>(aF cD rfl)) ?_;clear H a;intro a H
     refine aI H G G (fun _ S=>aE aB rfl (boxM.rd S (i:=0) G G)) ?_;clear H a;intro a H
     refine aI H G G (fun _ S=>aS G G (by unfold i64ok;omega)) ?_;clear H a;intro a H
     refine aI H G G (fun _ S=>aN kL G G) ?_;clear H a;intro a H
     refine bE rfl ?_
     refine aC H G G Tryz.func100 G G (iC (fwd (⟨rates,pwn,ptn,pag⟩:Part) l (i.toNat+1)).1 (fwd (⟨rates,pwn,ptn,pag⟩:Part) l (i.toNat+1)).2 _ _ _) ?_;clear H a
     rintro _ _ a ⟨rfl,S2⟩ H
     replace S:=S.call S2;clear S2
     refine wpList_nil (And.intro (Or.inr (S.sel [0,1,2,3] G G)) ?_)
     refine aI H G G (fun _ S=>aJ rfl) ?_;clear H a;intro a H
     refine aI H G G (fun _ S=>cM G G) ?_;clear H a;intro a H
     refine aR H G G (fun _=>cM G G) ?_;clear H a;intro a H
     refine aI H G G (fun _ S=>bP cY bC G G (ownM.adr S (i:=2) rfl (by omega)) (by omega) (by omega)) ?_;clear H a;intro a H
     refine bE rfl ?_
     refine eZ H S (i:=2) (kk:=i.toNat) G G G (by omega) bC ?_
     clear H a S;intro _ a S H
     have e9:=eG (p:=(⟨rates,pwn,ptn,pag⟩:Part)) (l:=l) (k:=i.toNat) (by omega)
     have e8:i.toNat+1=(i+1).toNat:=by omega
     rw [e8] at e9
     replace S:=S.recell (i:=2) rfl (cell':=fcell (fun q=>if i-1<((q:Nat):Int) then bF (⟨rates,pwn,ptn,pag⟩:Part) l q else fwd (⟨rates,pwn,ptn,pag⟩:Part) l (q+1))) (fun q j hq hj=>by
       unfold fcell;congr 1;(try dsimp only);by_cases h1:q=i.toNat
       · subst h1;rw [if_pos rfl,if_pos (by omega),e9,e8]
       · rw [if_neg h1];by_cases h2:i<(q:Int)
         · rw [if_pos h2,if_pos (by omega)]
         · rw [if_neg h2,if_neg (by omega)])
     refine wpList_nil (And.intro (Or.inl rfl) ?_)
     refine dY ?_
     refine k10 _ _ ?_
     replace H:=H.keep [1,2,6,8] rfl
     refine sO H<|sr 1 rfl<|sd (aS G G (by unfold i64ok;omega))<|sr 1 rfl<|sE ?_;clear H a;intro a H
     exact k7 (g1-1) (i-1) a _ (by omega) (⟨by omega,by omega,by omega⟩) (S.sel [2,3] G G) (H.keep [8,1,2,6] rfl)
    ·skip
     refine aM H rfl S eT ?_;clear H a S;intro b9 _ a hb9 hbw9 S H
     refine wpList_nil (And.intro (Or.inr (S.sel [2,3] G G)) ?_)
     refine bE rfl ?_
     refine aC H G G Tryz.func99 G G (iD rates pwn ptn pag RA rcp (l.getD (i+1).toNat Use.zero) _ (hr.now S) hrn hcls (by unfold i64ok;omega) (by unfold i64ok;omega)) ?_;clear H a
     rintro _ _ a ⟨rfl,S2⟩ H
     replace S:=S.call S2;clear S2
     refine wpList_nil (And.intro (Or.inr (S.sel [2,3] G G)) ?_)
     refine bE rfl ?_
     refine aH H S (i:=0) G G G G bC G G ?_
     clear H a S;intro _ a S H
     refine wpList_nil (And.intro (Or.inr (S.sel [2,3] G G)) ?_)
     refine bE rfl ?_
     refine aH H S (i:=1) G G G G bC G G ?_
     clear H a S;intro _ a S H
     refine wpList_nil (And.intro (Or.inr (S.sel [2,3] G G)) ?_)
     refine dY ?_
     refine k11 _ _ ?_
     clear k11 K11
     have hbw:=iY hok (k:=(i+1).toNat) (by omega)
     replace H:=H.keep [1,2,6,8,9,10] rfl
     replace S:=S.drew
     refine lG 22 (.q 0 (.q 1 (.q 2 (.q 3 (.q 4 (.q 5 (.q 6 (.q 7 (.q 8 (.q 9 (.q 10 (.q 11 (.q 12 (.q 13 (.q 14 (.q 15 (.q 16 (.e 17 (.q 18 (.q 19 (.p 20 (.q 21 (.e 22 .nil))))))))))))))))))))))) (by kernel_rfl) (by kernel_rfl) (S.sel [0,1,2,3] G G) ?_
     refine aI H G G (fun _ S=>aJ rfl) ?_;clear H a;intro a H
     refine aI H G G (fun _ S=>aJ rfl) ?_;clear H a;intro a H
     refine aI H G G (fun _ S=>aJ rfl) ?_;clear H a;intro a H
     refine aI H G G (fun _ S=>aJ rfl) ?_;clear H a;intro a H
     refine aI H G G (fun _ S=>bP cY bC G G (ownM.adr S (i:=2) rfl (by omega)) (by omega) (by omega)) ?_;clear H a;intro a H
     refine aI H G G (fun _ S=>eB (vs:=[.int .i64 (fwd (⟨rates,pwn,ptn,pag⟩:Part) l (i.toNat+1)).1,.int .i64 (fwd (⟨rates,pwn,ptn,pag⟩:Part) l (i.toNat+1)).2]) eK bC rfl (mS S (i:=2) rfl (by omega) (if_neg (by omega)))) ?_;clear H a;intro a H
     refine aI H G G (fun _ S=>(aF cD rfl)) ?_;clear H a;intro a H
     refine aI H G G (fun _ S=>aE aB rfl (boxM.rd S (i:=1) G G)) ?_;clear H a;intro a H
     refine aI H G G (fun _ S=>(aF bW rfl)) ?_;clear H a;intro a H
     refine aI H G G (fun _ S=>aE aB rfl (boxM.rd S (i:=0) G G)) ?_;clear H a;intro a H
     refine aI H G G (fun _ S=>aS G G (by unfold i64ok;omega)) ?_;clear H a;intro a H
     refine aI H G G (fun _ S=>(aF bW rfl)) ?_;clear H a;intro a H
     refine aI H G G (fun _ S=>aE aB rfl (boxM.rd S (i:=1) G G)) ?_;clear H a;intro a H
     refine aI H G G (fun _ S=>(aF cD rfl)) ?_;clear H a;intro a H
     refine aI H G G (fun _ S=>aE aB rfl (boxM.rd S (i:=0) G G)) ?_;clear H a;intro a H
     refine aI H G G (fun _ S=>aS G G (by unfold i64ok;omega)) ?_;clear H a;intro a H
     refine aI H G G (fun _ S=>aN kL G G) ?_;clear H a;intro a H
     refine bE rfl ?_
     refine aC H G G Tryz.func100 G G (iC (fwd (⟨rates,pwn,ptn,pag⟩:Part) l (i.toNat+1)).1 (fwd (⟨rates,pwn,ptn,pag⟩:Part) l (i.toNat+1)).2 _ _ _) ?_;clear H a
     rintro _ _ a ⟨rfl,S2⟩ H
     replace S:=S.call S2;clear S2
     refine wpList_nil (And.intro (Or.inr (S.sel [0,1,2,3] G G)) ?_)
     refine aI H G G (fun _ S=>aJ rfl) ?_;clear H a;intro a H
     refine aI H G G (fun _ S=>cM G G) ?_;clear H a;intro a H
     refine aR H G G (fun _=>cM G G) ?_;clear H a;intro a H
     refine aI H G G (fun _ S=>bP cY bC G G (ownM.adr S (i:=2) rfl (by omega)) (by omega) (by omega)) ?_;clear H a;intro a H
     refine bE rfl ?_
     refine eZ H S (i:=2) (kk:=i.toNat) G G G (by omega) bC ?_
     clear H a S;intro _ a S H
     have e9:=eG (p:=(⟨rates,pwn,ptn,pag⟩:Part)) (l:=l) (k:=i.toNat) (by omega)
     have e8:i.toNat+1=(i+1).toNat:=by omega
     rw [e8] at e9
     replace S:=S.recell (i:=2) rfl (cell':=fcell (fun q=>if i-1<((q:Nat):Int) then bF (⟨rates,pwn,ptn,pag⟩:Part) l q else fwd (⟨rates,pwn,ptn,pag⟩:Part) l (q+1))) (fun q j hq hj=>by
       unfold fcell;congr 1;(try dsimp only);by_cases h1:q=i.toNat
       · subst h1;rw [if_pos rfl,if_pos (by omega),e9,e8]
       · rw [if_neg h1];by_cases h2:i<(q:Int)
         · rw [if_pos h2,if_pos (by omega)]
         · rw [if_neg h2,if_neg (by omega)])
     refine wpList_nil (And.intro (Or.inl rfl) ?_)
     refine dY ?_
     refine k10 _ _ ?_
     replace H:=H.keep [1,2,6,8] rfl
     refine sO H<|sr 1 rfl<|sd (aS G G (by unfold i64ok;omega))<|sr 1 rfl<|sE ?_;clear H a;intro a H
     exact k7 (g1-1) (i-1) a _ (by omega) (⟨by omega,by omega,by omega⟩) (S.sel [2,3] G G) (H.keep [8,1,2,6] rfl)
  refine wp_exit ?_
  refine k5 _ _ ?_
  refine sS H fun K24 k24=>sr 3 rfl<|sE ?_;clear H a;intro a H
  refine k24 _ ?_;clear k24 K24
  refine wp_ret ?_
  refine ret2 (fn:=Tryz.f82) rfl H G G ?_
  refine .inl ⟨hA,A',c',rfl,?_⟩
  replace S:=S.recell (i:=0) rfl (cell':=fcell (bF (⟨rates,pwn,ptn,pag⟩:Part) l)) (fun q j hq hj=>by unfold fcell;congr 1;exact if_pos (by omega))
  exact (S.sel [0] G G)
 replace H:=H.keep [1,2] rfl
 refine aA fun K25 k25=>?_
 refine ls 2 H<|sd ((aD dE dV rfl S (i:=0) G G))<|sr 1 rfl<|sE ?_;clear H a;intro a H
 refine aC H G G Tryz.func98 G G (tG rates pwn ptn pag RA rcp l A cp _ (hr.now S) hrn (hl.now S) hn hok) ?_;clear H a
 rintro _ _ a ⟨n,A',c',hn1,rfl,S2⟩ H
 replace S:=S.call S2;clear S2
 refine ls 5 H<|sr 5 rfl<|sE ?_;clear H a;intro a H
 refine k25 _ _ ?_;clear k25 K25
 refine wp_seq_k fun K26 k26=>?_
 try have hnl:=hn1.le
 replace H:=H.keep [1,2,6,7] rfl
 refine sS H fun K27 k27=>sr 2 rfl<|sL cG rfl<|sr 1 rfl<|sE ?_;clear H a;intro a H
 refine k27 _ ?_;clear k27 K27
 refine condL H rfl (fun hc3=>?_) (fun hc3=>?_)
 ·skip
  refine sS H fun K28 k28=>sr 2 rfl<|sE ?_;clear H a;intro a H
  refine k28 _ ?_;clear k28 K28
  refine wp_ret ?_
  refine ret2 (fn:=Tryz.f82) rfl H G G ?_
  exact .inr ⟨hA,rfl,(S.sel [] G G)⟩
 exfalso
 have hnn:n=l.length:=by omega
 exact hA (hnn ▸ hn1)
end
section
theorem Qv {w:World} {p:Part} {l:List Use} {v:Value} {w':World} (hA:IsAt p l l.length) (h:Worn w p l v w'):∃ A' c',v = .tuple #[.slice A' l.length c',.bool true]∧St w noF [ownM 79 2 A' l.length c' (fcell (bF p l))] w':=by
  rcases h with ⟨_,h⟩|⟨h,_⟩
  · exact h
  · exact absurd hA h
theorem Wo {w:World} {p:Part} {l:List Use} {v:Value} {w':World} (hA:¬ IsAt p l l.length) (h:Worn w p l v w'):v = .tuple #[.slice none 0 0,.bool false]∧St w noF [] w':=by
  rcases h with ⟨h,_⟩|⟨_,h⟩
  · exact absurd h hA
  · exact h
end
section
def iT (b:Nat→Bool) (n:Nat):Int:=match (List.range n).find? b with
  | some k=>(k:Int)
  | none => -1
theorem lX {b:Nat→Bool} {n k:Nat} (hk:k<n) (hb:b k=true) (h:∀ q,q<k→b q=false):iT b n=k:=by
  unfold iT
  have e:(List.range n).find? b=some k:=by
    rw [List.find?_eq_some_iff_append]
    refine ⟨hb,List.range k,(List.range (n-k-1)).map (k+1+·),?_,fun a ha=>?_⟩
    · have e1:n=k+((n-k-1)+1):=by omega
      conv=>lhs;rw [e1,List.range_add]
      rw [List.range_succ_eq_map]
      simp only [List.map_cons,Nat.add_zero,List.map_map]
      congr 2
      refine List.map_congr_left fun a _=>?_
      simp only [Function.comp]
      omega
    · rw [h a (List.mem_range.1 ha)];rfl
  rw [e]
theorem nT {b:Nat→Bool} {n:Nat} (h:∀ q,q<n→b q=false):iT b n = -1:=by
  unfold iT
  have e:(List.range n).find? b=none:=by
    rw [List.find?_eq_none]
    intro a ha
    rw [h a (List.mem_range.1 ha)];simp
  rw [e]
theorem Qw (b:Nat→Bool):∀ n,(∃ k,k<n∧b k=true∧∀ q,q<k→b q=false)∨∀ q,q<n→b q=false:=by
  intro n
  induction n with
  | zero=>exact .inr fun q hq=>absurd hq (Nat.not_lt_zero _)
  | succ n ih=>
    rcases ih with ⟨k,h1,h2,h3⟩|h
    · exact .inl ⟨k,by omega,h2,h3⟩
    · cases hb:b n
      · refine .inr fun q hq=>?_
        by_cases e:q=n
        · subst e;exact hb
        · exact h q (by omega)
      · exact .inl ⟨n,by omega,hb,h⟩
theorem mT (b:Nat→Bool) (n:Nat):(iT b n = -1∧∀ q,q<n→b q=false)∨∃ k,k<n∧iT b n=k∧b k=true∧∀ q,q<k→b q=false:=by
  rcases Qw b n with ⟨k,h1,h2,h3⟩|h
  · exact .inr ⟨k,h1,lX h1 h2 h3,h2,h3⟩
  · exact .inl ⟨nT h,h⟩
theorem Lh {p:Part} {l:List Use}:∀ m,m≤l.length→(∀ k,k<m→fits p l k)∨∃ n,n<m∧IsAt p l n:=by
  classical
  intro m
  induction m with
  | zero=>intro _;exact .inl fun k hk=>absurd hk (Nat.not_lt_zero _)
  | succ m ih=>
    intro hm
    rcases ih (by omega) with h|⟨n,hn,h⟩
    · by_cases hf:fits p l m
      · refine .inl fun k hk=>?_
        by_cases e:k=m
        · subst e;exact hf
        · exact h k (by omega)
      · exact .inr ⟨m,by omega,by omega,h,fun _=>hf⟩
    · exact .inr ⟨n,by omega,h⟩
theorem aAi (p:Part) (l:List Use):∃ n,IsAt p l n:=by
  rcases Lh (p:=p) l.length (Nat.le_refl _) with h|⟨n,_,h⟩
  · exact ⟨l.length,Nat.le_refl _,h,fun h=>absurd h (Nat.lt_irrefl _)⟩
  · exact ⟨n,h⟩
noncomputable def atN (p:Part) (l:List Use):Nat:=Classical.choose (aAi p l)
theorem wO (p:Part) (l:List Use):IsAt p l (atN p l):=Classical.choose_spec (aAi p l)
theorem wP {p:Part} {l:List Use} {n:Nat} (h:IsAt p l n):atN p l=n:=(wO p l).same h
theorem Iw {p:Part} {l:List Use}:IsAt p l l.length↔atN p l=l.length:=⟨wP,fun h=>by have:=wO p l;rw [h] at this;exact this⟩
theorem aBg {p:Part} {l:List Use} (h:PartOk p l):∀ k,k≤l.length→(∀ q,q<k→fits p l q)→(fwd p l k).1≤(fwd p l k).2:=by
  intro k
  induction k with
  | zero=>intro _ _;exact Int.le_refl _
  | succ k ih=>
    intro hk hf
    have h1:=ih (by omega) fun q hq=>hf q (by omega)
    by_cases hm:(l.getD k Use.zero).meas=true
    · exact hf k (by omega) hm
    · have hu:=h.use (show k<l.length by omega)
      unfold useOk at hu
      simp only [decide_eq_true_eq] at hu
      have hr:=h.rate (k:=(l.getD k Use.zero).cls.toNat) (by omega)
      unfold iR at hr
      simp only [decide_eq_true_eq] at hr
      rw [fwd,if_neg hm]
      unfold addS dI
      have:=Int.mul_le_mul_of_nonneg_left hr.2.1 (show 0≤(l.getD k Use.zero).turns by omega)
      dsimp only
      omega
def fstep (p:Part) (s:Int×Int) (u:Use):Int×Int:=if u.meas then meetS (addS s (dI p u)) (u.lo,u.hi) else addS s (dI p u)
theorem Cy {p:Part} {l:List Use} (h:PartOk p l) {k:Nat} (hk:k<l.length) (hf:∀ q,q<k→fits p l q):fits p l k↔(fwd p l (k+1)).1≤(fwd p l (k+1)).2:=
  ⟨fun h'=>aBg h (k+1) (by omega) fun q hq=>by
    by_cases e:q=k
    · subst e;exact h'
    · exact hf q (by omega),fun h' _=>h'⟩
open Classical in
noncomputable def wearE (p:Part) (l:List Use):Int:=if bY p l≠0 then bY p l else if IsAt p l l.length then 0 else 3
theorem yR {p:Part} {l:List Use} (h:bY p l≠0):wearE p l=bY p l:=by unfold wearE;rw [if_pos h]
theorem wQ {p:Part} {l:List Use} (h:bY p l=0) (h':¬ IsAt p l l.length):wearE p l=3:=by unfold wearE;rw [if_neg (by omega),if_neg h']
theorem lY {p:Part} {l:List Use} (h:bY p l=0) (h':IsAt p l l.length):wearE p l=0:=by unfold wearE;rw [if_neg (by omega),if_pos h']
theorem mU {p:Part} {l:List Use} (h:wearE p l=0):bY p l=0∧IsAt p l l.length:=by
  unfold wearE at h
  split at h
  · exact absurd h (by assumption)
  · split at h
    · exact ⟨by omega,by assumption⟩
    · omega
noncomputable def refO (p:Part) (l:List Use):Int×Bool×Int:=if bY p l≠0 then (0,false,bY p l) else if atN p l<l.length then ((atN p l:Int),true,0) else (0,false,0)
def wornB (p:Part) (l:List Use) (k:Nat) (wr:Int):Bool:=(decide (p.turns<sumT l (k+1))||decide (p.age<(l.getD k Use.zero).day))||decide (p.worn*1000000<wr)
noncomputable def bI (p:Part) (l:List Use) (e:Int×Int→Int):Int×Int:=if wearE p l≠0 then (0,wearE p l) else (iT (fun k=>wornB p l k (e (bF p l k))) l.length,0)
def selE (g:Bool) (s:Int×Int):Int:=if g then s.2 else s.1
noncomputable def lastO (p:Part) (l plan:List Use):Int×Int:=
  if bY p (l++plan)≠0 then (0,bY p (l++plan)) else if plan.any (·.meas) then (0,1) else
  if (bI p (l++plan) Prod.snd).2≠0 then (0,(bI p (l++plan) Prod.snd).2) else
  if (bI p (l++plan) Prod.snd).1<0 then ((plan.length:Int),0) else (max (-1) ((bI p (l++plan) Prod.snd).1-l.length),0)
theorem Li {l m:List Use}:∀ q j,q<l.length+m.length→j<6→capp l.length (ucell l) (ucell m) q j=ucell (l++m) q j:=by
  intro q j hq hj
  unfold capp ucell
  by_cases h1:q<l.length
  · rw [if_pos h1,List.getD_eq_getElem?_getD,List.getD_eq_getElem?_getD,List.getElem?_append_left h1]
  · rw [if_neg h1,List.getD_eq_getElem?_getD,List.getD_eq_getElem?_getD,List.getElem?_append_right (by omega)]
theorem Lj (u:Use) (j:Nat):(u.cell j).oneCell'=true:=by
  unfold Use.cell
  split <;> rfl
theorem mV (l:List Use):∀ k j,k<l.length→j<6→(ucell l k j).oneCell'=true:=fun k j _ _=>Lj _ j
theorem Ll (s:Int×Int) (j:Nat):(oP s j).oneCell'=true:=by
  unfold oP
  split <;> rfl
theorem Gl (l:List (Int×Int)):∀ k j,k<l.length→j<2→(scell l k j).oneCell'=true:=fun k j _ _=>Ll _ j
theorem aEi {p:Part} {l:List Use} (e:Int×Int→Int) (h:wearE p l=0):bI p l e=(iT (fun k=>wornB p l k (e (bF p l k))) l.length,0):=by
  unfold bI
  rw [if_neg (by omega)]
end
section
theorem rD {n:Nat} {l:List Use}:∀ {k:Nat},eY n l k=true→0≤prevD l k:=by
  intro k
  induction k with
  | zero=>intro _;exact Int.le_refl _
  | succ k ih=>
    intro h
    unfold eY at h
    rw [iP (n:=0),Bool.and_eq_true] at h
    have h1:=ih h.1
    have h2:=h.2
    unfold useOk at h2
    simp only [decide_eq_true_eq] at h2
    show 0≤(l.getD k Use.zero).day
    omega
def FwdR (w:World) (p:Part) (l:List Use) (v:Value) (w':World):Prop:=
  (atN p l=l.length∧∃ A' c',v = .tuple #[.slice A' l.length c',.int .i64 (-1)]∧St w noF [ownM 79 2 A' l.length c' (fcell fun q=>fwd p l (q+1))] w')∨(atN p l<l.length∧v = .tuple #[.slice none 0 0,.int .i64 (atN p l:Int)]∧St w noF [] w')
theorem Cz {w:World} {p:Part} {l:List Use} {v:Value} {w':World} (hA:atN p l=l.length) (h:FwdR w p l v w'):∃ A' c',v = .tuple #[.slice A' l.length c',.int .i64 (-1)]∧St w noF [ownM 79 2 A' l.length c' (fcell fun q=>fwd p l (q+1))] w':=by
  rcases h with ⟨_,h⟩|⟨h,_⟩
  · exact h
  · omega
theorem Ix {w:World} {p:Part} {l:List Use} {v:Value} {w':World} (hA:atN p l<l.length) (h:FwdR w p l v w'):v = .tuple #[.slice none 0 0,.int .i64 (atN p l:Int)]∧St w noF [] w':=by
  rcases h with ⟨h,_⟩|⟨_,h⟩
  · omega
  · exact h
def WearR (w:World) (p:Part) (l:List Use) (v:Value) (w':World):Prop:=
  (wearE p l=0∧∃ A' c',v = .tuple #[.slice A' l.length c',.int .i64 0]∧St w noF [ownM 79 2 A' l.length c' (fcell (bF p l))] w')∨(wearE p l≠0∧v = .tuple #[.slice none 0 0,.int .i64 (wearE p l)]∧St w noF [] w')
theorem yS {w:World} {p:Part} {l:List Use} {v:Value} {w':World} (hA:wearE p l=0) (h:WearR w p l v w'):∃ A' c',v = .tuple #[.slice A' l.length c',.int .i64 0]∧St w noF [ownM 79 2 A' l.length c' (fcell (bF p l))] w':=by
  rcases h with ⟨_,h⟩|⟨h,_⟩
  · exact h
  · exact absurd hA h
theorem Da {w:World} {p:Part} {l:List Use} {v:Value} {w':World} (hA:wearE p l≠0) (h:WearR w p l v w'):v = .tuple #[.slice none 0 0,.int .i64 (wearE p l)]∧St w noF [] w':=by
  rcases h with ⟨h,_⟩|⟨_,h⟩
  · exact absurd h hA
  · exact h
theorem lK (rates:List (Int×Int)) (pwn ptn pag:Int) (RA:Option Addr) (rcp:Nat) (l:List Use) (A:Option Addr) (cp:Nat) (w:World) (hr:InS w noF 2 RA rates.length (scell rates)) (hrn:rates.length≤9223372036854775807) (hl:InS w noF 6 A l.length (ucell l)) (hn:l.length≤9223372036854775807) :
    Calls Tryz.prog 58 [.agg [.slice RA rates.length rcp,.int .i64 pwn,.int .i64 ptn,.int .i64 pag].toArray,.slice A l.length cp].toArray w (Ret (fun v w'=>v = .int .i64 (bY (⟨rates,pwn,ptn,pag⟩:Part) l)∧St w noF [] w')):=by
 refine enter Tryz.func58 rfl Tryz.ntmps58 rfl (fun a H=>?_)
 have S:=St.start w
 refine aA fun K1 k1=>?_
 refine aP H rfl S G G ?_;clear H a S;intro b2 _ a hb2 hbw2 S H
 refine ls 1 H<|sr 1 rfl<|sE ?_;clear H a;intro a H
 refine k1 _ _ ?_;clear k1 K1
 refine wp_seq_k fun K2 k2=>?_
 replace H:=H.keep [1,2] rfl
 refine sS H fun K3 k3=>sf fH rfl<|sl S 0 iA G G G<|sL cY rfl<|sc rfl Tryz.func76 G G (iS _ _ _ _)<|sr 2 rfl<|sg 4 5 13 17 false G G (fun hg6=>by
     have hq6:=hg6;try simp only [o1,o2,o3,o4,o5,o6,o7,o8,o9,oa] at hq6
     exact sy hg6<|sf tV rfl<|sy hg6<|sl S 0 aB G G G<|sy hg6<|sc rfl Tryz.func76 G G (iS _ _ _ _)<|sy hg6<|sr 1 rfl<|sz 4 G G G)<|so G G G<|sr 1 rfl<|sg 4 11 19 23 false G G (fun hg12=>by
     have hq12:=hg12;try simp only [o1,o2,o3,o4,o5,o6,o7,o8,o9,oa] at hq12
     exact sy hg12<|sf oH rfl<|sy hg12<|sl S 0 aB G G G<|sy hg12<|sc rfl Tryz.func76 G G (iS _ _ _ _)<|sy hg12<|sr 1 rfl<|sz 4 G G G)<|so G G G<|sr 1 rfl<|sg 4 17 25 29 false G G (fun hg18=>by
     have hq18:=hg18;try simp only [o1,o2,o3,o4,o5,o6,o7,o8,o9,oa] at hq18
     exact sy hg18<|sf qJ rfl<|sy hg18<|sl S 0 aB G G G<|sy hg18<|sc rfl Tryz.func76 G G (iS _ _ _ _)<|sy hg18<|sr 1 rfl<|sz 4 G G G)<|so G G G<|sE ?_;clear H a;intro a H
 refine k3 _ ?_;clear k3 K3
 refine aT H rfl (fun hc1=>?_) (fun hc1=>?_)
 ·skip
  try simp only [o1,o2,o3,o4,o5,o6,o7,o8,o9,oa] at hc1
  replace H:=H.keep [] rfl
  refine sS H fun K4 k4=>sr 1 rfl<|sE ?_;clear H a;intro a H
  refine k4 _ ?_;clear k4 K4
  refine wp_ret ?_
  refine ret1 (fn:=Tryz.f58) rfl H rfl ?_
  refine ⟨?_,(S.sel [] G G)⟩;unfold bY;rw [if_neg (by unfold iQ;simp only [decide_eq_true_eq];omega)]
 try simp only [o1,o2,o3,o4,o5,o6,o7,o8,o9,oa] at hc1
 refine wp_skip ?_
 refine k2 _ _ ?_
 refine wp_seq_k fun K5 k5=>?_
 have hhd:iQ (⟨rates,pwn,ptn,pag⟩:Part)=true:=by unfold iQ;simp only [decide_eq_true_eq];omega
 refine sS H fun K6 k6=>sr 1 rfl<|sE ?_;clear H a;intro a H
 refine k6 _ ?_;clear k6 K6
 refine wp_block ?_
 refine loop_st (X:=Nat) (R0:=_) [1,2] H rfl (fun k=>[(5,.int .i64 (k:Int))]) (fun k=>[]) (fun g k=>k≤rates.length∧g+k=rates.length∧(rates.take k).all iR=true) (rates.length) 0 ?_ (S.sel [0] G G) (H.keep [5,1,2] rfl) ?_
 · exact ⟨by omega,by omega,by simp⟩
 clear H S a
 intro g1 x1 a w1 hp S H K7 k7
 obtain ⟨k,rfl⟩:∃ y,y=x1:=⟨_,rfl⟩
 refine wp_seq_k fun K8 k8=>?_
 refine sS H fun K9 k9=>sr 1 rfl<|sf fH rfl<|sl S 0 iA G G G<|sL cY rfl<|sr 1 rfl<|sE ?_;clear H a;intro a H
 refine k9 _ ?_;clear k9 K9
 refine condL H rfl (fun hc2=>?_) (fun hc2=>?_)
 ·skip
  refine wp_skip ?_
  refine k8 _ _ ?_
  refine wp_seq_k fun K10 k10=>?_
  refine wp_block ?_
  replace H:=H.keep [1,2,5] rfl
  replace S:=S.drew
  refine sD H fun K11 k11=>sf fH rfl<|sl S 0 iA G G G<|sr 1 rfl<|si cY bC G G (hr.adr (by omega)) (by omega)<|sp cD rfl<|slm aB rfl (hr.rd S (by omega) (by omega))<|sf fH rfl<|sl S 0 iA G G G<|sr 1 rfl<|si cY bC G G (hr.adr (by omega)) (by omega)<|sp bW rfl<|slm aB rfl (hr.rd S (by omega) (by omega))<|sc rfl Tryz.func76 G G (iS _ _ _ _)<|sr 2 rfl<|sg 7 14 52 59 false G G (fun hg15=>by
      have hq15:=hg15;try simp only [o1,o2,o3,o4,o5,o6,o7,o8,o9,oa] at hq15
      exact sy hg15<|sf fH rfl<|sy hg15<|sl S 0 iA G G G<|sy hg15<|sr 1 rfl<|sy hg15<|si cY bC G G (hr.adr (by omega)) (by omega)<|sy hg15<|sp bW rfl<|sy hg15<|slm aB rfl (hr.rd S (by omega) (by omega))<|sy hg15<|sr 1 rfl<|sz 7 G G G)<|so G G G<|sE ?_;clear H a;intro a H
  refine k11 _ ?_;clear k11 K11
  refine aT H rfl (fun hc3=>?_) (fun hc3=>?_)
  ·skip
   try simp only [o1,o2,o3,o4,o5,o6,o7,o8,o9,oa] at hc3
   replace H:=H.keep [] rfl
   refine sS H fun K12 k12=>sr 1 rfl<|sE ?_;clear H a;intro a H
   refine k12 _ ?_;clear k12 K12
   refine wp_ret ?_
   refine ret1 (fn:=Tryz.f58) rfl H rfl ?_
   refine ⟨?_,(S.sel [] G G)⟩;unfold bY;rw [if_pos hhd];(try dsimp only);rw [yQ (k:=k) (d:=(0,0)) (by omega) (by unfold iR;simp only [decide_eq_false_iff_not];omega)];rfl
  try simp only [o1,o2,o3,o4,o5,o6,o7,o8,o9,oa] at hc3
  refine wp_skip ?_
  refine k10 _ _ ?_
  refine sO H<|sr 1 rfl<|sd (aG G G (by unfold i64ok;omega))<|sr 1 rfl<|sE ?_;clear H a;intro a H
  exact k7 (g1-1) (k+1) a _ (by omega) (⟨by omega,by omega,Cx (d:=(0,0)) (by omega) hp.2.2 (by unfold iR;simp only [decide_eq_true_eq];omega)⟩) (S.sel [0] G G) (H.keep [5,1,2] rfl)
 refine wp_exit ?_
 refine k5 _ _ ?_
 refine wp_seq_k fun K14 k14=>?_
 have hrt:rates.all iR=true:=by have h9:=hp.2.2;rw [List.take_of_length_le (by omega)] at h9;exact h9
 refine sS H fun K15 k15=>sr 1 rfl<|sL cG rfl<|sr 1 rfl<|sE ?_;clear H a;intro a H
 refine k15 _ ?_;clear k15 K15
 refine condL H rfl (fun hc4=>?_) (fun hc4=>?_)
 ·skip
  refine sS H fun K16 k16=>sr 1 rfl<|sE ?_;clear H a;intro a H
  refine k16 _ ?_;clear k16 K16
  refine wp_ret ?_
  refine ret1 (fn:=Tryz.f58) rfl H rfl ?_
  refine ⟨?_,(S.sel [] G G)⟩;unfold bY;rw [if_pos hhd,if_pos hrt,if_neg (by omega)]
 refine wp_skip ?_
 refine k14 _ _ ?_
 refine wp_seq_k fun K17 k17=>?_
 refine sS H fun K18 k18=>sr 1 rfl<|sE ?_;clear H a;intro a H
 refine k18 _ ?_;clear k18 K18
 refine wp_block ?_
 refine loop_st (X:=Nat) (R0:=_) [1,2] H rfl (fun j=>[(6,.int .i64 (j:Int))]) (fun j=>[]) (fun g j=>j≤l.length∧g+j=l.length∧eY rates.length l j=true) (l.length) 0 ?_ (S.sel [0] G G) (H.keep [6,1,2] rfl) ?_
 · exact ⟨by omega,by omega,rfl⟩
 clear H S a
 intro g2 x2 a w2 hp S H K19 k19
 obtain ⟨j,rfl⟩:∃ y,y=x2:=⟨_,rfl⟩
 refine wp_seq_k fun K20 k20=>?_
 refine sS H fun K21 k21=>sr 2 rfl<|sL cG rfl<|sr 1 rfl<|sE ?_;clear H a;intro a H
 refine k21 _ ?_;clear k21 K21
 refine condL H rfl (fun hc5=>?_) (fun hc5=>?_)
 ·skip
  refine wp_skip ?_
  refine k20 _ _ ?_
  refine wp_seq_k fun K22 k22=>?_
  refine wp_block ?_
  replace H:=H.keep [1,2,6] rfl
  refine aA fun K23 k23=>?_
  refine ls 4 H<|sr 2 rfl<|si cG bV G G (hl.adr (by omega)) (by omega)<|sd ((aU jE bV rfl S hl (by omega) (by omega)))<|sE ?_;clear H a;intro a H
  refine aM H rfl S fZ ?_;clear H a S;intro b7 _ a hb7 hbw7 S H
  refine aH H S (i:=0) G G G G bV G G ?_
  clear H a S;intro _ a S H
  refine k23 _ _ ?_;clear k23 K23
  refine wp_seq_k fun K24 k24=>?_
  have hpd:prevD l j=if 0<j then (l.getD (j-1) Use.zero).day else 0:=by cases j with|zero=>rfl|succ q=>rfl
  have hj9:((j:Int)-1).toNat=j-1:=by omega
  have hpn:=rD hp.2.2
  replace H:=H.keep [1,2,6,7] rfl
  replace S:=S.drew
  refine sD H fun K25 k25=>sf gY rfl<|sl S 0 aB G G G<|sc rfl Tryz.func76 G G (iS _ _ _ _)<|sr 2 rfl<|sg 13 4 78 91 false G G (fun hg5=>by
      have hq5:=hg5;try simp only [o1,o2,o3,o4,o5,o6,o7,o8,o9,oa] at hq5
      exact sy hg5<|sr 1 rfl<|sy hg5<|sr 1 rfl<|sy hg5<|sr 1 rfl<|sg 9 7 81 90 true G G (fun hg8=>by
           have hq8:=hg8;try simp only [o1,o2,o3,o4,o5,o6,o7,o8,o9,oa] at hq8
           exact sy hg8<|sf gY rfl<|sy hg8<|sl S 0 aB G G G<|sy hg8<|sr 1 rfl<|sy hg8<|sr 1 rfl<|sy hg8<|sd (aS G G (by unfold i64ok;omega))<|sy hg8<|sI cG bV G G (hl.adr (by omega)) (by omega) (by omega)<|sy hg8<|sp gY rfl<|sy hg8<|slm aB rfl (hl.rd S (by omega) (by omega))<|sy hg8<|sr 1 rfl<|sz 9 G G G)<|sy hg5<|sa G G G<|sz 5 G G G)<|so G G G<|sr 1 rfl<|sg 4 19 93 97 false G G (fun hg20=>by
      have hq20:=hg20;try simp only [o1,o2,o3,o4,o5,o6,o7,o8,o9,oa] at hq20
      exact sy hg20<|sf gZ rfl<|sy hg20<|sl S 0 aB G G G<|sy hg20<|sc rfl Tryz.func76 G G (iS _ _ _ _)<|sy hg20<|sr 1 rfl<|sz 4 G G G)<|so G G G<|sr 1 rfl<|sg 8 25 99 107 false G G (fun hg26=>by
      have hq26:=hg26;try simp only [o1,o2,o3,o4,o5,o6,o7,o8,o9,oa] at hq26
      exact sy hg26<|sf nL rfl<|sy hg26<|sl S 0 aB G G G<|sy hg26<|sf fH rfl<|sy hg26<|sl S 1 iA G G G<|sy hg26<|sL cY rfl<|sy hg26<|sd (aS G G (by unfold i64ok;omega))<|sy hg26<|sc rfl Tryz.func76 G G (iS _ _ _ _)<|sy hg26<|sr 1 rfl<|sz 8 G G G)<|so G G G<|sE ?_;clear H a;intro a H
  refine k25 _ ?_;clear k25 K25
  refine aT H rfl (fun hc6=>?_) (fun hc6=>?_)
  ·skip
   try simp only [o1,o2,o3,o4,o5,o6,o7,o8,o9,oa] at hc6
   rw [hj9] at hc6
   replace H:=H.keep [] rfl
   refine sS H fun K26 k26=>sr 1 rfl<|sE ?_;clear H a;intro a H
   refine k26 _ ?_;clear k26 K26
   refine wp_ret ?_
   refine ret1 (fn:=Tryz.f58) rfl H rfl ?_
   refine ⟨?_,(S.sel [] G G)⟩;unfold bY;rw [if_pos hhd,if_pos hrt,if_pos (by omega)];unfold eY;rw [hX (k:=j) (by omega) (by unfold useOk;simp only [decide_eq_false_iff_not];rw [hpd];omega)];rfl
  try simp only [o1,o2,o3,o4,o5,o6,o7,o8,o9,oa] at hc6
  rw [hj9] at hc6
  refine wp_skip ?_
  refine k24 _ _ ?_
  replace H:=H.keep [1,2,6,7] rfl
  refine sS H fun K27 k27=>sf lR rfl<|sl S 0 iV G G G<|sr 1 rfl<|sg 14 2 111 125 true G G (fun hg3=>by
      have hq3:=hg3;try simp only [o1,o2,o3,o4,o5,o6,o7,o8,o9,oa] at hq3
      exact sy hg3<|sf fR rfl<|sy hg3<|sf cD rfl<|sy hg3<|sl S 0 aB G G G<|sy hg3<|sf fR rfl<|sy hg3<|sf bW rfl<|sy hg3<|sl S 0 aB G G G<|sy hg3<|sc rfl Tryz.func76 G G (iS _ _ _ _)<|sy hg3<|sr 1 rfl<|sy hg3<|sr 1 rfl<|sg 4 11 120 124 false G G (fun hg12=>by
           have hq12:=hg12;try simp only [o1,o2,o3,o4,o5,o6,o7,o8,o9,oa] at hq12
           exact sy hg12<|sf fR rfl<|sy hg12<|sf bW rfl<|sy hg12<|sl S 0 aB G G G<|sy hg12<|sr 1 rfl<|sz 4 G G G)<|sy hg3<|so G G G<|sz 11 G G G)<|sa G G G<|sr 1 rfl<|sg 9 18 127 136 false G G (fun hg19=>by
      have hq19:=hg19;try simp only [o1,o2,o3,o4,o5,o6,o7,o8,o9,oa] at hq19
      exact sy hg19<|sf lR rfl<|sy hg19<|sl S 0 iV G G G<|sy hg19<|sr 1 rfl<|sy hg19<|sr 1 rfl<|sg 4 22 131 135 true G G (fun hg23=>by
           have hq23:=hg23;try simp only [o1,o2,o3,o4,o5,o6,o7,o8,o9,oa] at hq23
           exact sy hg23<|sf fR rfl<|sy hg23<|sd ((aD eK bC rfl S (i:=0) G G))<|sy hg23<|sd (aN kL G G)<|sy hg23<|sd (oV G G)<|sz 4 G G G)<|sy hg19<|sa G G G<|sz 6 G G G)<|so G G G<|sE ?_;clear H a;intro a H
  refine k27 _ ?_;clear k27 K27
  refine aT H rfl (fun hc7=>?_) (fun hc7=>?_)
  ·skip
   try simp only [o1,o2,o3,o4,o5,o6,o7,o8,o9,oa] at hc7
   replace H:=H.keep [] rfl
   refine sS H fun K28 k28=>sr 1 rfl<|sE ?_;clear H a;intro a H
   refine k28 _ ?_;clear k28 K28
   refine wp_ret ?_
   refine ret1 (fn:=Tryz.f58) rfl H rfl ?_
   refine ⟨?_,(S.sel [] rfl rfl)⟩;unfold bY;rw [if_pos hhd,if_pos hrt,if_pos (by omega)];unfold eY;rw [hX (k:=j) (by omega) (by unfold useOk;simp only [decide_eq_false_iff_not];generalize l.getD j Use.zero=u at hc6 hc7 ⊢;rintro ⟨_,_,_,_,hm⟩;cases hq:u.meas <;> simp [hq] at hc7 hm <;> omega)];rfl
  try simp only [o1,o2,o3,o4,o5,o6,o7,o8,o9,oa] at hc7
  refine wp_skip ?_
  refine k22 _ _ ?_
  refine sO H<|sr 1 rfl<|sd (aG G G (by unfold i64ok;omega))<|sr 1 rfl<|sE ?_;clear H a;intro a H
  exact k19 (g2-1) (j+1) a _ (by omega) (⟨by omega,by omega,by unfold eY;rw [iP (n:=0)];have h9:=hp.2.2;unfold eY at h9;rw [h9];simp only [Bool.true_and];unfold useOk;simp only [decide_eq_true_eq];rw [hpd] at hpn ⊢;generalize (l.getD (j-1) Use.zero).day=pd at hc6 hpn ⊢;generalize l.getD j Use.zero=u at hc6 hc7 ⊢;cases hq:u.meas <;> simp [hq] at hc7 ⊢ <;> omega⟩) (S.sel [1] G G) (H.keep [6,1,2] rfl)
 refine wp_exit ?_
 refine k17 _ _ ?_
 refine sS H fun K30 k30=>sr 1 rfl<|sE ?_;clear H a;intro a H
 refine k30 _ ?_;clear k30 K30
 refine wp_ret ?_
 refine ret1 (fn:=Tryz.f58) rfl H rfl ?_
 refine ⟨?_,(S.sel [] G G)⟩;have hj9:j=l.length:=by omega
 unfold bY;rw [if_pos hhd,if_pos hrt,if_pos (by omega)];rw [hj9] at hp;dsimp only;rw [if_pos hp.2.2]
theorem Lm (rates:List (Int×Int)) (pwn ptn pag:Int) (RA:Option Addr) (rcp:Nat) (s1 s2:Int) (u:Use) (w:World) (hr:InS w noF 2 RA rates.length (scell rates)) (hrn:rates.length≤9223372036854775807) (hcl:0≤u.cls∧u.cls<rates.length) (hg1:i64ok (dI (⟨rates,pwn,ptn,pag⟩:Part) u).1) (hg2:i64ok (dI (⟨rates,pwn,ptn,pag⟩:Part) u).2) (hg3:i64ok (s1+(dI (⟨rates,pwn,ptn,pag⟩:Part) u).1)) (hg4:i64ok (s2+(dI (⟨rates,pwn,ptn,pag⟩:Part) u).2)) :
    Calls Tryz.prog 96 [.agg [.slice RA rates.length rcp,.int .i64 pwn,.int .i64 ptn,.int .i64 pag].toArray,.agg [.int .i64 s1,.int .i64 s2].toArray,.agg [.int .i64 u.day,.int .i64 u.turns,.int .i64 u.cls,.bool u.meas,.int .i64 u.lo,.int .i64 u.hi].toArray].toArray w (Ret (fun v w'=>v = .agg [.int .i64 (fstep (⟨rates,pwn,ptn,pag⟩:Part) (s1,s2) u).1,.int .i64 (fstep (⟨rates,pwn,ptn,pag⟩:Part) (s1,s2) u).2].toArray∧St w noF [] w')):=by
 refine enter Tryz.func96 rfl Tryz.ntmps96 rfl (fun a H=>?_)
 have S:=St.start w
 refine aA fun K1 k1=>?_
 refine aP H rfl S G G ?_;clear H a S;intro b3 _ a hb3 hbw3 S H
 refine aP H rfl S G G ?_;clear H a S;intro b4 _ a hb4 hbw4 S H
 refine aP H rfl S G G ?_;clear H a S;intro b5 _ a hb5 hbw5 S H
 refine aM H rfl S eT ?_;clear H a S;intro b6 _ a hb6 hbw6 S H
 refine k1 _ _ ?_;clear k1 K1
 replace H:=H.keep [3,4,5,6] rfl
 refine aA fun K2 k2=>?_
 refine ls 6 H<|sf fH rfl<|sl S 3 iA G G G<|sf nL rfl<|sl S 1 aB G G G<|sI cY bC G G (hr.adr (by omega)) (by omega) (by omega)<|sd ((aU eK bC rfl S hr (by omega) (by omega)))<|sE ?_;clear H a;intro a H
 refine aM H rfl S eT ?_;clear H a S;intro b7 _ a hb7 hbw7 S H
 refine aH H S (i:=0) G G G G bC G G ?_
 clear H a S;intro _ a S H
 refine k2 _ _ ?_;clear k2 K2
 replace H:=H.keep [4,5,6,7] rfl
 refine aA fun K3 k3=>?_
 refine ls 17 H<|sf cD rfl<|sl S 3 aB G G G<|sf gZ rfl<|sl S 2 aB G G G<|sf cD rfl<|sl S 0 aB G G G<|sd (fJ G G (by exact hg1))<|sd (aG G G (by exact hg3))<|sf bW rfl<|sl S 3 aB G G G<|sf gZ rfl<|sl S 2 aB G G G<|sf bW rfl<|sl S 0 aB G G G<|sd (fJ G G (by exact hg2))<|sd (aG G G (by exact hg4))<|sd (aN kL G G)<|sE ?_;clear H a;intro a H
 refine aM H rfl S eT ?_;clear H a S;intro b8 _ a hb8 hbw8 S H
 refine aH H S (i:=0) G G G G bC G G ?_
 clear H a S;intro _ a S H
 refine k3 _ _ ?_;clear k3 K3
 have SR:=(S.sel [1,2,3,4,5] G G)
 refine fG (X:=Unit) [6,8] H rfl (fun x=>[]) (fun x=>[boxM b8 79 [.int .i64 (fstep (⟨rates,pwn,ptn,pag⟩:Part) (s1,s2) u).1,.int .i64 (fstep (⟨rates,pwn,ptn,pag⟩:Part) (s1,s2) u).2]]) (fun x=>True) SR (fun K5 k5=>?_) ?_
 ·skip
  replace H:=H.keep [5,6,8] rfl
  refine sS H fun K6 k6=>sf lR rfl<|sl S 3 iV G G G<|sE ?_;clear H a;intro a H
  refine k6 _ ?_;clear k6 K6
  refine aT H rfl (fun hc1=>?_) (fun hc1=>?_)
  ·skip
   try simp only [o1,o2,o3,o4,o5,o6,o7,o8,o9,oa] at hc1
   replace H:=H.keep [5,6,8] rfl
   refine cE ?_
   refine ls 13 H<|sf cD rfl<|sl S 0 aB G G G<|sf fR rfl<|sf cD rfl<|sl S 3 aB G G G<|sd (kE G G)<|sf bW rfl<|sl S 0 aB G G G<|sf fR rfl<|sf bW rfl<|sl S 3 aB G G G<|sd (mZ G G)<|sd (aN kL G G)<|sE ?_;clear H a;intro a H
   refine aH H S (i:=0) G G G G bC G G ?_
   clear H a S;intro _ a S H
   have e9:fstep (⟨rates,pwn,ptn,pag⟩:Part) (s1,s2) u=meetS (addS (s1,s2) (dI (⟨rates,pwn,ptn,pag⟩:Part) u)) (u.lo,u.hi):=by unfold fstep;rw [if_pos hc1]
   replace S:=boxM.same S (i:=0) (cs':=[.int .i64 (fstep (⟨rates,pwn,ptn,pag⟩:Part) (s1,s2) u).1,.int .i64 (fstep (⟨rates,pwn,ptn,pag⟩:Part) (s1,s2) u).2]) rfl (by rw [e9];rfl)
   exact k5 () a _ (trivial) (S.sel [0,1,2,3,4,5] G G) (H.keep [6,8] rfl)
  try simp only [o1,o2,o3,o4,o5,o6,o7,o8,o9,oa] at hc1
  refine wp_skip ?_
  have e9:fstep (⟨rates,pwn,ptn,pag⟩:Part) (s1,s2) u=addS (s1,s2) (dI (⟨rates,pwn,ptn,pag⟩:Part) u):=by unfold fstep;rw [if_neg (by rw [hc1];simp)]
  replace S:=boxM.same S (i:=0) (cs':=[.int .i64 (fstep (⟨rates,pwn,ptn,pag⟩:Part) (s1,s2) u).1,.int .i64 (fstep (⟨rates,pwn,ptn,pag⟩:Part) (s1,s2) u).2]) rfl (by rw [e9];rfl)
  exact k5 () a _ (trivial) (S.sel [0,1,2,3,4,5] G G) (H.keep [6,8] rfl)
 clear SR H S a
 intro xm a wm hp S H
 obtain ⟨x,rfl⟩:∃ y,y=xm:=⟨_,rfl⟩
 replace H:=H.keep [6,8] rfl
 refine aA fun K8 k8=>?_
 refine ls 1 H<|sd ((aD eK bC rfl S (i:=0) G G))<|sE ?_;clear H a;intro a H
 refine aH H S (i:=2) G G G G bC G G ?_
 clear H a S;intro _ a S H
 refine k8 _ _ ?_;clear k8 K8
 refine wp_ret ?_
 refine retA (fn:=Tryz.f96) rfl H rfl eK (by exact bC) (cT S (i:=2) rfl) ?_
 exact ⟨rfl,(S.sel [] G G)⟩
theorem lB (rates:List (Int×Int)) (pwn ptn pag:Int) (RA:Option Addr) (rcp:Nat) (l:List Use) (A:Option Addr) (cp:Nat) (w:World) (hr:InS w noF 2 RA rates.length (scell rates)) (hrn:rates.length≤9223372036854775807) (hl:InS w noF 6 A l.length (ucell l)) (hn:l.length≤9223372036854775807) (hok:PartOk (⟨rates,pwn,ptn,pag⟩:Part) l) :
    Calls Tryz.prog 77 [.agg [.slice RA rates.length rcp,.int .i64 pwn,.int .i64 ptn,.int .i64 pag].toArray,.slice A l.length cp].toArray w (Ret (FwdR w (⟨rates,pwn,ptn,pag⟩:Part) l)):=by
 refine enter Tryz.func77 rfl Tryz.ntmps77 rfl (fun a H=>?_)
 have S:=St.start w
 refine aA fun K1 k1=>?_
 refine aP H rfl S G G ?_;clear H a S;intro b2 _ a hb2 hbw2 S H
 refine ls 2 H<|sr 2 rfl<|sE ?_;clear H a;intro a H
 refine k1 _ _ ?_;clear k1 K1
 refine sS H fun K2 k2=>sr 1 rfl<|sE ?_;clear H a;intro a H
 refine k2 _ ?_;clear k2 K2
 refine aA fun K3 k3=>?_
 refine ls 1 H<|sd (aN kL G G)<|sE ?_;clear H a;intro a H
 refine aM H rfl S eT ?_;clear H a S;intro b7 _ a hb7 hbw7 S H
 refine aH H S (i:=0) G G G G bC G G ?_
 clear H a S;intro _ a S H
 refine k3 _ _ ?_;clear k3 K3
 refine wp_seq_k fun K4 k4=>?_
 refine sS H fun K5 k5=>sr 1 rfl<|sE ?_;clear H a;intro a H
 refine k5 _ ?_;clear k5 K5
 refine wp_block ?_
 replace S:=S.newNil 79 2 (fcell (fun q=>fwd (⟨rates,pwn,ptn,pag⟩:Part) l (q+1)))
 refine loop_st (X:=Nat×Option Addr×Nat) (R0:=_) [1,2,7] H rfl (fun ⟨k,A',c'⟩=>[(6,.slice A' k c'),(8,.int .i64 (k:Int))]) (fun ⟨k,A',c'⟩=>[boxM b7 79 [.int .i64 (fwd (⟨rates,pwn,ptn,pag⟩:Part) l k).1,.int .i64 (fwd (⟨rates,pwn,ptn,pag⟩:Part) l k).2],ownM 79 2 A' k c' (fcell (fun q=>fwd (⟨rates,pwn,ptn,pag⟩:Part) l (q+1)))]) (fun g ⟨k,A',c'⟩=>k≤l.length∧g+k=l.length∧∀ q,q<k→fits (⟨rates,pwn,ptn,pag⟩:Part) l q) (l.length) (0,none,0) ?_ (S.sel [1,0,2] G G) (H.keep [6,8,1,2,7] rfl) ?_
 · exact ⟨by omega,by omega,fun q hq=>by omega⟩
 clear H S a
 intro g1 x1 a w1 hp S H K6 k6
 obtain ⟨k,A',c'⟩:=x1
 dsimp only at hp S H
 refine wp_seq_k fun K7 k7=>?_
 refine sS H fun K8 k8=>sr 2 rfl<|sL cG rfl<|sr 1 rfl<|sE ?_;clear H a;intro a H
 refine k8 _ ?_;clear k8 K8
 refine condL H rfl (fun hc1=>?_) (fun hc1=>?_)
 ·skip
  refine wp_skip ?_
  refine k7 _ _ ?_
  refine wp_seq_k fun K9 k9=>?_
  refine wp_block ?_
  have hu:=hok.use (k:=k) (by omega);unfold useOk at hu;simp only [decide_eq_true_eq] at hu
  have hgb:=kO hok (k:=k) (by omega)
  have hcls:0≤(l.getD k Use.zero).cls∧(l.getD k Use.zero).cls<rates.length:=by
    have:((⟨rates,pwn,ptn,pag⟩:Part).rates.length:Int)=rates.length:=rfl
    omega
  have hll:=hok.len
  have hfb:=Ar hok k (by omega)
  replace H:=H.keep [1,2,6,7,8] rfl
  refine jK 6 (by kernel_rfl) (by kernel_rfl) fun K10 k10=>?_
  replace S:=S.drew
  refine sF H<|sd ((aD dE dV rfl S (i:=2) G G))<|sd ((aD eK bC rfl S (i:=0) G G))<|sr 2 rfl<|si cG bV G G (hl.adr (by omega)) (by omega)<|sd ((aU jE bV rfl S hl (by omega) (by omega)))<|sE ?_;clear H a;intro a H
  refine aC H G G Tryz.func96 G G (Lm rates pwn ptn pag RA rcp (fwd (⟨rates,pwn,ptn,pag⟩:Part) l k).1 (fwd (⟨rates,pwn,ptn,pag⟩:Part) l k).2 (l.getD k Use.zero) _ (hr.now S) hrn hcls (by unfold i64ok;omega) (by unfold i64ok;omega) (by unfold i64ok;omega) (by unfold i64ok;omega)) ?_;clear H a
  rintro _ _ a ⟨rfl,S2⟩ H
  replace S:=S.call S2;clear S2
  refine aH H S (i:=0) G G G G bC G G ?_
  clear H a S;intro _ a S H
  refine k10 _ _ ?_;clear k10 K10
  refine wp_seq_k fun K11 k11=>?_
  replace H:=H.keep [1,2,6,7,8] rfl
  refine sS H fun K12 k12=>sf cD rfl<|sl S 0 aB G G G<|sf bW rfl<|sl S 0 aB G G G<|sr 1 rfl<|sE ?_;clear H a;intro a H
  refine k12 _ ?_;clear k12 K12
  refine condL H rfl (fun hc2=>?_) (fun hc2=>?_)
  ·skip
   replace hc2:(fwd (⟨rates,pwn,ptn,pag⟩:Part) l (k+1)).2<(fwd (⟨rates,pwn,ptn,pag⟩:Part) l (k+1)).1:=hc2
   refine sS H fun K13 k13=>sr 3 rfl<|sE ?_;clear H a;intro a H
   refine k13 _ ?_;clear k13 K13
   refine wp_ret ?_
   refine ret2 (fn:=Tryz.f77) rfl H G G ?_
   have e9:atN (⟨rates,pwn,ptn,pag⟩:Part) l=k:=wP ⟨by omega,hp.2.2,fun _ hf=>absurd ((Cy hok (by omega) hp.2.2).1 hf) (Int.not_le.2 hc2)⟩
   exact .inr ⟨by omega,by rw [e9],(S.sel [] G G)⟩
  replace hc2:(fwd (⟨rates,pwn,ptn,pag⟩:Part) l (k+1)).1≤(fwd (⟨rates,pwn,ptn,pag⟩:Part) l (k+1)).2:=hc2
  refine wp_skip ?_
  refine k11 _ _ ?_
  replace H:=H.keep [1,2,6,7,8] rfl
  refine cE ?_
  refine ls 2 H<|sr 1 rfl<|sd ((aD eK bC rfl S (i:=0) G G))<|sE ?_;clear H a;intro a H
  refine aL H rfl S cY bC eT G G G G G G G G G ?_;clear H a S;intro A1 _ a hA1 S H
  refine aY H rfl S cY bC eT Ie G G (i:=2) G G G (ownM.inS S (i:=0) rfl) (jR (two G G)) (by omega) (by omega) ?_;clear H a S;intro A2 c2 _ a S H
  replace S:=S.recell (i:=2) rfl (cell':=fcell (fun q=>fwd (⟨rates,pwn,ptn,pag⟩:Part) l (q+1))) (wM (two G G))
  refine ls 1 H<|sr 1 rfl<|sE ?_;clear H a;intro a H
  refine k9 _ _ ?_
  refine sO H<|sr 1 rfl<|sd (aG G G (by unfold i64ok;omega))<|sr 1 rfl<|sE ?_;clear H a;intro a H
  exact k6 (g1-1) (k+1,_,_) a _ (by omega) (⟨by omega,by omega,fun q hq=>by
    by_cases h:q=k
    · subst h;exact (Cy hok (by omega) hp.2.2).2 hc2
    · exact hp.2.2 q (by omega)⟩) (S.sel [1,2,3] G G) (H.keep [6,8,1,2,7] rfl)
 refine wp_exit ?_
 refine k4 _ _ ?_
 replace H:=H.keep [6] rfl
 refine sS H fun K16 k16=>sr 3 rfl<|sE ?_;clear H a;intro a H
 refine k16 _ ?_;clear k16 K16
 refine wp_ret ?_
 refine ret2 (fn:=Tryz.f77) rfl H G G ?_
 have hk9:k=l.length:=by omega
 subst hk9
 exact .inl ⟨wP ⟨Nat.le_refl _,hp.2.2,fun h=>absurd h (Nat.lt_irrefl _)⟩,A',c',rfl,(S.sel [1] G G)⟩
theorem Db (rates:List (Int×Int)) (pwn ptn pag:Int) (RA:Option Addr) (rcp:Nat) (l:List Use) (A:Option Addr) (cp:Nat) (w:World) (hr:InS w noF 2 RA rates.length (scell rates)) (hrn:rates.length≤9223372036854775807) (hl:InS w noF 6 A l.length (ucell l)) (hn:l.length≤9223372036854775807) (hok:PartOk (⟨rates,pwn,ptn,pag⟩:Part) l) (h0:bY (⟨rates,pwn,ptn,pag⟩:Part) l=0) :
    Calls Tryz.prog 84 [.agg [.slice RA rates.length rcp,.int .i64 pwn,.int .i64 ptn,.int .i64 pag].toArray,.slice A l.length cp].toArray w (Ret (WearR w (⟨rates,pwn,ptn,pag⟩:Part) l)):=by
 refine enter Tryz.func84 rfl Tryz.ntmps84 rfl (fun a H=>?_)
 have S:=St.start w
 refine aA fun K1 k1=>?_
 refine aP H rfl S G G ?_;clear H a S;intro b2 _ a hb2 hbw2 S H
 refine ls 2 H<|sr 2 rfl<|sE ?_;clear H a;intro a H
 refine k1 _ _ ?_;clear k1 K1
 rcases (show atN (⟨rates,pwn,ptn,pag⟩:Part) l=l.length∨atN (⟨rates,pwn,ptn,pag⟩:Part) l<l.length from by have:=(wO (⟨rates,pwn,ptn,pag⟩:Part) l).le;omega) with hA|hA
 ·skip
  replace H:=H.keep [1,2] rfl
  refine aA fun K2 k2=>?_
  refine ls 2 H<|sd ((aD dE dV rfl S (i:=0) G G))<|sr 1 rfl<|sE ?_;clear H a;intro a H
  refine aC H G G Tryz.func77 G G (dU (lB rates pwn ptn pag RA rcp l A cp _ (hr.now S) hrn (hl.now S) hn hok) (fun _ _=>Cz hA)) ?_;clear H a
  rintro _ _ a ⟨A',c',rfl,S2⟩ H
  replace S:=S.call S2;clear S2
  refine ls 5 H<|sr 5 rfl<|sE ?_;clear H a;intro a H
  refine k2 _ _ ?_;clear k2 K2
  refine wp_seq_k fun K3 k3=>?_
  replace H:=H.keep [1,2,6,7] rfl
  refine sS H fun K4 k4=>sr 2 rfl<|sE ?_;clear H a;intro a H
  refine k4 _ ?_;clear k4 K4
  refine aT H rfl (fun hc1=>?_) (fun hc1=>?_)
  ·skip
   skip
   simp at hc1
  skip
  refine wp_skip ?_
  refine k3 _ _ ?_
  refine wp_seq_k fun K5 k5=>?_
  refine sS H fun K6 k6=>sr 1 rfl<|sL cG rfl<|sd (aS G G (by unfold i64ok;omega))<|sr 1 rfl<|sE ?_;clear H a;intro a H
  refine k6 _ ?_;clear k6 K6
  refine wp_block ?_
  have hll:=hok.len
  replace S:=S.recell (i:=0) rfl (cell':=fcell (fun q=>if (l.length:Int)-2<((q:Nat):Int) then bF (⟨rates,pwn,ptn,pag⟩:Part) l q else fwd (⟨rates,pwn,ptn,pag⟩:Part) l (q+1))) (fun q j hq hj=>by
    unfold fcell;congr 1;(try dsimp only);by_cases h1:(l.length:Int)-2<((q:Nat):Int)
    · rw [if_pos h1,lA (show q+1=l.length by omega),show q+1=l.length by omega]
    · rw [if_neg h1])
  refine loop_st (X:=Int) (R0:=_) [1,2,6] H rfl (fun i=>[(8,.int .i64 i)]) (fun i=>[ownM 79 2 A' l.length c' (fcell (fun q=>if i<((q:Nat):Int) then bF (⟨rates,pwn,ptn,pag⟩:Part) l q else fwd (⟨rates,pwn,ptn,pag⟩:Part) l (q+1)))]) (fun g i => -2≤i∧i≤(l.length:Int)-2∧g=(i+2).toNat) (l.length) ((l.length:Int)-2) ?_ (S.sel [0,1] G G) (H.keep [8,1,2,6] rfl) ?_
  · exact ⟨by omega,by omega,by omega⟩
  clear H S a
  intro g1 x1 a w1 hp S H K7 k7
  obtain ⟨i,rfl⟩:∃ y,y=x1:=⟨_,rfl⟩
  refine wp_seq_k fun K8 k8=>?_
  refine sS H fun K9 k9=>sr 2 rfl<|sE ?_;clear H a;intro a H
  refine k9 _ ?_;clear k9 K9
  refine condG H rfl (fun hc2=>?_) (fun hc2=>?_)
  ·skip
   refine wp_skip ?_
   refine k8 _ _ ?_
   refine wp_seq_k fun K10 k10=>?_
   refine wp_block ?_
   have hu:=hok.use (k:=(i+1).toNat) (by omega);unfold useOk at hu;simp only [decide_eq_true_eq] at hu
   have hgb:=kO hok (k:=(i+1).toNat) (by omega)
   have hcls:0≤(l.getD (i+1).toNat Use.zero).cls∧(l.getD (i+1).toNat Use.zero).cls<rates.length:=by
     have:((⟨rates,pwn,ptn,pag⟩:Part).rates.length:Int)=rates.length:=rfl
     omega
   have hll:=hok.len
   have hnn:0≤i+1:=by omega
   have hbw:=iY hok (k:=(i+1).toNat) (by omega)
   have ht8:(i+1).toNat=i.toNat+1:=by omega
   have hgr:dI (⟨rates,pwn,ptn,pag⟩:Part) (l.getD (i+1).toNat Use.zero)=((l.getD (i+1).toNat Use.zero).turns*(rates.getD (l.getD (i+1).toNat Use.zero).cls.toNat (0,0)).1,(l.getD (i+1).toNat Use.zero).turns*(rates.getD (l.getD (i+1).toNat Use.zero).cls.toNat (0,0)).2):=rfl
   rw [hgr] at hgb
   replace H:=H.keep [1,2,6,8] rfl
   replace S:=S.drew
   refine cJ [(0,true),(1,true),(2,true),(3,true),(4,true),(5,true),(6,true),(7,true),(8,true),(9,true),(10,false),(11,false)] (by kernel_rfl) (by kernel_rfl) (S.sel [0,1] G G) fun K11 k11=>?_
   refine qF H<|qd rfl (fun _ S=>(aF fH rfl))<|qd rfl (fun _ S=>aE iA rfl (boxM.rd S (i:=1) G G))<|qr 2 rfl<|qd rfl (fun _ S=>aG G G (by unfold i64ok;omega))<|qd rfl (fun _ S=>bP cG bV G G (hl.adr (by omega)) (by omega) (by omega))<|qd rfl (fun _ S=>(bR nL rfl))<|qd rfl (fun _ S=>aE aB rfl (hl.rd S (by omega) (by omega)))<|qd rfl (fun _ S=>bP cY bC G G (hr.adr (by omega)) (by omega) (by omega))<|qd rfl (fun _ S=>(aU eK bC rfl S hr (by omega) (by omega)))<|qK ?_;clear H a;intro a H
   refine bA rfl ?_
   refine aM H rfl S eT ?_;clear H a S;intro b9 _ a hb9 hbw9 S H
   refine wpList_nil (And.intro (S.sel [1,2] G G) ?_)
   refine bA rfl ?_
   refine aH H S (i:=0) G G G G bC G G ?_
   clear H a S;intro _ a S H
   refine wpList_nil (And.intro (S.sel [1,2] G G) ?_)
   refine bU ?_
   refine k11 _ _ ?_
   clear k11 K11
   replace H:=H.keep [1,2,6,8,9] rfl
   refine jK 26 (by kernel_rfl) (by kernel_rfl) fun K12 k12=>?_
   replace S:=S.drew
   refine sF H<|sr 4 rfl<|sI cY bC G G (ownM.adr S (i:=1) rfl (by omega)) (by omega) (by omega)<|sp cD rfl<|sd (aE aB rfl (by have h9:=ownM.rd S (i:=1) (k:=i.toNat) (j:=0) rfl (by omega) (by omega);unfold fcell at h9;dsimp only at h9;rw [if_neg (by omega)] at h9;exact h9))<|sr 2 rfl<|sd (aG G G (by unfold i64ok;omega))<|sI cY bC G G (ownM.adr S (i:=1) rfl (by omega)) (by omega) (by omega)<|sp cD rfl<|sd (aE aB rfl (by have h9:=ownM.rd S (i:=1) (k:=(i+1).toNat) (j:=0) rfl (by omega) (by omega);unfold fcell at h9;dsimp only at h9;rw [if_pos (by omega)] at h9;exact h9))<|sr 2 rfl<|sd (aG G G (by unfold i64ok;omega))<|sI cG bV G G (hl.adr (by omega)) (by omega) (by omega)<|sp gZ rfl<|slm aB rfl (hl.rd S (by omega) (by omega))<|sf bW rfl<|sl S 0 aB G G G<|sd (fJ G G (by unfold i64ok;omega))<|sd (aS G G (by unfold i64ok;omega))<|sd (kE G G)<|sI cY bC G G (ownM.adr S (i:=1) rfl (by omega)) (by omega) (by omega)<|sp cD rfl<|sE ?_;clear H a;intro a H
   refine aZ H S (i:=1) (j:=0) G G G (by omega) (by omega) aW rfl ?_
   clear H a S;intro _ a S H
   have S:=S.recell (i:=1) rfl (cell':=fcell (fun q=>if q=i.toNat then ((bF (⟨rates,pwn,ptn,pag⟩:Part) l q).1,(fwd (⟨rates,pwn,ptn,pag⟩:Part) l (q+1)).2) else if i<((q:Nat):Int) then bF (⟨rates,pwn,ptn,pag⟩:Part) l q else fwd (⟨rates,pwn,ptn,pag⟩:Part) l (q+1))) (fun q j hq hj=>by
     have e9:=eG (p:=(⟨rates,pwn,ptn,pag⟩:Part)) (l:=l) (k:=i.toNat) (by omega)
     unfold cput fcell;by_cases h1:q=i.toNat
     · subst h1;rcases (show j=0∨j=1 by omega) with rfl|rfl
       · rw [if_pos ⟨rfl,rfl⟩];dsimp only;rw [if_pos rfl];show Value.int .i64 _=Value.int .i64 (bF (⟨rates,pwn,ptn,pag⟩:Part) l i.toNat).1;rw [ht8,e9];rfl
       · rw [if_neg (by omega)];dsimp only;rw [if_pos rfl,if_neg (by omega)];rfl
     · rw [if_neg (by omega)];dsimp only;rw [if_neg h1])
   refine k12 _ _ ?_;clear k12 K12
   replace H:=H.keep [1,2,6,8,9] rfl
   refine iH 26 (by kernel_rfl) (by kernel_rfl) ?_
   replace S:=S.drew
   refine sF H<|sr 4 rfl<|sI cY bC G G (ownM.adr S (i:=1) rfl (by omega)) (by omega) (by omega)<|sp bW rfl<|sd (aE aB rfl (by have h9:=ownM.rd S (i:=1) (k:=i.toNat) (j:=1) rfl (by omega) (by omega);unfold fcell at h9;dsimp only at h9;rw [if_pos rfl] at h9;exact h9))<|sr 2 rfl<|sd (aG G G (by unfold i64ok;omega))<|sI cY bC G G (ownM.adr S (i:=1) rfl (by omega)) (by omega) (by omega)<|sp bW rfl<|sd (aE aB rfl (by have h9:=ownM.rd S (i:=1) (k:=(i+1).toNat) (j:=1) rfl (by omega) (by omega);unfold fcell at h9;dsimp only at h9;rw [if_neg (by omega),if_pos (by omega)] at h9;exact h9))<|sr 2 rfl<|sd (aG G G (by unfold i64ok;omega))<|sI cG bV G G (hl.adr (by omega)) (by omega) (by omega)<|sp gZ rfl<|slm aB rfl (hl.rd S (by omega) (by omega))<|sf cD rfl<|sl S 0 aB G G G<|sd (fJ G G (by unfold i64ok;omega))<|sd (aS G G (by unfold i64ok;omega))<|sd (mZ G G)<|sI cY bC G G (ownM.adr S (i:=1) rfl (by omega)) (by omega) (by omega)<|sp bW rfl<|sE ?_;clear H a;intro a H
   refine aZ H S (i:=1) (j:=1) G G G (by omega) (by omega) aW rfl ?_
   clear H a S;intro _ a S H
   have S:=S.recell (i:=1) rfl (cell':=fcell (fun q=>if i-1<((q:Nat):Int) then bF (⟨rates,pwn,ptn,pag⟩:Part) l q else fwd (⟨rates,pwn,ptn,pag⟩:Part) l (q+1))) (fun q j hq hj=>by
     have e9:=eG (p:=(⟨rates,pwn,ptn,pag⟩:Part)) (l:=l) (k:=i.toNat) (by omega)
     unfold cput fcell;by_cases h1:q=i.toNat
     · subst h1;rcases (show j=0∨j=1 by omega) with rfl|rfl
       · rw [if_neg (by omega)];dsimp only;rw [if_pos rfl,if_pos (by omega)];rfl
       · rw [if_pos ⟨rfl,rfl⟩];dsimp only;rw [if_pos (by omega)];show Value.int .i64 _=Value.int .i64 (bF (⟨rates,pwn,ptn,pag⟩:Part) l i.toNat).2;rw [ht8,e9];rfl
     · rw [if_neg (by omega)];dsimp only;rw [if_neg h1];by_cases h2:i<(q:Int)
       · rw [if_pos h2,if_pos (by omega)]
       · rw [if_neg h2,if_neg (by omega)])
   refine k10 _ _ ?_
   replace H:=H.keep [1,2,6,8] rfl
   refine sO H<|sr 1 rfl<|sd (aS G G (by unfold i64ok;omega))<|sr 1 rfl<|sE ?_;clear H a;intro a H
   exact k7 (g1-1) (i-1) a _ (by omega) (⟨by omega,by omega,by omega⟩) (S.sel [1,2] G G) (H.keep [8,1,2,6] rfl)
  refine wp_exit ?_
  refine k5 _ _ ?_
  refine sS H fun K15 k15=>sr 3 rfl<|sE ?_;clear H a;intro a H
  refine k15 _ ?_;clear k15 K15
  refine wp_ret ?_
  refine ret2 (fn:=Tryz.f84) rfl H G G ?_
  refine .inl ⟨lY h0 (Iw.2 hA),A',c',rfl,?_⟩
  replace S:=S.recell (i:=0) rfl (cell':=fcell (bF (⟨rates,pwn,ptn,pag⟩:Part) l)) (fun q j hq hj=>by unfold fcell;congr 1;exact if_pos (by omega))
  exact (S.sel [0] G G)
 replace H:=H.keep [1,2] rfl
 refine aA fun K16 k16=>?_
 refine ls 2 H<|sd ((aD dE dV rfl S (i:=0) G G))<|sr 1 rfl<|sE ?_;clear H a;intro a H
 refine aC H G G Tryz.func77 G G (dU (lB rates pwn ptn pag RA rcp l A cp _ (hr.now S) hrn (hl.now S) hn hok) (fun _ _=>Ix hA)) ?_;clear H a
 rintro _ _ a ⟨rfl,S2⟩ H
 replace S:=S.call S2;clear S2
 refine ls 5 H<|sr 5 rfl<|sE ?_;clear H a;intro a H
 refine k16 _ _ ?_;clear k16 K16
 refine wp_seq_k fun K17 k17=>?_
 replace H:=H.keep [1,2,6,7] rfl
 refine sS H fun K18 k18=>sr 2 rfl<|sE ?_;clear H a;intro a H
 refine k18 _ ?_;clear k18 K18
 refine condG H rfl (fun hc3=>?_) (fun hc3=>?_)
 ·skip
  refine sS H fun K19 k19=>sr 2 rfl<|sE ?_;clear H a;intro a H
  refine k19 _ ?_;clear k19 K19
  refine wp_ret ?_
  refine ret2 (fn:=Tryz.f84) rfl H G G ?_
  have e9:=wQ h0 (fun h=>by have:=wP h;omega)
  exact .inr ⟨by omega,by rw [e9],(S.sel [] G G)⟩
 all_goals (exfalso;omega)
end
section
theorem or3 (a b c:Bool):((a||b)||c)=((b||c)||a):=by cases a <;> cases b <;> cases c <;> rfl
theorem pM (rates:List (Int×Int)) (pwn ptn pag:Int) (RA:Option Addr) (rcp:Nat) (l:List Use) (A:Option Addr) (cp:Nat) (w:World) (hr:InS w noF 2 RA rates.length (scell rates)) (hrn:rates.length≤9223372036854775807) (hl:InS w noF 6 A l.length (ucell l)) (hn:l.length≤9223372036854775807) :
    Calls Tryz.prog 67 [.agg [.slice RA rates.length rcp,.int .i64 pwn,.int .i64 ptn,.int .i64 pag].toArray,.slice A l.length cp].toArray w (Ret (WearR w (⟨rates,pwn,ptn,pag⟩:Part) l)):=by
 refine enter Tryz.func67 rfl Tryz.ntmps67 rfl (fun a H=>?_)
 have S:=St.start w
 refine aA fun K1 k1=>?_
 refine aP H rfl S G G ?_;clear H a S;intro b2 _ a hb2 hbw2 S H
 refine ls 2 H<|sr 2 rfl<|sE ?_;clear H a;intro a H
 refine k1 _ _ ?_;clear k1 K1
 refine wp_seq_k fun K2 k2=>?_
 refine aA fun K3 k3=>?_
 refine ls 2 H<|sd ((aD dE dV rfl S (i:=0) G G))<|sr 1 rfl<|sE ?_;clear H a;intro a H
 refine aC H G G Tryz.func81 G G (tN rates pwn ptn pag RA rcp l A cp _ (hr.now S) hrn (hl.now S) hn) ?_;clear H a
 rintro _ _ a ⟨rfl,S2⟩ H
 replace S:=S.call S2;clear S2
 refine ls 1 H<|sr 1 rfl<|sE ?_;clear H a;intro a H
 refine k3 _ _ ?_;clear k3 K3
 refine sS H fun K4 k4=>sr 2 rfl<|sE ?_;clear H a;intro a H
 refine k4 _ ?_;clear k4 K4
 refine condN H rfl (fun hc1=>?_) (fun hc1=>?_)
 ·skip
  replace H:=H.keep [6] rfl
  refine sS H fun K5 k5=>sr 3 rfl<|sE ?_;clear H a;intro a H
  refine k5 _ ?_;clear k5 K5
  refine wp_ret ?_
  refine ret2 (fn:=Tryz.f67) rfl H G G ?_
  have e9:=yR (p:=(⟨rates,pwn,ptn,pag⟩:Part)) (l:=l) (by omega)
  exact .inr ⟨by omega,by rw [e9],(S.sel [] G G)⟩
 refine wp_skip ?_
 refine k2 _ _ ?_
 have h0:bY (⟨rates,pwn,ptn,pag⟩:Part) l=0:=by omega
 have hok:=kB h0
 by_cases hA:IsAt (⟨rates,pwn,ptn,pag⟩:Part) l l.length
 ·skip
  replace H:=H.keep [1,2] rfl
  refine aA fun K6 k6=>?_
  refine ls 2 H<|sd ((aD dE dV rfl S (i:=0) G G))<|sr 1 rfl<|sE ?_;clear H a;intro a H
  refine aC H G G Tryz.func82 G G (dU (wN rates pwn ptn pag RA rcp l A cp _ (hr.now S) hrn (hl.now S) hn hok) (fun _ _=>Qv hA)) ?_;clear H a
  rintro _ _ a ⟨A',c',rfl,S2⟩ H
  replace S:=S.call S2;clear S2
  refine ls 5 H<|sr 5 rfl<|sE ?_;clear H a;intro a H
  refine k6 _ _ ?_;clear k6 K6
  refine wp_seq_k fun K7 k7=>?_
  replace H:=H.keep [7,8] rfl
  refine sS H fun K8 k8=>sr 2 rfl<|sE ?_;clear H a;intro a H
  refine k8 _ ?_;clear k8 K8
  refine aT H rfl (fun hc2=>?_) (fun hc2=>?_)
  ·skip
   skip
   cases hc2
  skip
  refine wp_skip ?_
  refine k7 _ _ ?_
  refine sS H fun K9 k9=>sr 3 rfl<|sE ?_;clear H a;intro a H
  refine k9 _ ?_;clear k9 K9
  refine wp_ret ?_
  refine ret2 (fn:=Tryz.f67) rfl H G G ?_
  exact .inl ⟨lY h0 hA,A',c',rfl,(S.sel [0] G G)⟩
 replace H:=H.keep [1,2] rfl
 refine aA fun K10 k10=>?_
 refine ls 2 H<|sd ((aD dE dV rfl S (i:=0) G G))<|sr 1 rfl<|sE ?_;clear H a;intro a H
 refine aC H G G Tryz.func82 G G (dU (wN rates pwn ptn pag RA rcp l A cp _ (hr.now S) hrn (hl.now S) hn hok) (fun _ _=>Wo hA)) ?_;clear H a
 rintro _ _ a ⟨rfl,S2⟩ H
 replace S:=S.call S2;clear S2
 refine ls 5 H<|sr 5 rfl<|sE ?_;clear H a;intro a H
 refine k10 _ _ ?_;clear k10 K10
 refine wp_seq_k fun K11 k11=>?_
 replace H:=H.keep [7,8] rfl
 refine sS H fun K12 k12=>sr 2 rfl<|sE ?_;clear H a;intro a H
 refine k12 _ ?_;clear k12 K12
 refine aT H rfl (fun hc3=>?_) (fun hc3=>?_)
 ·skip
  skip
  refine sS H fun K13 k13=>sr 2 rfl<|sE ?_;clear H a;intro a H
  refine k13 _ ?_;clear k13 K13
  refine wp_ret ?_
  refine ret2 (fn:=Tryz.f67) rfl H G G ?_
  have e9:=wQ h0 hA
  exact .inr ⟨by omega,by rw [e9],(S.sel [] G G)⟩
 skip
 cases hc3
theorem Dc (rates:List (Int×Int)) (pwn ptn pag:Int) (RA:Option Addr) (rcp:Nat) (l:List Use) (A:Option Addr) (cp:Nat) (w:World) (hr:InS w noF 2 RA rates.length (scell rates)) (hrn:rates.length≤9223372036854775807) (hl:InS w noF 6 A l.length (ucell l)) (hn:l.length≤9223372036854775807) :
    Calls Tryz.prog 59 [.agg [.slice RA rates.length rcp,.int .i64 pwn,.int .i64 ptn,.int .i64 pag].toArray,.slice A l.length cp].toArray w (Ret (fun v w'=>v = .tuple #[.int .i64 (refO (⟨rates,pwn,ptn,pag⟩:Part) l).1,.bool (refO (⟨rates,pwn,ptn,pag⟩:Part) l).2.1,.int .i64 (refO (⟨rates,pwn,ptn,pag⟩:Part) l).2.2]∧St w noF [] w')):=by
 refine enter Tryz.func59 rfl Tryz.ntmps59 rfl (fun a H=>?_)
 have S:=St.start w
 refine aA fun K1 k1=>?_
 refine aP H rfl S G G ?_;clear H a S;intro b2 _ a hb2 hbw2 S H
 refine ls 3 H<|sr 3 rfl<|sE ?_;clear H a;intro a H
 refine k1 _ _ ?_;clear k1 K1
 refine aA fun K2 k2=>?_
 refine ls 2 H<|sd ((aD dE dV rfl S (i:=0) G G))<|sr 1 rfl<|sE ?_;clear H a;intro a H
 refine aC H G G Tryz.func58 G G (lK rates pwn ptn pag RA rcp l A cp _ (hr.now S) hrn (hl.now S) hn) ?_;clear H a
 rintro _ _ a ⟨rfl,S2⟩ H
 replace S:=S.call S2;clear S2
 refine ls 1 H<|sr 1 rfl<|sE ?_;clear H a;intro a H
 refine k2 _ _ ?_;clear k2 K2
 refine wp_seq_k fun K3 k3=>?_
 replace H:=H.keep [1,2,7] rfl
 refine sS H fun K4 k4=>sr 2 rfl<|sE ?_;clear H a;intro a H
 refine k4 _ ?_;clear k4 K4
 refine condN H rfl (fun hc1=>?_) (fun hc1=>?_)
 ·skip
  refine sS H fun K5 k5=>sr 4 rfl<|sE ?_;clear H a;intro a H
  refine k5 _ ?_;clear k5 K5
  refine wp_ret ?_
  refine ret3 (fn:=Tryz.f59) rfl H G G G ?_
  unfold refO;rw [if_pos (by omega)];exact ⟨rfl,(S.sel [] G G)⟩
 refine wp_skip ?_
 refine k3 _ _ ?_
 have h0:bY (⟨rates,pwn,ptn,pag⟩:Part) l=0:=by omega
 have hok:=kB h0
 rcases (show atN (⟨rates,pwn,ptn,pag⟩:Part) l=l.length∨atN (⟨rates,pwn,ptn,pag⟩:Part) l<l.length from by have:=(wO (⟨rates,pwn,ptn,pag⟩:Part) l).le;omega) with hA|hA
 ·skip
  replace H:=H.keep [1,2] rfl
  refine aA fun K6 k6=>?_
  refine ls 2 H<|sd ((aD dE dV rfl S (i:=0) G G))<|sr 1 rfl<|sE ?_;clear H a;intro a H
  refine aC H G G Tryz.func77 G G (dU (lB rates pwn ptn pag RA rcp l A cp _ (hr.now S) hrn (hl.now S) hn hok) (fun _ _=>Cz hA)) ?_;clear H a
  rintro _ _ a ⟨A',c',rfl,S2⟩ H
  replace S:=S.call S2;clear S2
  refine ls 5 H<|sr 5 rfl<|sE ?_;clear H a;intro a H
  refine k6 _ _ ?_;clear k6 K6
  replace H:=H.keep [9] rfl
  refine sS H fun K7 k7=>sr 1 rfl<|sd (kE G G)<|sr 5 rfl<|sE ?_;clear H a;intro a H
  refine k7 _ ?_;clear k7 K7
  refine wp_ret ?_
  refine ret3 (fn:=Tryz.f59) rfl H G G G ?_
  unfold refO;rw [if_neg (by omega),if_neg (by omega)];exact ⟨rfl,(S.sel [] G G)⟩
 replace H:=H.keep [1,2] rfl
 refine aA fun K8 k8=>?_
 refine ls 2 H<|sd ((aD dE dV rfl S (i:=0) G G))<|sr 1 rfl<|sE ?_;clear H a;intro a H
 refine aC H G G Tryz.func77 G G (dU (lB rates pwn ptn pag RA rcp l A cp _ (hr.now S) hrn (hl.now S) hn hok) (fun _ _=>Ix hA)) ?_;clear H a
 rintro _ _ a ⟨rfl,S2⟩ H
 replace S:=S.call S2;clear S2
 refine ls 5 H<|sr 5 rfl<|sE ?_;clear H a;intro a H
 refine k8 _ _ ?_;clear k8 K8
 replace H:=H.keep [9] rfl
 refine sS H fun K9 k9=>sr 1 rfl<|sd (kE G G)<|sr 5 rfl<|sE ?_;clear H a;intro a H
 refine k9 _ ?_;clear k9 K9
 refine wp_ret ?_
 refine ret3 (fn:=Tryz.f59) rfl H G G G ?_
 unfold refO;rw [if_neg (by omega),if_pos hA];refine ⟨?_,(S.sel [] G G)⟩
 have e1:max 0 ((atN (⟨rates,pwn,ptn,pag⟩:Part) l:Nat):Int)=atN (⟨rates,pwn,ptn,pag⟩:Part) l:=by omega
 rw [e1];rw [decide_eq_true (show (0:Int)≤(atN (⟨rates,pwn,ptn,pag⟩:Part) l:Int) by omega)]
theorem Qx (rates:List (Int×Int)) (pwn ptn pag:Int) (RA:Option Addr) (rcp:Nat) (l:List Use) (A:Option Addr) (cp:Nat) (w:World) (hr:InS w noF 2 RA rates.length (scell rates)) (hrn:rates.length≤9223372036854775807) (hl:InS w noF 6 A l.length (ucell l)) (hn:l.length≤9223372036854775807) (hok:PartOk (⟨rates,pwn,ptn,pag⟩:Part) l) (k:Nat) (wr:Int) (hk:k<l.length) :
    Calls Tryz.prog 102 [.agg [.slice RA rates.length rcp,.int .i64 pwn,.int .i64 ptn,.int .i64 pag].toArray,.slice A l.length cp,.int .i64 (k:Int),.int .i64 wr].toArray w (Ret (fun v w'=>v = .bool (wornB (⟨rates,pwn,ptn,pag⟩:Part) l k wr)∧St w noF [] w')):=by
 have hh:=hok.hdr;unfold iQ at hh;simp only [decide_eq_true_eq] at hh;have hll:=hok.len
 refine enter Tryz.func102 rfl Tryz.ntmps102 rfl (fun a H=>?_)
 have S:=St.start w
 refine aA fun K1 k1=>?_
 refine aP H rfl S G G ?_;clear H a S;intro b4 _ a hb4 hbw4 S H
 refine ls 1 H<|sr 1 rfl<|sE ?_;clear H a;intro a H
 refine k1 _ _ ?_;clear k1 K1
 refine sS H fun K2 k2=>sr 1 rfl<|sE ?_;clear H a;intro a H
 refine k2 _ ?_;clear k2 K2
 refine wp_seq_k fun K3 k3=>?_
 refine sS H fun K4 k4=>sr 1 rfl<|sE ?_;clear H a;intro a H
 refine k4 _ ?_;clear k4 K4
 refine wp_block ?_
 refine loop_st (X:=Nat) (R0:=_) [1,2,3,4] H rfl (fun j=>[(9,.int .i64 (sumT l j)),(10,.int .i64 (j:Int))]) (fun j=>[]) (fun g j=>j≤k+1∧g+j=k+1) (k+1) 0 ?_ (S.sel [0] G G) (H.keep [9,10,1,2,3,4] rfl) ?_
 · exact ⟨by omega,by omega⟩
 clear H S a
 intro g1 x1 a w1 hp S H K5 k5
 obtain ⟨j,rfl⟩:∃ y,y=x1:=⟨_,rfl⟩
 refine wp_seq_k fun K6 k6=>?_
 refine sS H fun K7 k7=>sr 3 rfl<|sE ?_;clear H a;intro a H
 refine k7 _ ?_;clear k7 K7
 refine condG H rfl (fun hc1=>?_) (fun hc1=>?_)
 ·skip
  refine wp_skip ?_
  refine k6 _ _ ?_
  refine wp_seq_k fun K8 k8=>?_
  refine wp_block ?_
  have hsb:=Iv hok j (by omega)
  have hu:=hok.use (k:=j) (by omega);unfold useOk at hu;simp only [decide_eq_true_eq] at hu
  replace H:=H.keep [1,2,3,4,9,10] rfl
  refine sO H<|sr 3 rfl<|si cG bV G G (hl.adr (by omega)) (by omega)<|sp gZ rfl<|slm aB rfl (hl.rd S (by omega) (by omega))<|sd (aG G G (by unfold i64ok;omega))<|sr 1 rfl<|sE ?_;clear H a;intro a H
  refine k8 _ _ ?_
  replace H:=H.keep [1,2,3,4,9,10] rfl
  refine sO H<|sr 1 rfl<|sd (aG G G (by unfold i64ok;omega))<|sr 1 rfl<|sE ?_;clear H a;intro a H
  exact k5 (g1-1) (j+1) a _ (by omega) (by omega) (S.sel [0] G G) (H.keep [9,10,1,2,3,4] rfl)
 refine wp_exit ?_
 refine k3 _ _ ?_
 replace H:=H.keep [1,2,3,4,9] rfl
 replace S:=S.drew
 refine sD H fun K11 k11=>sr 1 rfl<|sf tV rfl<|sl S 0 aB G G G<|sd (fJ G G (by unfold i64ok;omega))<|sr 2 rfl<|sg 4 5 28 32 false G G (fun hg6=>sy hg6<|sr 1 rfl<|sy hg6<|sf oH rfl<|sy hg6<|sl S 0 aB G G G<|sy hg6<|sr 1 rfl<|sz 4 G G G)<|so G G G<|sr 1 rfl<|sg 8 11 34 42 false G G (fun hg12=>sy hg12<|sr 1 rfl<|sy hg12<|sr 1 rfl<|sy hg12<|si cG bV G G (hl.adr (by omega)) (by omega)<|sy hg12<|sp gY rfl<|sy hg12<|slm aB rfl (hl.rd S (by omega) (by omega))<|sy hg12<|sf qJ rfl<|sy hg12<|sl S 0 aB G G G<|sy hg12<|sr 1 rfl<|sz 8 G G G)<|so G G G<|sr 1 rfl<|sE ?_;clear H a;intro a H
 refine k11 _ ?_;clear k11 K11
 refine wp_ret ?_
 refine ret1 (fn:=Tryz.f102) rfl H rfl ?_
 have hj9:j=k+1:=by omega
 subst hj9
 exact ⟨congrArg Value.bool (or3 _ _ _),(S.sel [] G G)⟩
theorem Gm (rates:List (Int×Int)) (pwn ptn pag:Int) (RA:Option Addr) (rcp:Nat) (l:List Use) (A:Option Addr) (cp:Nat) (w:World) (hr:InS w noF 2 RA rates.length (scell rates)) (hrn:rates.length≤9223372036854775807) (hl:InS w noF 6 A l.length (ucell l)) (hn:l.length≤9223372036854775807) (hok:PartOk (⟨rates,pwn,ptn,pag⟩:Part) l) (SA:Option Addr) (sc:Nat) (gb:Bool) (hs:InS w noF 2 SA l.length (fcell (bF (⟨rates,pwn,ptn,pag⟩:Part) l))) :
    Calls Tryz.prog 85 [.agg [.slice RA rates.length rcp,.int .i64 pwn,.int .i64 ptn,.int .i64 pag].toArray,.slice A l.length cp,.slice SA l.length sc,.bool gb].toArray w (Ret (fun v w'=>v = .int .i64 (iT (fun k=>wornB (⟨rates,pwn,ptn,pag⟩:Part) l k (selE gb (bF (⟨rates,pwn,ptn,pag⟩:Part) l k))) l.length)∧St w noF [] w')):=by
 refine enter Tryz.func85 rfl Tryz.ntmps85 rfl (fun a H=>?_)
 have S:=St.start w
 refine aA fun K1 k1=>?_
 refine aP H rfl S G G ?_;clear H a S;intro b4 _ a hb4 hbw4 S H
 refine ls 1 H<|sr 1 rfl<|sE ?_;clear H a;intro a H
 refine k1 _ _ ?_;clear k1 K1
 refine wp_seq_k fun K2 k2=>?_
 refine sS H fun K3 k3=>sr 1 rfl<|sE ?_;clear H a;intro a H
 refine k3 _ ?_;clear k3 K3
 refine wp_block ?_
 refine loop_st (X:=Nat) (R0:=_) [1,2,3,4] H rfl (fun k=>[(9,.int .i64 (k:Int))]) (fun k=>[]) (fun g k=>k≤l.length∧g+k=l.length∧∀ q,q<k→(fun k=>wornB (⟨rates,pwn,ptn,pag⟩:Part) l k (selE gb (bF (⟨rates,pwn,ptn,pag⟩:Part) l k))) q=false) (l.length) 0 ?_ (S.sel [0] G G) (H.keep [9,1,2,3,4] rfl) ?_
 · exact ⟨by omega,by omega,fun q hq=>absurd hq (Nat.not_lt_zero _)⟩
 clear H S a
 intro g1 x1 a w1 hp S H K4 k4
 obtain ⟨k,rfl⟩:∃ y,y=x1:=⟨_,rfl⟩
 refine wp_seq_k fun K5 k5=>?_
 refine sS H fun K6 k6=>sr 2 rfl<|sL cG rfl<|sr 1 rfl<|sE ?_;clear H a;intro a H
 refine k6 _ ?_;clear k6 K6
 refine condL H rfl (fun hc1=>?_) (fun hc1=>?_)
 ·skip
  refine wp_skip ?_
  refine k5 _ _ ?_
  refine wp_seq_k fun K7 k7=>?_
  refine wp_block ?_
  replace H:=H.keep [1,2,3,4,9] rfl
  refine sS H fun K8 k8=>sr 2 rfl<|si cY bC G G (hs.adr (by omega)) (by omega)<|sp cD rfl<|slm aB rfl (hs.rd S (by omega) (by omega))<|sr 1 rfl<|sE ?_;clear H a;intro a H
  refine k8 _ ?_;clear k8 K8
  have hp1:=hp
  have SR:=(S.sel [0] G G)
  refine fG (X:=Int) [1,2,3,4,9] H rfl (fun x=>[(10,.int .i64 x)]) (fun x=>[]) (fun x=>x=selE gb (bF (⟨rates,pwn,ptn,pag⟩:Part) l k)) SR (fun K10 k10=>?_) ?_
  ·skip
   refine sS H fun K11 k11=>sr 1 rfl<|sE ?_;clear H a;intro a H
   refine k11 _ ?_;clear k11 K11
   refine aT H rfl (fun hc2=>?_) (fun hc2=>?_)
   ·skip
    try simp only [o1,o2,o3,o4,o5,o6,o7,o8,o9,oa] at hc2
    replace H:=H.keep [1,2,3,4,9] rfl
    refine sO H<|sr 2 rfl<|si cY bC G G (hs.adr (by omega)) (by omega)<|sp bW rfl<|slm aB rfl (hs.rd S (by omega) (by omega))<|sr 1 rfl<|sE ?_;clear H a;intro a H
    exact k10 _ a _ (by unfold selE;rw [hc2];rfl) (S.sel [0] G G) (H.keep [10,1,2,3,4,9] rfl)
   try simp only [o1,o2,o3,o4,o5,o6,o7,o8,o9,oa] at hc2
   refine wp_skip ?_
   exact k10 _ a _ (by unfold selE;rw [hc2];rfl) (S.sel [0] G G) (H.keep [10,1,2,3,4,9] rfl)
  clear SR H S a
  intro xm a wm hp S H
  obtain ⟨x,rfl⟩:∃ y,y=xm:=⟨_,rfl⟩
  have hx:=hp;replace hp:=hp1
  replace H:=H.keep [1,2,3,4,9,10] rfl
  refine aA fun K13 k13=>?_
  refine ls 4 H<|sd ((aD dE dV rfl S (i:=0) G G))<|sr 3 rfl<|sE ?_;clear H a;intro a H
  refine aC H G G Tryz.func102 G G (Qx rates pwn ptn pag RA rcp l A cp _ (hr.now S) hrn (hl.now S) hn hok k x (by omega)) ?_;clear H a
  rintro _ _ a ⟨rfl,S2⟩ H
  replace S:=S.call S2;clear S2
  refine k13 _ _ ?_;clear k13 K13
  refine aT H rfl (fun hc3=>?_) (fun hc3=>?_)
  ·skip
   skip
   refine sS H fun K14 k14=>sr 2 rfl<|sE ?_;clear H a;intro a H
   refine k14 _ ?_;clear k14 K14
   refine wp_ret ?_
   refine ret1 (fn:=Tryz.f85) rfl H rfl ?_
   rw [lX (show k<l.length by omega) (by rw [hx] at hc3;exact hc3) hp.2.2];exact ⟨rfl,(S.sel [] G G)⟩
  skip
  refine wp_skip ?_
  refine k7 _ _ ?_
  replace H:=H.keep [1,2,3,4,9] rfl
  refine sO H<|sr 1 rfl<|sd (aG G G (by unfold i64ok;omega))<|sr 1 rfl<|sE ?_;clear H a;intro a H
  exact k4 (g1-1) (k+1) a _ (by omega) (⟨by omega,by omega,fun q hq=>by
    by_cases h:q=k
    · subst h;rw [hx] at hc3;exact hc3
    · exact hp.2.2 q (by omega)⟩) (S.sel [0] G G) (H.keep [9,1,2,3,4] rfl)
 refine wp_exit ?_
 refine k2 _ _ ?_
 refine sS H fun K16 k16=>sr 1 rfl<|sE ?_;clear H a;intro a H
 refine k16 _ ?_;clear k16 K16
 refine wp_ret ?_
 refine ret1 (fn:=Tryz.f85) rfl H rfl ?_
 have hk9:k=l.length:=by omega
 subst hk9
 rw [nT hp.2.2];exact ⟨rfl,(S.sel [] G G)⟩
theorem wR (a b:Int) (w:World) :
    Calls Tryz.prog 116 [.agg [.int .i64 a,.int .i64 b].toArray].toArray w (Ret (fun v w'=>v = .int .i64 (Prod.snd (a,b))∧St w noF [] w')):=by
 refine enter Tryz.func116 rfl Tryz.ntmps116 rfl (fun a H=>?_)
 have S:=St.start w
 refine aA fun K1 k1=>?_
 refine aP H rfl S G G ?_;clear H a S;intro b1 _ a hb1 hbw1 S H
 refine ls 1 H<|sr 1 rfl<|sE ?_;clear H a;intro a H
 refine k1 _ _ ?_;clear k1 K1
 refine sS H fun K2 k2=>sf bW rfl<|sl S 0 aB G G G<|sr 1 rfl<|sE ?_;clear H a;intro a H
 refine k2 _ ?_;clear k2 K2
 refine wp_ret ?_
 refine ret1 (fn:=Tryz.f116) rfl H rfl ?_
 exact ⟨rfl,(S.sel [] G G)⟩
theorem wS {P:Program} {w:World} {L:List (Nat×Value)} {ty:TypeId} {pos:String} {af:Array Edge} {dd:Option Nat} {g:Option (Nat×Bool)} {x y:Operand} {xt yt:TypeId} {m n:Int} (hx:ev L x=some (.int .i64 m)) (hy:ev L y=some (.int .i64 n)) (h:n<m):Does P L ⟨dd,.binOp .gtr xt x y yt,ty,pos,af,g⟩ w (.bool true):=by
  have h1:=jJ (P:=P) (d:=dd) (w:=w) (ty:=ty) (pos:=pos) (af:=af) (g:=g) (xt:=xt) (yt:=yt) hx hy
  rw [decide_eq_true h] at h1
  exact h1
theorem pN {P:Program} {w:World} {L:List (Nat×Value)} {ty:TypeId} {pos:String} {af:Array Edge} {dd:Option Nat} {g:Option (Nat×Bool)} {x y:Operand} {xt yt:TypeId} {m n:Int} (hx:ev L x=some (.int .i64 m)) (hy:ev L y=some (.int .i64 n)) (h:¬ n<m):Does P L ⟨dd,.binOp .gtr xt x y yt,ty,pos,af,g⟩ w (.bool false):=by
  have h1:=jJ (P:=P) (d:=dd) (w:=w) (ty:=ty) (pos:=pos) (af:=af) (g:=g) (xt:=xt) (yt:=yt) hx hy
  rw [decide_eq_false h] at h1
  exact h1
theorem Dd (rates : List (Int × Int)) (pwn ptn pag : Int) (RA : Option Addr) (rcp : Nat) (l : List Use) (A : Option Addr) (cp : Nat) (f : Nat) (fn : Func) (e : Int × Int → Int) (w : World) (hr : InS w noF 2 RA rates.length (scell rates)) (hrn : rates.length ≤ 9223372036854775807) (hl : InS w noF 6 A l.length (ucell l)) (hn : l.length ≤ 9223372036854775807) (hf : Tryz.prog.funcs[f]? = some fn) (hfb : fn.body.isNone = false) (hfn : (fn.name == "runtime.NumGoroutine") = false) (hcall : ∀ (a b : Int) (w' : World), Calls Tryz.prog f [.agg [.int .i64 a, .int .i64 b].toArray].toArray w' (Ret fun v w'' => v = .int .i64 (e (a, b)) ∧ St w' noF [] w'')) :
    Calls Tryz.prog 115 [.agg [.slice RA rates.length rcp,.int .i64 pwn,.int .i64 ptn,.int .i64 pag].toArray,.slice A l.length cp,.func (.func f) [].toArray [].toArray].toArray w (Ret (fun v w'=>v = .tuple #[.int .i64 (bI (⟨rates,pwn,ptn,pag⟩:Part) l e).1,.int .i64 (bI (⟨rates,pwn,ptn,pag⟩:Part) l e).2]∧St w noF [] w')):=by
 refine enter Tryz.func115 rfl Tryz.ntmps115 rfl (fun a H=>?_)
 have S:=St.start w
 refine aA fun K1 k1=>?_
 refine aP H rfl S G G ?_;clear H a S;intro b3 _ a hb3 hbw3 S H
 refine ls 2 H<|sr 2 rfl<|sE ?_;clear H a;intro a H
 refine k1 _ _ ?_;clear k1 K1
 by_cases hA:wearE (⟨rates,pwn,ptn,pag⟩:Part) l=0
 ·skip
  have h0:=mU hA;have hok:=kB h0.1
  have hh:=hok.hdr;unfold iQ at hh;simp only [decide_eq_true_eq] at hh;have hll:=hok.len
  replace H:=H.keep [1,2,3] rfl
  refine aA fun K2 k2=>?_
  refine ls 2 H<|sd ((aD dE dV rfl S (i:=0) G G))<|sr 1 rfl<|sE ?_;clear H a;intro a H
  refine aC H G G Tryz.func67 G G (dU (pM rates pwn ptn pag RA rcp l A cp _ (hr.now S) hrn (hl.now S) hn) (fun _ _=>yS hA)) ?_;clear H a
  rintro _ _ a ⟨A',c',rfl,S2⟩ H
  replace S:=S.call S2;clear S2
  refine ls 5 H<|sr 5 rfl<|sE ?_;clear H a;intro a H
  refine k2 _ _ ?_;clear k2 K2
  refine wp_seq_k fun K3 k3=>?_
  replace H:=H.keep [1,2,3,8,9] rfl
  refine sS H fun K4 k4=>sr 2 rfl<|sE ?_;clear H a;intro a H
  refine k4 _ ?_;clear k4 K4
  refine condN H rfl (fun hc1=>?_) (fun hc1=>?_)
  ·skip
   all_goals first|(exfalso;omega)|(simp at hc1)
  refine wp_skip ?_
  refine k3 _ _ ?_
  refine sS H fun K5 k5=>sr 1 rfl<|sE ?_;clear H a;intro a H
  refine k5 _ ?_;clear k5 K5
  refine wp_seq_k fun K6 k6=>?_
  refine sS H fun K7 k7=>sr 1 rfl<|sL cG rfl<|sr 1 rfl<|sE ?_;clear H a;intro a H
  refine k7 _ ?_;clear k7 K7
  refine wp_block ?_
  refine loop_st (X:=Nat) (R0:=_) [2,3,8,22,23] H rfl (fun k=>[(10,.int .i64 (sumT l k)),(24,.int .i64 (k:Int))]) (fun k=>[]) (fun g k=>k≤l.length∧g+k=l.length∧∀ q,q<k→(fun k=>wornB (⟨rates,pwn,ptn,pag⟩:Part) l k (e (bF (⟨rates,pwn,ptn,pag⟩:Part) l k))) q=false) (l.length) 0 ?_ (S.sel [0,1] G G) (H.keep [10,24,2,3,8,22,23] rfl) ?_
  · exact ⟨by omega,by omega,fun q hq=>absurd hq (Nat.not_lt_zero _)⟩
  clear H S a
  intro g1 x1 a w1 hp S H K8 k8
  obtain ⟨k,rfl⟩:∃ y,y=x1:=⟨_,rfl⟩
  refine sS H fun K9 k9=>sr 1 rfl<|sE ?_;clear H a;intro a H
  refine k9 _ ?_;clear k9 K9
  refine wp_seq_k fun K10 k10=>?_
  refine condL H rfl (fun hc2=>?_) (fun hc2=>?_)
  ·skip
   refine wp_skip ?_
   refine k10 _ _ ?_
   refine wp_seq_k fun K11 k11=>?_
   refine wp_block ?_
   refine aA fun K12 k12=>?_
   refine ls 3 H<|sr 1 rfl<|si cG bV G G (hl.adr (by omega)) (by omega)<|sd ((aU jE bV rfl S hl (by omega) (by omega)))<|sE ?_;clear H a;intro a H
   refine aM H rfl S fZ ?_;clear H a S;intro b12 _ a hb12 hbw12 S H
   refine ls 1 H<|sr 1 rfl<|sE ?_;clear H a;intro a H
   refine aH H S (i:=0) G G G G bV G G ?_
   clear H a S;intro _ a S H
   refine k12 _ _ ?_;clear k12 K12
   have hsb:=Iv hok k (by omega)
   have hu:=hok.use (k:=k) (by omega);unfold useOk at hu;simp only [decide_eq_true_eq] at hu
   replace H:=H.keep [2,3,8,10,11,12,22,23,24] rfl
   refine sS H fun K13 k13=>sr 1 rfl<|sf gZ rfl<|sl S 0 aB G G G<|sd (aG G G (by unfold i64ok;omega))<|sr 1 rfl<|sE ?_;clear H a;intro a H
   refine k13 _ ?_;clear k13 K13
   rcases (show ptn<sumT l (k+1)∨(¬ ptn<sumT l (k+1)∧pag<(l.getD k Use.zero).day)∨(¬ ptn<sumT l (k+1)∧¬ pag<(l.getD k Use.zero).day) from by omega) with hB|hB|hB
   ·skip
    replace H:=H.keep [2,3,8,10,11,12,22,23,24] rfl
    replace S:=S.drew
    refine cJ [(0,true),(1,true),(2,true),(3,true),(4,true),(5,true),(6,true),(7,true),(8,true),(9,true),(10,true),(11,true),(12,true),(13,true),(14,true),(15,true),(16,true),(17,true),(18,true),(19,true),(20,true),(21,true),(22,true)] (by kernel_rfl) (by kernel_rfl) (S.sel [0,1,2] G G) fun K14 k14=>?_
    refine qF H<|qr 1 rfl<|qd rfl (fun _ S=>(aF oH rfl))<|qd rfl (fun _ S=>aE aB rfl (boxM.rd S (i:=2) G G))<|qd rfl (fun _ S=>wS G G hB)<|qr 1 rfl<|qK ?_;clear H a;intro a H
    refine aQ H G G G G G ?_;clear H a;intro a H
    refine aQ H G G G G G ?_;clear H a;intro a H
    refine aQ H G G G G G ?_;clear H a;intro a H
    refine aQ H G G G G G ?_;clear H a;intro a H
    refine aQ H G G G G G ?_;clear H a;intro a H
    refine qF H<|qd rfl (fun _ S=>(bH G G G))<|qr 1 rfl<|qK ?_;clear H a;intro a H
    refine aQ H G G G G G ?_;clear H a;intro a H
    refine aQ H G G G G G ?_;clear H a;intro a H
    refine aQ H G G G G G ?_;clear H a;intro a H
    refine aQ H G G G G G ?_;clear H a;intro a H
    refine aQ H G G G G G ?_;clear H a;intro a H
    refine aQ H G G G G G ?_;clear H a;intro a H
    refine aQ H G G G G G ?_;clear H a;intro a H
    refine aQ H G G G G G ?_;clear H a;intro a H
    refine aQ H G G G G G ?_;clear H a;intro a H
    refine aQ H G G G G G ?_;clear H a;intro a H
    refine qF H<|qd rfl (fun _ S=>(bH G G G))<|qK ?_;clear H a;intro a H
    refine bU ?_
    refine k14 _ _ ?_
    clear k14 K14
    refine aT H rfl (fun hc3=>?_) (fun hc3=>?_)
    ·skip
     skip
     replace H:=H.keep [11] rfl
     refine sS H fun K15 k15=>sr 3 rfl<|sE ?_;clear H a;intro a H
     refine k15 _ ?_;clear k15 K15
     refine wp_ret ?_
     refine ret2 (fn:=Tryz.f115) rfl H G G ?_
     have e9:iT (fun k=>wornB (⟨rates,pwn,ptn,pag⟩:Part) l k (e (bF (⟨rates,pwn,ptn,pag⟩:Part) l k))) l.length=k:=lX (by omega) (by show wornB _ _ _ _=true;unfold wornB;rw [decide_eq_true hB];simp) hp.2.2
     unfold bI;rw [if_neg (by omega),e9];exact ⟨rfl,(S.sel [] G G)⟩
    skip
    cases hc3
   ·skip
    replace H:=H.keep [2,3,8,10,11,12,22,23,24] rfl
    replace S:=S.drew
    refine cJ [(0,true),(1,true),(2,true),(3,true),(4,true),(5,true),(6,true),(7,true),(8,true),(9,true),(10,true),(11,true),(12,true),(13,true),(14,true),(15,true),(16,true),(17,true),(18,true),(19,true),(20,true),(21,true),(22,true)] (by kernel_rfl) (by kernel_rfl) (S.sel [0,1,2] G G) fun K16 k16=>?_
    refine qF H<|qr 1 rfl<|qd rfl (fun _ S=>(aF oH rfl))<|qd rfl (fun _ S=>aE aB rfl (boxM.rd S (i:=2) G G))<|qd rfl (fun _ S=>pN G G hB.1)<|qr 1 rfl<|qK ?_;clear H a;intro a H
    refine aK H G G G G (fun _ S=>(aF gY rfl)) ?_;clear H a;intro a H
    refine aK H G G G G (fun _ S=>aE aB rfl (boxM.rd S (i:=0) G G)) ?_;clear H a;intro a H
    refine aK H G G G G (fun _ S=>(aF qJ rfl)) ?_;clear H a;intro a H
    refine aK H G G G G (fun _ S=>aE aB rfl (boxM.rd S (i:=2) G G)) ?_;clear H a;intro a H
    refine aK H G G G G (fun _ S=>wS G G hB.2) ?_;clear H a;intro a H
    refine qF H<|qd rfl (fun _ S=>(dN G G G))<|qr 1 rfl<|qK ?_;clear H a;intro a H
    refine aQ H G G G G G ?_;clear H a;intro a H
    refine aQ H G G G G G ?_;clear H a;intro a H
    refine aQ H G G G G G ?_;clear H a;intro a H
    refine aQ H G G G G G ?_;clear H a;intro a H
    refine aQ H G G G G G ?_;clear H a;intro a H
    refine aQ H G G G G G ?_;clear H a;intro a H
    refine aQ H G G G G G ?_;clear H a;intro a H
    refine aQ H G G G G G ?_;clear H a;intro a H
    refine aQ H G G G G G ?_;clear H a;intro a H
    refine aQ H G G G G G ?_;clear H a;intro a H
    refine qF H<|qd rfl (fun _ S=>(bH G G G))<|qK ?_;clear H a;intro a H
    refine bU ?_
    refine k16 _ _ ?_
    clear k16 K16
    refine aT H rfl (fun hc4=>?_) (fun hc4=>?_)
    ·skip
     skip
     replace H:=H.keep [11] rfl
     refine sS H fun K17 k17=>sr 3 rfl<|sE ?_;clear H a;intro a H
     refine k17 _ ?_;clear k17 K17
     refine wp_ret ?_
     refine ret2 (fn:=Tryz.f115) rfl H G G ?_
     have e9:iT (fun k=>wornB (⟨rates,pwn,ptn,pag⟩:Part) l k (e (bF (⟨rates,pwn,ptn,pag⟩:Part) l k))) l.length=k:=lX (by omega) (by show wornB _ _ _ _=true;unfold wornB;rw [decide_eq_true hB.2];simp) hp.2.2
     unfold bI;rw [if_neg (by omega),e9];exact ⟨rfl,(S.sel [] G G)⟩
    skip
    cases hc4
   replace H:=H.keep [2,3,8,10,11,12,22,23,24] rfl
   replace S:=S.drew
   refine cJ [(0,true),(1,true),(2,true),(3,true),(4,true),(5,true),(6,true),(7,true),(8,true),(9,true),(10,true),(11,true),(12,true),(13,true),(14,true),(15,true),(16,true),(18,true),(19,true),(20,true),(17,false),(21,true),(22,true)] (by kernel_rfl) (by kernel_rfl) (S.sel [0,1,2] G G) fun K18 k18=>?_
   refine qF H<|qr 1 rfl<|qd rfl (fun _ S=>(aF oH rfl))<|qd rfl (fun _ S=>aE aB rfl (boxM.rd S (i:=2) G G))<|qd rfl (fun _ S=>pN G G hB.1)<|qr 1 rfl<|qK ?_;clear H a;intro a H
   refine aK H G G G G (fun _ S=>(aF gY rfl)) ?_;clear H a;intro a H
   refine aK H G G G G (fun _ S=>aE aB rfl (boxM.rd S (i:=0) G G)) ?_;clear H a;intro a H
   refine aK H G G G G (fun _ S=>(aF qJ rfl)) ?_;clear H a;intro a H
   refine aK H G G G G (fun _ S=>aE aB rfl (boxM.rd S (i:=2) G G)) ?_;clear H a;intro a H
   refine aK H G G G G (fun _ S=>pN G G hB.2) ?_;clear H a;intro a H
   refine qF H<|qd rfl (fun _ S=>(dN G G G))<|qr 1 rfl<|qK ?_;clear H a;intro a H
   refine aK H G G G G (fun _ S=>aJ rfl) ?_;clear H a;intro a H
   refine aK H G G G G (fun _ S=>aJ rfl) ?_;clear H a;intro a H
   refine aK H G G G G (fun _ S=>aJ rfl) ?_;clear H a;intro a H
   refine aK H G G G G (fun _ S=>aX cY bC G G (ownM.adr S (i:=1) rfl (by omega)) (by omega)) ?_;clear H a;intro a H
   refine aK H G G G G (fun _ S=>(mH eK bC rfl S (i:=1) rfl (by omega) (by omega))) ?_;clear H a;intro a H
   refine aK H G G G G (fun _ S=>(aF tV rfl)) ?_;clear H a;intro a H
   refine aK H G G G G (fun _ S=>aE aB rfl (boxM.rd S (i:=2) G G)) ?_;clear H a;intro a H
   refine aK H G G G G (fun _ S=>fJ G G (by unfold i64ok;omega)) ?_;clear H a;intro a H
   refine bA rfl ?_
   refine bZ H G G ?_
   refine Fc (fs:=[]) (cs:=[]) (vs:=[.agg [.int .i64 (bF (⟨rates,pwn,ptn,pag⟩:Part) l k).1,.int .i64 (bF (⟨rates,pwn,ptn,pag⟩:Part) l k).2].toArray]) H G G G (hf) (hfb) (hfn) (by exact hcall (bF (⟨rates,pwn,ptn,pag⟩:Part) l k).1 (bF (⟨rates,pwn,ptn,pag⟩:Part) l k).2 _) ?_;clear H a
   rintro _ _ a ⟨rfl,S2⟩ H
   replace S:=S.call S2;clear S2
   refine wpList_nil (And.intro (S.sel [0,1,2] G G) ?_)
   refine aK H G G G G (fun _ S=>jJ G G) ?_;clear H a;intro a H
   refine qF H<|qd rfl (fun _ S=>(dN G G G))<|qK ?_;clear H a;intro a H
   refine bU ?_
   refine k18 _ _ ?_
   clear k18 K18
   refine aT H rfl (fun hc5=>?_) (fun hc5=>?_)
   ·skip
    skip
    replace H:=H.keep [11] rfl
    refine sS H fun K19 k19=>sr 3 rfl<|sE ?_;clear H a;intro a H
    refine k19 _ ?_;clear k19 K19
    refine wp_ret ?_
    refine ret2 (fn:=Tryz.f115) rfl H G G ?_
    have e9:iT (fun k=>wornB (⟨rates,pwn,ptn,pag⟩:Part) l k (e (bF (⟨rates,pwn,ptn,pag⟩:Part) l k))) l.length=k:=lX (by omega) (by show wornB _ _ _ _=true;unfold wornB;rw [decide_eq_false hB.1,decide_eq_false hB.2];exact hc5) hp.2.2
    unfold bI;rw [if_neg (by omega),e9];exact ⟨rfl,(S.sel [] G G)⟩
   skip
   refine wp_skip ?_
   refine k11 _ _ ?_
   refine sO H<|sd (aG G G (by unfold i64ok;omega))<|sr 1 rfl<|sE ?_;clear H a;intro a H
   exact k8 (g1-1) (k+1) a _ (by omega) (⟨by omega,by omega,fun q hq=>by
     by_cases h:q=k
     · subst h;show wornB _ _ _ _=false;unfold wornB;rw [decide_eq_false hB.1,decide_eq_false hB.2];exact hc5
     · exact hp.2.2 q (by omega)⟩) (S.sel [1,2] G G) (H.keep [10,24,2,3,8,22,23] rfl)
  refine wp_exit ?_
  refine k6 _ _ ?_
  refine sS H fun K21 k21=>sr 2 rfl<|sE ?_;clear H a;intro a H
  refine k21 _ ?_;clear k21 K21
  refine wp_ret ?_
  refine ret2 (fn:=Tryz.f115) rfl H G G ?_
  have hk9:k=l.length:=by omega
  subst hk9
  unfold bI;rw [if_neg (by omega),nT hp.2.2];exact ⟨rfl,(S.sel [] G G)⟩
 skip
 replace H:=H.keep [1,2,3] rfl
 refine aA fun K22 k22=>?_
 refine ls 2 H<|sd ((aD dE dV rfl S (i:=0) G G))<|sr 1 rfl<|sE ?_;clear H a;intro a H
 refine aC H G G Tryz.func67 G G (dU (pM rates pwn ptn pag RA rcp l A cp _ (hr.now S) hrn (hl.now S) hn) (fun _ _=>Da hA)) ?_;clear H a
 rintro _ _ a ⟨rfl,S2⟩ H
 replace S:=S.call S2;clear S2
 refine ls 5 H<|sr 5 rfl<|sE ?_;clear H a;intro a H
 refine k22 _ _ ?_;clear k22 K22
 refine wp_seq_k fun K23 k23=>?_
 replace H:=H.keep [1,2,3,8,9] rfl
 refine sS H fun K24 k24=>sr 2 rfl<|sE ?_;clear H a;intro a H
 refine k24 _ ?_;clear k24 K24
 refine condN H rfl (fun hc6=>?_) (fun hc6=>?_)
 ·skip
  refine sS H fun K25 k25=>sr 3 rfl<|sE ?_;clear H a;intro a H
  refine k25 _ ?_;clear k25 K25
  refine wp_ret ?_
  refine ret2 (fn:=Tryz.f115) rfl H G G ?_
  unfold bI;rw [if_pos hA];exact ⟨rfl,(S.sel [] G G)⟩
 all_goals (exfalso;omega)
theorem As (rates:List (Int×Int)) (pwn ptn pag:Int) (RA:Option Addr) (rcp:Nat) (l:List Use) (A:Option Addr) (cp:Nat) (w:World) (hr:InS w noF 2 RA rates.length (scell rates)) (hrn:rates.length≤9223372036854775807) (hl:InS w noF 6 A l.length (ucell l)) (hn:l.length≤9223372036854775807) :
    Calls Tryz.prog 101 [.agg [.slice RA rates.length rcp,.int .i64 pwn,.int .i64 ptn,.int .i64 pag].toArray,.slice A l.length cp].toArray w (Ret (fun v w'=>v = .tuple #[.int .i64 (bI (⟨rates,pwn,ptn,pag⟩:Part) l Prod.snd).1,.int .i64 (bI (⟨rates,pwn,ptn,pag⟩:Part) l Prod.snd).2]∧St w noF [] w')):=by
 refine enter Tryz.func101 rfl Tryz.ntmps101 rfl (fun a H=>?_)
 have S:=St.start w
 refine aA fun K1 k1=>?_
 refine aP H rfl S G G ?_;clear H a S;intro b2 _ a hb2 hbw2 S H
 refine ls 2 H<|sr 2 rfl<|sE ?_;clear H a;intro a H
 refine k1 _ _ ?_;clear k1 K1
 replace H:=H.keep [1,2] rfl
 refine aA fun K2 k2=>?_
 refine ls 2 H<|sd ((aD dE dV rfl S (i:=0) G G))<|sr 1 rfl<|sE ?_;clear H a;intro a H
 refine aC H G G Tryz.func115 G G (Dd rates pwn ptn pag RA rcp l A cp 116 _ Prod.snd _ (hr.now S) hrn (hl.now S) hn Tryz.func116 G G (fun a b w'=>wR a b w')) ?_;clear H a
 rintro _ _ a ⟨rfl,S2⟩ H
 replace S:=S.call S2;clear S2
 refine ls 4 H<|sr 4 rfl<|sE ?_;clear H a;intro a H
 refine k2 _ _ ?_;clear k2 K2
 refine wp_ret ?_
 refine ret2 (fn:=Tryz.f101) rfl H G G ?_
 exact ⟨rfl,(S.sel [] G G)⟩
end
section
theorem Au (l:List Use) (A:Option Addr) (cp:Nat) (w:World) (hl:InS w noF 6 A l.length (ucell l)) (hn:l.length*48≤140737488351232) :
    Calls Tryz.prog 26 [.slice A l.length cp].toArray w (Ret (fun v w'=>∃ A' c',v = .slice A' l.length c'∧St w noF [ownM 113 6 A' l.length c' (ucell l)] w')):=by
 have hmx:maxLen=9223372036854775807:=rfl
 refine enter Tryz.func26 rfl Tryz.ntmps26 rfl (fun a H=>?_)
 have S:=St.start w
 refine sS H fun K1 k1=>sr 1 rfl<|sE ?_;clear H a;intro a H
 refine k1 _ ?_;clear k1 K1
 refine aA fun K2 k2=>?_
 refine cU H rfl S cG bV (ucell l) ?_;clear H a S;intro A1 _ a S H
 refine ls 1 H<|sr 1 rfl<|sE ?_;clear H a;intro a H
 refine aY H rfl S cG bV fZ pI G G (i:=0) G G G (hl.now S) (mV l) (by omega) (by omega) ?_;clear H a S;intro A2 c2 _ a S H
 rw [Nat.zero_add] at H
 replace S:=S.recell (i:=0) (cell':=ucell l) (by rw [Nat.zero_add];rfl) (fun k j hk hj=>by unfold capp;rw [if_neg (by omega)];rfl)
 refine ls 1 H<|sr 1 rfl<|sE ?_;clear H a;intro a H
 refine k2 _ _ ?_;clear k2 K2
 refine wp_ret ?_
 refine ret1 (fn:=Tryz.f26) rfl H rfl ?_
 exact ⟨_,_,rfl,(S.sel [0] G G)⟩
theorem wT (rates:List (Int×Int)) (pwn ptn pag:Int) (RA:Option Addr) (rcp:Nat) (w:World) (hr:InS w noF 2 RA rates.length (scell rates)) (hrn:rates.length*16≤140737488351232) :
    Calls Tryz.prog 25 [.agg [.slice RA rates.length rcp,.int .i64 pwn,.int .i64 ptn,.int .i64 pag].toArray].toArray w (Ret (fun v w'=>∃ A' c',v = .agg [.slice A' rates.length c',.int .i64 pwn,.int .i64 ptn,.int .i64 pag].toArray∧St w noF [ownM 79 2 A' rates.length c' (scell rates)] w')):=by
 have hmx:maxLen=9223372036854775807:=rfl
 refine enter Tryz.func25 rfl Tryz.ntmps25 rfl (fun a H=>?_)
 have S:=St.start w
 refine aA fun K1 k1=>?_
 refine aP H rfl S G G ?_;clear H a S;intro b1 _ a hb1 hbw1 S H
 refine aM H rfl S Id ?_;clear H a S;intro b2 _ a hb2 hbw2 S H
 refine k1 _ _ ?_;clear k1 K1
 refine aA fun K2 k2=>?_
 refine Kf H rfl ((by first | (exact aD dE dV rfl S (i := 0) G G; trace "ALT wT 1.0.1 0") | (exact aD dE dV rfl S (i := 1) G G; trace "ALT wT 1.0.1 1"))) ?_;clear H a;intro a H
 refine aM H rfl S Id ?_;clear H a S;intro b3 _ a hb3 hbw3 S H
 refine aH H S (i:=0) G G G G dV G G ?_
 clear H a S;intro _ a S H
 refine k2 _ _ ?_;clear k2 K2
 replace H:=H.keep [1,2,3] rfl
 refine aA fun K3 k3=>?_
 refine cU H rfl S cY bC (scell rates) ?_;clear H a S;intro A1 _ a S H
 refine ls 2 H<|sf fH rfl<|sl S 3 iA G G G<|sE ?_;clear H a;intro a H
 refine aY H rfl S cY bC eT Ie G G (i:=0) G G G (hr.now S) (Gl rates) (by omega) (by omega) ?_;clear H a S;intro A2 c2 _ a S H
 rw [Nat.zero_add] at H
 replace S:=S.recell (i:=0) (cell':=scell rates) (by rw [Nat.zero_add];rfl) (fun k j hk hj=>by unfold capp;rw [if_neg (by omega)];rfl)
 refine ls 1 H<|sf fH rfl<|sE ?_;clear H a;intro a H
 refine aH H S (i:=1) G G G G aDq G G ?_
 clear H a S;intro _ a S H
 refine k3 _ _ ?_;clear k3 K3
 refine aA fun K4 k4=>?_
 refine ls 1 H<|sd ((aD dE dV rfl S (i:=1) G G))<|sE ?_;clear H a;intro a H
 refine aH H S (i:=2) G G G G dV G G ?_
 clear H a S;intro _ a S H
 refine k4 _ _ ?_;clear k4 K4
 refine wp_ret ?_
 refine retA (fn:=Tryz.f25) rfl H rfl dE (by exact dV) (cT S (i:=2) rfl) ?_
 exact ⟨_,_,rfl,(S.sel [0] G G)⟩
theorem Qy {l:List Use} {k:Nat} (hk:k<l.length) (h:(l.take k).any (·.meas)=false) (hm:(l.getD k Use.zero).meas=false):(l.take (k+1)).any (·.meas)=false:=by
  rw [List.take_succ_eq_append_getElem hk,List.any_append,h]
  simp only [List.getD_eq_getElem?_getD,List.getElem?_eq_getElem hk,Option.getD_some] at hm
  simp [hm]
theorem aBh {l:List Use} {k:Nat} (hk:k<l.length) (hm:(l.getD k Use.zero).meas=true):l.any (·.meas)=true:=by
  simp only [List.getD_eq_getElem?_getD,List.getElem?_eq_getElem hk,Option.getD_some] at hm
  exact List.any_eq_true.2 ⟨_,List.getElem_mem hk,hm⟩
theorem Qz {p:Part} {l plan:List Use} (h:bY p (l++plan)≠0):lastO p l plan=(0,bY p (l++plan)):=by unfold lastO;rw [if_pos h]
theorem Ra {p:Part} {l plan:List Use} (h:bY p (l++plan)=0) (h1:plan.any (·.meas)=true):lastO p l plan=(0,1):=by unfold lastO;rw [if_neg (by omega),if_pos h1]
theorem Ln {p:Part} {l plan:List Use} (h:bY p (l++plan)=0) (h1:plan.any (·.meas)=false) (h2:(bI p (l++plan) Prod.snd).2≠0):lastO p l plan=(0,(bI p (l++plan) Prod.snd).2):=by unfold lastO;rw [if_neg (by omega),if_neg (by rw [h1];simp),if_pos h2]
theorem Iy {p:Part} {l plan:List Use} (h:bY p (l++plan)=0) (h1:plan.any (·.meas)=false) (h2:(bI p (l++plan) Prod.snd).2=0):lastO p l plan=if (bI p (l++plan) Prod.snd).1<0 then ((plan.length:Int),0) else (max (-1) ((bI p (l++plan) Prod.snd).1-l.length),0):=by unfold lastO;rw [if_neg (by omega),if_neg (by rw [h1];simp),if_neg (by omega)]
theorem Lo {p:Part} {l:List Use} (e:Int×Int→Int) (hl:l.length≤1000000) : -1≤(bI p l e).1∧(bI p l e).1≤1000000:=by
  unfold bI
  split
  · dsimp only;omega
  · dsimp only
    rcases mT (fun k=>wornB p l k (e (bF p l k))) l.length with ⟨h,_⟩|⟨k,hk,h,_⟩ <;> rw [h] <;> omega
theorem Gn {p:Part} {l:List Use} (e:Int×Int→Int):(bI p l e).2=wearE p l:=by
  unfold bI
  split
  · rfl
  · dsimp only;omega
theorem Lp {p:Part} {l:List Use} (e:Int×Int→Int) (h:wearE p l=0):(bI p l e).1=iT (fun k=>wornB p l k (e (bF p l k))) l.length:=by
  unfold bI
  rw [if_neg (by omega)]
theorem Rb (rates:List (Int×Int)) (pwn ptn pag:Int) (RA:Option Addr) (rcp:Nat) (l:List Use) (A:Option Addr) (cp:Nat) (plan:List Use) (B:Option Addr) (cq:Nat) (w:World) (hr:InS w noF 2 RA rates.length (scell rates)) (hrn:rates.length≤9223372036854775807) (hl:InS w noF 6 A l.length (ucell l)) (hn:l.length≤9223372036854775807) (hpl:InS w noF 6 B plan.length (ucell plan)) (hsum:(l.length+plan.length)*48≤140737488355328) (hpn:plan.length≤9223372036854775807) :
    Calls Tryz.prog 69 [.agg [.slice RA rates.length rcp,.int .i64 pwn,.int .i64 ptn,.int .i64 pag].toArray,.slice A l.length cp,.slice B plan.length cq].toArray w (Ret (fun v w'=>v = .tuple #[.int .i64 (lastO (⟨rates,pwn,ptn,pag⟩:Part) l plan).1,.int .i64 (lastO (⟨rates,pwn,ptn,pag⟩:Part) l plan).2]∧St w noF [] w')):=by
 have hmx:maxLen=9223372036854775807:=rfl
 have hnn:(l++plan).length≤9223372036854775807:=by rw [List.length_append];omega
 refine enter Tryz.func69 rfl Tryz.ntmps69 rfl (fun a H=>?_)
 have S:=St.start w
 refine aA fun K1 k1=>?_
 refine aP H rfl S G G ?_;clear H a S;intro b3 _ a hb3 hbw3 S H
 refine ls 2 H<|sr 2 rfl<|sE ?_;clear H a;intro a H
 refine k1 _ _ ?_;clear k1 K1
 refine aA fun K2 k2=>?_
 refine cU H rfl S cG bV (ucell l) ?_;clear H a S;intro A1 _ a S H
 refine ls 1 H<|sr 1 rfl<|sE ?_;clear H a;intro a H
 refine aY H rfl S cG bV fZ pI G G (i:=0) G G G (hl.now S) (mV l) (by omega) (by omega) ?_;clear H a S;intro A2 c2 _ a S H
 rw [Nat.zero_add] at H
 replace S:=S.recell (i:=0) (cell':=ucell l) (by rw [Nat.zero_add];rfl) (fun k j hk hj=>by unfold capp;rw [if_neg (by omega)];rfl)
 refine ls 1 H<|sr 1 rfl<|sE ?_;clear H a;intro a H
 refine aY H rfl S cG bV fZ pI G G (i:=0) G G G (hpl.now S) (mV plan) (by omega) (by omega) ?_;clear H a S;intro A3 c3 _ a S H
 replace S:=S.recell (i:=0) rfl Li
 rw [←List.length_append] at S H
 refine ls 1 H<|sr 1 rfl<|sE ?_;clear H a;intro a H
 refine k2 _ _ ?_;clear k2 K2
 replace H:=H.keep [1,2,3,8] rfl
 refine aA fun K3 k3=>?_
 refine ls 2 H<|sd ((aD dE dV rfl S (i:=1) G G))<|sr 1 rfl<|sE ?_;clear H a;intro a H
 refine aC H G G Tryz.func58 G G (lK rates pwn ptn pag RA rcp (l++plan) A3 c3 _ (hr.now S) hrn (ownM.inS S (i:=0) rfl) hnn) ?_;clear H a
 rintro _ _ a ⟨rfl,S2⟩ H
 replace S:=S.call S2;clear S2
 refine ls 1 H<|sr 1 rfl<|sE ?_;clear H a;intro a H
 refine k3 _ _ ?_;clear k3 K3
 refine wp_seq_k fun K4 k4=>?_
 refine sS H fun K5 k5=>sr 2 rfl<|sE ?_;clear H a;intro a H
 refine k5 _ ?_;clear k5 K5
 refine condN H rfl (fun hc1=>?_) (fun hc1=>?_)
 ·skip
  refine sS H fun K6 k6=>sr 3 rfl<|sE ?_;clear H a;intro a H
  refine k6 _ ?_;clear k6 K6
  refine wp_ret ?_
  refine ret2 (fn:=Tryz.f69) rfl H G G ?_
  rw [Qz (p:=(⟨rates,pwn,ptn,pag⟩:Part)) (by omega)];exact ⟨rfl,(S.sel [] G G)⟩
 refine wp_skip ?_
 refine k4 _ _ ?_
 refine wp_seq_k fun K7 k7=>?_
 have h0:bY (⟨rates,pwn,ptn,pag⟩:Part) (l++plan)=0:=by omega
 have hok:=kB h0;have hll:=hok.len;have hbb:=Lo (p:=(⟨rates,pwn,ptn,pag⟩:Part)) (l:=l++plan) Prod.snd (by omega)
 rw [List.length_append] at hll
 replace H:=H.keep [1,2,3,8] rfl
 refine sS H fun K8 k8=>sr 1 rfl<|sE ?_;clear H a;intro a H
 refine k8 _ ?_;clear k8 K8
 refine wp_block ?_
 refine loop_st (X:=Nat) (R0:=_) [1,2,3,8] H rfl (fun k=>[(10,.int .i64 (k:Int))]) (fun k=>[]) (fun g k=>k≤plan.length∧g+k=plan.length∧(plan.take k).any (·.meas)=false) (plan.length) 0 ?_ (S.sel [0,1] G G) (H.keep [10,1,2,3,8] rfl) ?_
 · exact ⟨by omega,by omega,rfl⟩
 clear H S a
 intro g1 x1 a w1 hp S H K9 k9
 obtain ⟨k,rfl⟩:∃ y,y=x1:=⟨_,rfl⟩
 refine wp_seq_k fun K10 k10=>?_
 refine sS H fun K11 k11=>sr 2 rfl<|sL cG rfl<|sr 1 rfl<|sE ?_;clear H a;intro a H
 refine k11 _ ?_;clear k11 K11
 refine condL H rfl (fun hc2=>?_) (fun hc2=>?_)
 ·skip
  refine wp_skip ?_
  refine k10 _ _ ?_
  refine wp_seq_k fun K12 k12=>?_
  refine wp_block ?_
  refine sS H fun K13 k13=>sr 2 rfl<|si cG bV G G (hpl.adr (by omega)) (by omega)<|sp lR rfl<|slm iV rfl (hpl.rd S (by omega) (by omega))<|sE ?_;clear H a;intro a H
  refine k13 _ ?_;clear k13 K13
  refine aT H rfl (fun hc3=>?_) (fun hc3=>?_)
  ·skip
   try simp only [o1,o2,o3,o4,o5,o6,o7,o8,o9,oa] at hc3
   replace H:=H.keep [] rfl
   refine sS H fun K14 k14=>sr 2 rfl<|sE ?_;clear H a;intro a H
   refine k14 _ ?_;clear k14 K14
   refine wp_ret ?_
   refine ret2 (fn:=Tryz.f69) rfl H G G ?_
   rw [Ra (p:=(⟨rates,pwn,ptn,pag⟩:Part)) h0 (aBh (k:=k) (by omega) hc3)];exact ⟨rfl,(S.sel [] G G)⟩
  try simp only [o1,o2,o3,o4,o5,o6,o7,o8,o9,oa] at hc3
  refine wp_skip ?_
  refine k12 _ _ ?_
  refine sO H<|sr 1 rfl<|sd (aG G G (by unfold i64ok;omega))<|sr 1 rfl<|sE ?_;clear H a;intro a H
  exact k9 (g1-1) (k+1) a _ (by omega) (⟨by omega,by omega,Qy (by omega) hp.2.2 hc3⟩) (S.sel [0,1] G G) (H.keep [10,1,2,3,8] rfl)
 refine wp_exit ?_
 refine k7 _ _ ?_
 have hk9:k=plan.length:=by omega
 have ha:=hp.2.2;rw [hk9,List.take_length] at ha
 have hbe:=Gn (p:=(⟨rates,pwn,ptn,pag⟩:Part)) (l:=l++plan) Prod.snd
 by_cases hA:wearE (⟨rates,pwn,ptn,pag⟩:Part) (l++plan)=0
 ·skip
  replace H:=H.keep [1,2,3,8] rfl
  refine aA fun K16 k16=>?_
  refine ls 2 H<|sd ((aD dE dV rfl S (i:=1) G G))<|sr 1 rfl<|sE ?_;clear H a;intro a H
  refine aC H G G Tryz.func84 G G (dU (Db rates pwn ptn pag RA rcp (l++plan) A3 c3 _ (hr.now S) hrn (ownM.inS S (i:=0) rfl) hnn hok h0) (fun _ _=>yS hA)) ?_;clear H a
  rintro _ _ a ⟨A',c',rfl,S2⟩ H
  replace S:=S.call S2;clear S2
  refine ls 5 H<|sr 5 rfl<|sE ?_;clear H a;intro a H
  refine k16 _ _ ?_;clear k16 K16
  refine wp_seq_k fun K17 k17=>?_
  replace H:=H.keep [1,2,3,8,9,11] rfl
  refine sS H fun K18 k18=>sr 2 rfl<|sE ?_;clear H a;intro a H
  refine k18 _ ?_;clear k18 K18
  refine condN H rfl (fun hc4=>?_) (fun hc4=>?_)
  ·skip
   all_goals first|(exfalso;omega)|(simp at hc4)
  refine wp_skip ?_
  refine k17 _ _ ?_
  refine aA fun K19 k19=>?_
  refine ls 3 H<|sd ((aD dE dV rfl S (i:=2) G G))<|sr 2 rfl<|sE ?_;clear H a;intro a H
  refine aC H G G Tryz.func85 G G (Gm rates pwn ptn pag RA rcp (l++plan) A3 c3 _ (hr.now S) hrn (ownM.inS S (i:=1) rfl) hnn hok A' c' true (ownM.inS S (i:=0) rfl)) ?_;clear H a
  rintro _ _ a ⟨rfl,S2⟩ H
  replace S:=S.call S2;clear S2
  rw [show (iT (fun k=>wornB (⟨rates,pwn,ptn,pag⟩:Part) (l++plan) k (selE true (bF (⟨rates,pwn,ptn,pag⟩:Part) (l++plan) k))) (l++plan).length)=(bI (⟨rates,pwn,ptn,pag⟩:Part) (l++plan) Prod.snd).1 from (Lp Prod.snd hA).symm] at H
  refine ls 1 H<|sr 1 rfl<|sE ?_;clear H a;intro a H
  refine k19 _ _ ?_;clear k19 K19
  refine wp_seq_k fun K20 k20=>?_
  refine sS H fun K21 k21=>sr 2 rfl<|sE ?_;clear H a;intro a H
  refine k21 _ ?_;clear k21 K21
  refine condL H rfl (fun hc5=>?_) (fun hc5=>?_)
  ·skip
   replace H:=H.keep [2] rfl
   refine sS H fun K22 k22=>sr 1 rfl<|sL cG rfl<|sr 2 rfl<|sE ?_;clear H a;intro a H
   refine k22 _ ?_;clear k22 K22
   refine wp_ret ?_
   refine ret2 (fn:=Tryz.f69) rfl H G G ?_
   rw [Iy (p:=(⟨rates,pwn,ptn,pag⟩:Part)) h0 ha (by omega),if_pos (by omega)];exact ⟨rfl,(S.sel [] G G)⟩
  refine wp_skip ?_
  refine k20 _ _ ?_
  replace H:=H.keep [1,12] rfl
  refine sS H fun K23 k23=>sr 2 rfl<|sL cG rfl<|sd (aS G G (by unfold i64ok;omega))<|sd (kE G G)<|sr 2 rfl<|sE ?_;clear H a;intro a H
  refine k23 _ ?_;clear k23 K23
  refine wp_ret ?_
  refine ret2 (fn:=Tryz.f69) rfl H G G ?_
  rw [Iy (p:=(⟨rates,pwn,ptn,pag⟩:Part)) h0 ha (by omega),if_neg (by omega)];exact ⟨rfl,(S.sel [] G G)⟩
 replace H:=H.keep [1,2,3,8] rfl
 refine aA fun K24 k24=>?_
 refine ls 2 H<|sd ((aD dE dV rfl S (i:=1) G G))<|sr 1 rfl<|sE ?_;clear H a;intro a H
 refine aC H G G Tryz.func84 G G (dU (Db rates pwn ptn pag RA rcp (l++plan) A3 c3 _ (hr.now S) hrn (ownM.inS S (i:=0) rfl) hnn hok h0) (fun _ _=>Da hA)) ?_;clear H a
 rintro _ _ a ⟨rfl,S2⟩ H
 replace S:=S.call S2;clear S2
 refine ls 5 H<|sr 5 rfl<|sE ?_;clear H a;intro a H
 refine k24 _ _ ?_;clear k24 K24
 refine wp_seq_k fun K25 k25=>?_
 replace H:=H.keep [1,2,3,8,9,11] rfl
 refine sS H fun K26 k26=>sr 2 rfl<|sE ?_;clear H a;intro a H
 refine k26 _ ?_;clear k26 K26
 refine condN H rfl (fun hc6=>?_) (fun hc6=>?_)
 ·skip
  refine sS H fun K27 k27=>sr 3 rfl<|sE ?_;clear H a;intro a H
  refine k27 _ ?_;clear k27 K27
  refine wp_ret ?_
  refine ret2 (fn:=Tryz.f69) rfl H G G ?_
  rw [Ln (p:=(⟨rates,pwn,ptn,pag⟩:Part)) h0 ha (by omega),hbe];exact ⟨rfl,(S.sel [] G G)⟩
 all_goals (exfalso;omega)
end
section
structure EndN (N:Net) (r0:RM) (b x:Nat) (v:Int) (r:RM) (L:Nat→Int):Prop where
  fl:Fl N r0 r b x v
  nn:0≤v
  lev:LevOk N r b L
  full:L x<0
section
variable {N:Net} {r r0 r1 r2:RM} {b x u:Nat} {v v' m B:Int} {L L':Nat→Int}
theorem De {S:Nat→Bool} (h:∀ i,i<N.k→∀ j,j<N.n i→r2 i j=r1 i j):resid N r2 S=resid N r1 S:=dO fun i hi=>dO fun j hj=>by rw [h i hi j hj]
theorem Fl.congr (W:N.Wf) (h:Fl N r r1 u x m) (e:∀ i,i<N.k→∀ j,j<N.n i→r2 i j=r1 i j):Fl N r r2 u x m:=
  ⟨fun S=>by rw [De e];exact h.cut S,fun i hi j hj=>by rw [e i hi j hj,e _ (W.to_lt i hi j hj) _ (W.bk_lt i hi j hj)];exact h.pair i hi j hj,fun i hi j hj=>by rw [e i hi j hj];exact h.nn i hi j hj⟩
theorem Av {S:Nat→Bool} (hb:S b=true) (hx:S x=false):ind S b-ind S x=1:=by unfold ind;rw [hb,hx];rfl
theorem EndN.bound (O:Ok N r0 B) (h:EndN N r0 b x v r L) {S:Nat→Bool} (hb:S b=true) (hx:S x=false):v≤resid N r0 S:=by
  have h1:=lQ (S:=S) (h.fl.ok O)
  rw [h.fl.cut,Av hb hx] at h1
  omega
theorem EndN.tight (h:EndN N r0 b x v r L):bB L b=true∧bB L x=false∧resid N r0 (bB L)=v:=by
  have hb:bB L b=true:=by unfold bB;rw [h.lev.b0];rfl
  have hx:bB L x=false:=by unfold bB;rw [decide_eq_false_iff_not];have:=h.full;omega
  refine ⟨hb,hx,?_⟩
  have h0:resid N r (bB L)=0:=eM fun i hi=>eM fun j hj=>by
    split
    · rename_i hc
      obtain ⟨h1,h2⟩:=hc
      unfold bB at h1 h2
      simp only [decide_eq_true_eq,decide_eq_false_iff_not] at h1 h2
      have h3:=h.fl.nn i hi j hj
      by_cases h4:0<r i j
      · exact absurd (h.lev.cl i hi h1 j hj h4) h2
      · omega
    · rfl
  rw [h.fl.cut,Av hb hx] at h0
  omega
theorem EndN.inside (h:EndN N r0 b x v r L) {S:Nat→Bool} (hb:S b=true) (hx:S x=false) (hc:resid N r0 S=v):∀ u,u<N.k→0≤L u→S u=true:=by
  have h0:resid N r S=0:=by rw [h.fl.cut,Av hb hx];omega
  exact h.lev.least hb (vU h.fl.nn h0)
theorem Rc (W:N.Wf) (hb:b<N.k):∃ L,LevOk N r b L:=by
  have row:∀ (L:Nat→Int) (q:Nat→Nat) (ql h:Nat),Bfs N r b L q ql h 0→h<ql→∃ L' q' ql',Bfs N r b L' q' ql' (h+1) 0:=by
    intro L q ql h hB hh
    have key:∀ J,J≤N.n (q h)→∃ L' q' ql',Bfs N r b L' q' ql' h J∧q' h=q h∧h<ql':=by
      intro J
      induction J with
      | zero=>intro _;exact ⟨L,q,ql,hB,rfl,hh⟩
      | succ J ih=>
        intro hJ
        obtain ⟨L',q',ql',hB',he,hl⟩:=ih (by omega)
        by_cases hc:0<r (q' h) J∧L' (N.to (q' h) J)<0
        · exact ⟨_,_,_,hB'.visit W hl (by rw [he];omega) hc.1 hc.2,by rw [bK _ _ (by omega)];exact he,by omega⟩
        · exact ⟨_,_,_,hB'.skip hc,he,hl⟩
    obtain ⟨L',q',ql',hB',he,_⟩:=key (N.n (q h)) (Nat.le_refl _)
    exact ⟨L',q',ql',hB'.next (by rw [he];omega)⟩
  have key:∀ (d h:Nat) (L:Nat→Int) (q:Nat→Nat) (ql:Nat),Bfs N r b L q ql h 0→N.k-h≤d→∃ L,LevOk N r b L:=by
    intro d
    induction d with
    | zero=>intro h L q ql hB hd;exact ⟨L,hB.done (by have:=hB.le;omega)⟩
    | succ d ih=>
      intro h L q ql hB hd
      by_cases hq:ql≤h
      · exact ⟨L,hB.done hq⟩
      · obtain ⟨L',q',ql',hB'⟩:=row L q ql h hB (by omega)
        exact ih (h+1) L' q' ql' hB' (by have:=hB.le;omega)
  exact key _ 0 _ _ 1 (Bfs.start (L:=fun v=>if v=b then 0 else -1) (q:=fun _=>b) hb (fun _ _=>rfl) rfl) (Nat.le_refl _)
theorem Df (W:N.Wf) (O:Ok N r B) (hp:Path N r L x u):u<N.k→∃ r',Fl N r r' u x 1∧∀ i,i<N.k→∀ q,q<N.n i→L i<L u→r' i q=r i q:=by
  induction hp with
  | stop=>intro _;exact ⟨r,Fl.here O,fun _ _ _ _ _=>rfl⟩
  | @step u j hj hr hl _ ih=>
    intro hu
    obtain ⟨r',hF,hlow⟩:=ih (W.to_lt u hu j hj)
    have e:=hlow u hu j hj (by omega)
    refine ⟨along N r' u j 1,Fl.step W hu hj hF (by omega) (by omega),fun i hi q hq hL=>?_⟩
    rw [kG (fun h=>by rw [h.1] at hL;omega) (fun h=>by rw [h.1] at hL;omega)]
    exact hlow i hi q hq (by omega)
theorem aBi (W:N.Wf) (O:Ok N r0 B) (hb:b<N.k) (hx:x<N.k) (hbx:b≠x):∃ v r L,EndN N r0 b x v r L:=by
  have bnd:∀ {v r},Fl N r0 r b x v→v≤resid N r0 (fun v=>decide (v=b)):=fun {v r} hF=>by
    have h1:=lQ (S:=fun v=>decide (v=b)) (hF.ok O)
    rw [hF.cut,Av (by simp) (by simp;exact fun e=>hbx e.symm)] at h1
    omega
  have key:∀ (d:Nat) (v:Int) (r:RM),Fl N r0 r b x v→0≤v→(resid N r0 (fun v=>decide (v=b))-v).toNat≤d→∃ v r L,EndN N r0 b x v r L:=by
    intro d
    induction d with
    | zero=>
      intro v r hF h0 hd
      obtain ⟨L,hL⟩:=Rc (r:=r) W hb
      by_cases hf:L x<0
      · exact ⟨v,r,L,hF,h0,hL,hf⟩
      · obtain ⟨r',hF',_⟩:=Df W (hF.ok O) (zW hL hx (by omega)) hb
        have:=bnd (hF.more hF')
        omega
    | succ d ih=>
      intro v r hF h0 hd
      obtain ⟨L,hL⟩:=Rc (r:=r) W hb
      by_cases hf:L x<0
      · exact ⟨v,r,L,hF,h0,hL,hf⟩
      · obtain ⟨r',hF',_⟩:=Df W (hF.ok O) (zW hL hx (by omega)) hb
        have hF2:=hF.more hF'
        have:=bnd hF2
        exact ih _ _ hF2 (by omega) (by omega)
  exact key _ 0 r0 (Fl.zero O) (Int.le_refl _) (Nat.le_refl _)
end
structure Eg where
  f:Nat
  t:Nat
  pas:Int
  tick:Int
def Eg.zero:Eg:=⟨0,0,0,0⟩
def egc (E:List Eg) (r:Nat→Int) (k:Nat):Nat→Value
  | 0 => .int .i64 ((E.getD k Eg.zero).f:Int)
  | 1 => .int .i64 ((E.getD k Eg.zero).t:Int)
  | 2 => .int .i64 (r k)
  | 3 => .int .i64 (E.getD k Eg.zero).pas
  | _ => .int .i64 (E.getD k Eg.zero).tick
def egs2 (j:Jn):List Eg:=[⟨j.f,j.t,j.mv.pas,j.mv.at_⟩,⟨j.t,j.f,-1,0⟩]
def egs (J:List Jn):List Eg:=J.flatMap egs2
def Jn.zero:Jn:=⟨0,0,0,Mv.none⟩
def egr (J:List Jn) (e:Nat):Int:=if e%2=0 then (J.getD (e/2) Jn.zero).room else 0
def ixs (E:List Eg) (i:Nat):List Nat:=(List.range E.length).filter fun e=>decide ((E.getD e Eg.zero).f=i)
def tw (e:Nat):Nat:=if e%2=0 then e+1 else e-1
theorem hY (J:List Jn):(egs J).length=2*J.length:=by
  induction J with
  | nil=>rfl
  | cons j J ih=>simp only [egs,List.flatMap_cons,List.length_append,List.length_cons] at ih ⊢;rw [ih];simp [egs2];omega
theorem nU (J:List Jn) (j:Jn):egs (J++[j])=egs J++egs2 j:=by simp [egs]
theorem lZ {α:Type} {l l':List α} {d:α} {q:Nat} (h:q<l.length):(l++l').getD q d=l.getD q d:=by
  rw [List.getD_eq_getElem?_getD,List.getD_eq_getElem?_getD,List.getElem?_append_left h]
theorem iZ {α:Type} {l l':List α} {d:α} {q:Nat} (h:l.length≤q):(l++l').getD q d=l'.getD (q-l.length) d:=by
  rw [List.getD_eq_getElem?_getD,List.getD_eq_getElem?_getD,List.getElem?_append_right h]
theorem Re (J:List Jn) (j:Jn):(egs (J++[j])).getD (2*J.length) Eg.zero=⟨j.f,j.t,j.mv.pas,j.mv.at_⟩:=by
  rw [nU,iZ (by rw [hY];omega),hY,Nat.sub_self];rfl
theorem Rf (J:List Jn) (j:Jn):(egs (J++[j])).getD (2*J.length+1) Eg.zero=⟨j.t,j.f,-1,0⟩:=by
  rw [nU,iZ (by rw [hY];omega),hY,show 2*J.length+1-2*J.length=1 by omega];rfl
theorem Wp {J:List Jn} {j:Jn} {e:Nat} (h:e<2*J.length):(egs (J++[j])).getD e Eg.zero=(egs J).getD e Eg.zero:=by rw [nU,lZ (by rw [hY];exact h)]
theorem Iz {J:List Jn} {j:Jn} {e:Nat} (h:e<2*J.length):egr (J++[j]) e=egr J e:=by unfold egr;rw [lZ (by omega)]
theorem Dg (J:List Jn) (j:Jn):egr (J++[j]) (2*J.length)=j.room:=by
  unfold egr;rw [if_pos (by omega),show 2*J.length/2=J.length by omega,iZ (Nat.le_refl _),Nat.sub_self];rfl
theorem Dh (J:List Jn) (j:Jn):egr (J++[j]) (2*J.length+1)=0:=by unfold egr;rw [if_neg (by omega)]
theorem xX {l:List Nat} {p q:Nat→Bool} (h:∀ x ∈ l,p x=q x):l.filter p=l.filter q:=by
  induction l with
  | nil=>rfl
  | cons a l ih=>
    have h1:=h a (List.mem_cons_self ..)
    have h2:=ih fun x hx=>h x (List.mem_cons_of_mem _ hx)
    by_cases hp:p a=true
    · rw [List.filter_cons_of_pos hp,List.filter_cons_of_pos (by rw [←h1];exact hp),h2]
    · rw [List.filter_cons_of_neg hp,List.filter_cons_of_neg (by rw [←h1];exact hp),h2]
theorem Di {E:List Eg} {e1:Eg} {i:Nat}:ixs (E++[e1]) i=ixs E i++(if e1.f=i then [E.length] else []):=by
  unfold ixs
  rw [List.length_append,List.length_singleton,List.range_succ,List.filter_append]
  congr 1
  · refine xX fun x hx=>?_
    rw [lZ (List.mem_range.1 hx)]
  · have hg:(E++[e1]).getD E.length Eg.zero=e1:=by rw [iZ (Nat.le_refl _),Nat.sub_self];rfl
    by_cases h:e1.f=i
    · rw [if_pos h,List.filter_cons_of_pos (by rw [hg];exact decide_eq_true h)];rfl
    · rw [if_neg h,List.filter_cons_of_neg (by rw [hg,decide_eq_false h];simp)];rfl
theorem nV {J:List Jn} {j:Jn} (hft:j.f≠j.t) (i:Nat):ixs (egs (J++[j])) i=if i=j.f then ixs (egs J) i++[2*J.length] else if i=j.t then ixs (egs J) i++[2*J.length+1] else ixs (egs J) i:=by
  have e:egs (J++[j])=(egs J++[⟨j.f,j.t,j.mv.pas,j.mv.at_⟩])++[⟨j.t,j.f,-1,0⟩]:=by rw [nU];unfold egs2;simp
  rw [e,Di,Di,List.length_append,hY]
  dsimp only
  by_cases h1:i=j.f
  · subst h1
    rw [if_pos rfl,if_pos rfl,if_neg (fun h=>hft h.symm),List.append_nil]
  · rw [if_neg (fun h=>h1 h.symm),if_neg h1]
    by_cases h2:i=j.t
    · subst h2;rw [if_pos rfl,if_pos rfl,List.append_nil];rfl
    · rw [if_neg (fun h=>h2 h.symm),if_neg h2,List.append_nil,List.append_nil]
structure Lk (N:Net) (E:List Eg):Prop where
  len:∀ i,i<N.k→(ixs E i).length=N.n i
  lt:∀ i,i<N.k→∀ q,q<N.n i→(ixs E i).getD q 0<E.length
  ef:∀ i,i<N.k→∀ q,q<N.n i→(E.getD ((ixs E i).getD q 0) Eg.zero).f=i
  et:∀ i,i<N.k→∀ q,q<N.n i→(E.getD ((ixs E i).getD q 0) Eg.zero).t=N.to i q
  tw:∀ i,i<N.k→∀ q,q<N.n i→(ixs E (N.to i q)).getD (N.back i q) 0=tw ((ixs E i).getD q 0)
  inj:∀ i,i<N.k→∀ q q',q<N.n i→q'<N.n i→(ixs E i).getD q 0=(ixs E i).getD q' 0→q=q'
  evn:E.length%2=0
def rmE (E:List Eg) (r:Nat→Int):RM:=fun i q=>r ((ixs E i).getD q 0)
theorem Aw {E:List Eg} {i q:Nat} (h:q<(ixs E i).length):(ixs E i).getD q 0<E.length∧(E.getD ((ixs E i).getD q 0) Eg.zero).f=i:=by
  have hm:(ixs E i).getD q 0 ∈ ixs E i:=by rw [List.getD_eq_getElem?_getD,List.getElem?_eq_getElem h];exact List.getElem_mem h
  have:=List.mem_filter.1 hm
  exact ⟨List.mem_range.1 this.1,of_decide_eq_true this.2⟩
theorem Wq {E:List Eg} {i q q':Nat} (h:q<(ixs E i).length) (h':q'<(ixs E i).length) (e:(ixs E i).getD q 0=(ixs E i).getD q' 0):q=q':=by
  have hn:(ixs E i).Nodup:=List.Pairwise.filter _ List.nodup_range
  rw [List.getD_eq_getElem?_getD,List.getD_eq_getElem?_getD,List.getElem?_eq_getElem h,List.getElem?_eq_getElem h'] at e
  exact (List.getElem_inj hn).1 e
theorem Dj:∀ (n:Nat) (J:List Jn),J.length=n→(∀ j ∈ J,j.f≠j.t)→∀ i,(ixs (egs J) i).length=(joins J i).length∧∀ q,q<(joins J i).length →
    ((egs J).getD ((ixs (egs J) i).getD q 0) Eg.zero).t=((joins J i).getD q Ent.zero).to∧egr J ((ixs (egs J) i).getD q 0)=((joins J i).getD q Ent.zero).room ∧
    ((joins J i).getD q Ent.zero).back<(joins J ((joins J i).getD q Ent.zero).to).length∧(ixs (egs J) ((joins J i).getD q Ent.zero).to).getD ((joins J i).getD q Ent.zero).back 0=tw ((ixs (egs J) i).getD q 0):=by
  intro n
  induction n with
  | zero=>
    intro J h _ i
    have:J=[]:=List.eq_nil_of_length_eq_zero h
    subst this
    exact ⟨rfl,fun q hq=>absurd hq (Nat.not_lt_zero q)⟩
  | succ n ih=>
    intro J h hne
    obtain ⟨J',j,rfl⟩:∃ J' j,J=J'++[j]:=⟨J.dropLast,J.getLast (by intro e;subst e;simp at h),(List.dropLast_concat_getLast _).symm⟩
    have IH:=ih J' (by simpa using h) (fun x hx=>hne x (List.mem_append_left _ hx))
    have hft:j.f≠j.t:=hne j (List.mem_append_right _ (by simp))
    have hlen:=vS (T:=joins J') (f:=j.f) (t:=j.t) (room:=j.room) (mv:=j.mv) hft
    have hat:=Ai (T:=joins J') (f:=j.f) (t:=j.t) (room:=j.room) (mv:=j.mv) hft
    have hL:∀ i,(ixs (egs (J'++[j])) i).length=(joins (J'++[j]) i).length:=fun i=>by
      have h2:=hlen i
      unfold tlen at h2
      rw [fE,h2,nV hft,←(IH i).1]
      by_cases h1:i=j.f
      · subst h1;rw [if_pos rfl,if_pos rfl,if_neg hft];simp
      · rw [if_neg h1,if_neg h1]
        by_cases h2:i=j.t
        · subst h2;rw [if_pos rfl,if_pos rfl];simp
        · rw [if_neg h2,if_neg h2];omega
    have hX0:∀ i q,q<(joins J' i).length→(ixs (egs (J'++[j])) i).getD q 0=(ixs (egs J') i).getD q 0:=fun i q hq=>by
      have h2:=(IH i).1
      rw [nV hft]
      split
      · exact lZ (by omega)
      · split
        · exact lZ (by omega)
        · rfl
    have hXf:(ixs (egs (J'++[j])) j.f).getD (joins J' j.f).length 0=2*J'.length:=by
      rw [nV hft,if_pos rfl,iZ (by rw [(IH j.f).1];omega),(IH j.f).1,Nat.sub_self];rfl
    have hXt:(ixs (egs (J'++[j])) j.t).getD (joins J' j.t).length 0=2*J'.length+1:=by
      rw [nV hft,if_neg (fun e=>hft e.symm),if_pos rfl,iZ (by rw [(IH j.t).1];omega),(IH j.t).1,Nat.sub_self];rfl
    intro i
    refine ⟨hL i,fun q hq=>?_⟩
    have hq':=hq
    rw [fE] at hq'
    have h2:=hlen i
    unfold tlen at h2
    rw [h2] at hq'
    have he:∀ i q,(joins (J'++[j]) i).getD q Ent.zero=entAt (joinT (joins J') j.f j.t j.room j.mv) i q:=fun i q=>by rw [fE];rfl
    have tw0:tw (2*J'.length)=2*J'.length+1:=by unfold tw;rw [if_pos (by omega)]
    have tw1:tw (2*J'.length+1)=2*J'.length:=by unfold tw;rw [if_neg (by omega)];omega
    have hlt:∀ i,(joins (J'++[j]) i).length=(joins J' i).length+(if i=j.f then 1 else 0)+(if i=j.t then 1 else 0):=fun i=>by rw [fE];exact hlen i
    rw [he,hat]
    unfold tlen
    by_cases c1:i=j.f∧q=(joins J' j.f).length
    · obtain ⟨rfl,rfl⟩:=c1
      rw [if_pos ⟨rfl,rfl⟩,hXf,Re,Dg]
      dsimp only
      exact ⟨rfl,rfl,by rw [hlt,if_pos rfl];omega,by rw [hXt,tw0]⟩
    · rw [if_neg c1]
      by_cases c2:i=j.t∧q=(joins J' j.t).length
      · obtain ⟨rfl,rfl⟩:=c2
        rw [if_pos ⟨rfl,rfl⟩,hXt,Rf,Dh]
        dsimp only
        exact ⟨rfl,rfl,by rw [hlt,if_pos rfl];omega,by rw [hXf,tw1]⟩
      · rw [if_neg c2]
        have hqo:q<(joins J' i).length:=by
          by_cases e1:i=j.f
          · subst e1;rw [if_pos rfl,if_neg hft] at hq';have:q≠(joins J' j.f).length:=fun e=>c1 ⟨rfl,e⟩;omega
          · by_cases e2:i=j.t
            · subst e2;rw [if_neg e1,if_pos rfl] at hq';have:q≠(joins J' j.t).length:=fun e=>c2 ⟨rfl,e⟩;omega
            · rw [if_neg e1,if_neg e2] at hq';omega
        obtain ⟨g1,g2,g3,g4⟩:=(IH i).2 q hqo
        have hlt2:=(Aw (E:=egs J') (i:=i) (q:=q) (by rw [(IH i).1];exact hqo)).1
        rw [hY] at hlt2
        rw [hX0 i q hqo,Wp hlt2,Iz hlt2]
        refine ⟨g1,g2,?_,?_⟩
        · show ((joins J' i).getD q Ent.zero).back<_
          rw [hlt]
          exact Nat.lt_of_lt_of_le g3 (by show _≤(joins J' ((joins J' i).getD q Ent.zero).to).length+_+_;omega)
        · show (ixs (egs (J'++[j])) ((joins J' i).getD q Ent.zero).to).getD ((joins J' i).getD q Ent.zero).back 0=_
          rw [hX0 _ _ g3,g4]
theorem aBj {J:List Jn} {k:Nat} (h:∀ j ∈ J,j.f≠j.t):Lk ((joins J).net k) (egs J):=by
  have IH:=Dj _ J rfl h
  have hl:∀ i q,q<(joins J i).length→q<(ixs (egs J) i).length:=fun i q hq=>by rw [(IH i).1];exact hq
  exact ⟨fun i _=>(IH i).1,fun i _ q hq=>(Aw (hl i q hq)).1,fun i _ q hq=>(Aw (hl i q hq)).2,fun i _ q hq=>((IH i).2 q hq).1,fun i _ q hq=>((IH i).2 q hq).2.2.2,
    fun i _ q q' hq hq' e=>Wq (hl i q hq) (hl i q' hq') e,by rw [hY];omega⟩
theorem aBk {J:List Jn} {k:Nat} (h:∀ j ∈ J,j.f≠j.t):∀ i,i<k→∀ q,q<((joins J).net k).n i→rmE (egs J) (egr J) i q=(joins J).room i q:=fun i _ q hq=>((Dj _ J rfl h i).2 q hq).2.1
theorem Rg {e:Nat}:tw e≠e:=by unfold tw;split <;> omega
theorem aEj {e n:Nat} (h:e<n) (hn:n%2=0):tw e<n:=by unfold tw;split <;> omega
def pushE (r:Nat→Int) (e:Nat) (m:Int):Nat→Int:=upd (upd r e (r e-m)) (tw e) (r (tw e)+m)
section
variable {N:Net} {E:List Eg} {r:Nat→Int} {u j:Nat} {m B:Int}
theorem Rh:pushE r u m u=r u-m:=by unfold pushE;rw [bK _ _ (fun e=>Rg e.symm),bN]
theorem Dk:pushE r u m (tw u)=r (tw u)+m:=bN _ _ _
theorem Dl {e:Nat} (h1:e≠u) (h2:e≠tw u):pushE r u m e=r e:=by unfold pushE;rw [bK _ _ h2,bK _ _ h1]
theorem Lk.push (K:Lk N E) (W:N.Wf) (hu:u<N.k) (hj:j<N.n u):∀ i,i<N.k→∀ q,q<N.n i→rmE E (pushE r ((ixs E u).getD j 0) m) i q=along N (rmE E r) u j m i q:=by
  intro i hi q hq
  have htk:=W.to_lt u hu j hj
  have hbk:=W.bk_lt u hu j hj
  have same:∀ {i q i' q'},i<N.k→q<N.n i→i'<N.k→q'<N.n i'→(ixs E i).getD q 0=(ixs E i').getD q' 0→i=i'∧q=q':=by
    intro i q i' q' hi hq hi' hq' e
    have e1:i=i':=by rw [←K.ef i hi q hq,e,K.ef i' hi' q' hq']
    subst e1
    exact ⟨rfl,K.inj i hi q q' hq hq' e⟩
  show pushE r ((ixs E u).getD j 0) m ((ixs E i).getD q 0)=_
  by_cases h1:i=u∧q=j
  · obtain ⟨rfl,rfl⟩:=h1
    rw [Rh,nH W hi hq];rfl
  · by_cases h2:i=N.to u j∧q=N.back u j
    · obtain ⟨rfl,rfl⟩:=h2
      rw [nI,K.tw u hu j hj,Dk]
      show _=r ((ixs E (N.to u j)).getD (N.back u j) 0)+m
      rw [K.tw u hu j hj]
    · rw [kG h1 h2,Dl (fun e=>h1 (same hi hq hu hj e)) (fun e=>h2 (same hi hq htk hbk (by rw [K.tw u hu j hj];exact e)))];rfl
structure Rch (N:Net) (E:List Eg) (r:Nat→Int) (b:Nat) (L:Nat→Int) (by_:Nat→Nat):Prop where
  from_:∀ v,v<N.k→0≤L v→v=b∨∃ u,u<N.k∧∃ j,j<N.n u∧0≤L u∧0<rmE E r u j∧N.to u j=v∧L v=L u+1∧by_ v=(ixs E u).getD j 0
theorem Rch.start {b:Nat} (hb:b<N.k) {L:Nat→Int} (hL:∀ v,v<N.k→L v=if v=b then 0 else -1) {by_:Nat→Nat}:Rch N E r b L by_:=⟨fun v hv h0=>by
  rw [hL v hv] at h0
  split at h0
  · rename_i e;exact .inl e
  · omega⟩
theorem Rch.visit {b:Nat} {L:Nat→Int} {by_:Nat→Nat} (h:Rch N E r b L by_) (hu:u<N.k) (hj:j<N.n u) (h0:0≤L u) (hr:0<rmE E r u j) (hv:L (N.to u j)<0) :
    Rch N E r b (upd L (N.to u j) (L u+1)) (upd by_ (N.to u j) ((ixs E u).getD j 0)):=⟨fun v hv' h0'=>by
  have hne:∀ v,0≤L v→v≠N.to u j:=fun v h0 e=>by subst e;omega
  by_cases e:v=N.to u j
  · subst e
    rw [bN,bN]
    exact .inr ⟨u,hu,j,hj,by rw [bK _ _ (hne u h0)];exact h0,hr,rfl,by rw [bK _ _ (hne u h0)],rfl⟩
  · rw [bK _ _ e] at h0'
    rcases h.from_ v hv' h0' with h1|⟨u',hu',j',hj',g1,g2,g3,g4,g5⟩
    · exact .inl h1
    · refine .inr ⟨u',hu',j',hj',?_,g2,g3,?_,?_⟩
      · rw [bK _ _ (hne u' g1)];exact g1
      · rw [bK _ _ e,bK _ _ (hne u' g1)];exact g4
      · rw [bK _ _ e];exact g5⟩
def prv (E:List Eg) (by_:Nat→Nat) (v:Nat):Nat:=(E.getD (by_ v) Eg.zero).f
def pth (E:List Eg) (by_:Nat→Nat) (x:Nat):Nat→Nat
  | 0=>x
  | i+1=>prv E by_ (pth E by_ x i)
theorem Rch.prv {b:Nat} {L:Nat→Int} {by_:Nat→Nat} (K:Lk N E) (h:Rch N E r b L by_) {v:Nat} (hv:v<N.k) (h0:0≤L v) (hne:v≠b) :
    ∃ j,prv E by_ v<N.k∧j<N.n (prv E by_ v)∧0≤L (prv E by_ v)∧0<r (by_ v)∧N.to (prv E by_ v) j=v∧L v=L (prv E by_ v)+1∧by_ v=(ixs E (prv E by_ v)).getD j 0∧by_ v<E.length∧(E.getD (by_ v) Eg.zero).t=v:=by
  rcases h.from_ v hv h0 with h1|⟨u,hu,j,hj,g1,g2,g3,g4,g5⟩
  · exact absurd h1 hne
  · have e:Go.Proofs.YtopmadlgolnmfaaGreat.prv E by_ v=u:=by unfold Go.Proofs.YtopmadlgolnmfaaGreat.prv;rw [g5];exact K.ef u hu j hj
    rw [e]
    exact ⟨j,hu,hj,g1,by rw [g5];exact g2,g3,g4,g5,by rw [g5];exact K.lt u hu j hj,by rw [g5,K.et u hu j hj];exact g3⟩
end
def ndR (T p t:Nat):Nat:=p*(T+1)+t
def farI:Int:=1073741824
def goneI (out:Int) (p:Psg) (place:Int):Int:=
  if othr p place<0∨p.kind=4 then -1 else if p.kind=3∧bitI out p.mach=1 then p.still else if p.kind=3∧place=p.b then -1 else p.ticks
def rmv:Mv:=⟨-1,0,0,0⟩
def jrBeg (P T:Nat) (pe:List Int) (p:Nat):Jn:=⟨P*(T+1),ndR T p 0,pe.getD p 0,rmv⟩
def fM (P T:Nat) (xs:List Int) (p t:Nat):List Jn:=if hasI xs p=true then [⟨ndR T p t,P*(T+1)+1,farI,rmv⟩] else if t<T then [⟨ndR T p t,ndR T p (t+1),farI,rmv⟩] else []
def cN (P T:Nat) (xs:List Int) (p:Nat):Nat→List Jn
  | 0=>[]
  | t+1=>cN P T xs p t++fM P T xs p t
def aV (P T:Nat) (pe xs:List Int):Nat→List Jn
  | 0=>[]
  | p+1=>aV P T pe xs p++(jrBeg P T pe p::cN P T xs p (T+1))
def endI (p:Psg) (k:Nat):Int:=if k=0 then p.a else p.b
def jrOne (T:Nat) (xs:List Int) (out:Int) (p:Psg) (i t k:Nat):List Jn:=
  if (0≤goneI out p (endI p k)∧(t:Int)+goneI out p (endI p k)≤T)∧hasI xs (endI p k)=false then
    [⟨ndR T (endI p k).toNat t,ndR T (endI p (1-k)).toNat (t+(goneI out p (endI p k)).toNat),p.wide,⟨i,0,t,0⟩⟩] else []
def dF (T:Nat) (xs:List Int) (out:Int) (ps:List Psg) (t:Nat):Nat→List Jn
  | 0=>[]
  | i+1=>dF T xs out ps t i++(jrOne T xs out (ps.getD i Psg.zero) i t 0++jrOne T xs out (ps.getD i Psg.zero) i t 1)
def bM (T:Nat) (xs:List Int) (out:Int) (ps:List Psg):Nat→List Jn
  | 0=>[]
  | t+1=>bM T xs out ps t++dF T xs out ps t ps.length
def jrAll (P T:Nat) (pe xs:List Int) (out:Int) (ps:List Psg):List Jn:=aV P T pe xs P++bM T xs out ps (T+1)
def cr (S:Nat→Bool) (f t:Nat) (c:Int):Int:=if S f=true∧S t=false then c else 0
theorem sJ (S:Nat→Bool) (j:Jn) (J:List Jn):capJ S (j::J)=cr S j.f j.t j.room+capJ S J:=rfl
theorem oW {S:Nat→Bool} {f t:Nat} {c:Int} (h:0≤c):0≤cr S f t c:=by unfold cr;split <;> omega
def onR (T:Nat) (S:Nat→Bool) (p t:Nat):Bool:=S (ndR T p t)
def onP (P:Nat) (S:Nat→Bool) (p t:Nat):Bool:=S (nd P t p)
def hC (U:Nat→Nat→Bool) (T:Nat) (f t:Nat) (d:Int) (c:Int) (tick:Nat):Int:=if (tick:Int)+d≤T∧U f tick=true∧U t (tick+d.toNat)=false then c else 0
def pC (U:Nat→Nat→Bool) (T:Nat) (xs:List Int) (out:Int) (p:Psg) (tick k:Nat):Int:=if 0≤goneI out p (endI p k)∧hasI xs (endI p k)=false then hC U T (endI p k).toNat (endI p (1-k)).toNat (goneI out p (endI p k)) p.wide tick else 0
def headC (U:Nat→Nat→Bool) (T:Nat) (xs:List Int) (out:Int) (ps:List Psg):Int:=sm (fun t=>sm (fun i=>pC U T xs out (ps.getD i Psg.zero) t 0+pC U T xs out (ps.getD i Psg.zero) t 1) ps.length) (T+1)
def begC (U:Nat→Nat→Bool) (pe:List Int) (P:Nat):Int:=sm (fun p=>if U p 0=false then pe.getD p 0 else 0) P
def Tight (U:Nat→Nat→Bool) (P T:Nat) (xs:List Int):Prop:=∀ p,p<P→(hasI xs p=true→∀ t,t≤T→U p t=false)∧(hasI xs p=false→∀ t,t<T→U p t=true→U p (t+1)=true)
section
variable {P T:Nat} {pe xs:List Int} {out:Int} {ps:List Psg} {S:Nat→Bool}
theorem nW {f t:Nat} {c:Int} {mv:Mv}:capJ S [⟨f,t,c,mv⟩]=cr S f t c:=by rw [sJ];exact Int.add_zero _
theorem yT {p:Psg} {i t k:Nat}:capJ S (jrOne T xs out p i t k)=pC (onR T S) T xs out p t k:=by
  unfold jrOne pC hC
  by_cases h0:0≤goneI out p (endI p k)∧hasI xs (endI p k)=false
  · rw [if_pos h0]
    by_cases h1:(t:Int)+goneI out p (endI p k)≤T
    · rw [if_pos ⟨⟨h0.1,h1⟩,h0.2⟩,nW]
      unfold cr onR
      by_cases h2:S (ndR T (endI p k).toNat t)=true∧S (ndR T (endI p (1-k)).toNat (t+(goneI out p (endI p k)).toNat))=false
      · rw [if_pos h2,if_pos ⟨h1,h2⟩]
      · rw [if_neg h2,if_neg (fun h=>h2 h.2)]
    · rw [if_neg (fun h=>h1 h.1.2),if_neg (fun h=>h1 h.1)];rfl
  · rw [if_neg h0,if_neg (fun h=>h0 ⟨h.1.1,h.2⟩)];rfl
theorem Gp {t:Nat}:∀ n,capJ S (dF T xs out ps t n)=sm (fun i=>pC (onR T S) T xs out (ps.getD i Psg.zero) t 0+pC (onR T S) T xs out (ps.getD i Psg.zero) t 1) n:=by
  intro n
  induction n with
  | zero=>rfl
  | succ n ih=>rw [dF,cK,cK,ih,yT,yT,sm]
theorem Dm:∀ n,capJ S (bM T xs out ps n)=sm (fun t=>sm (fun i=>pC (onR T S) T xs out (ps.getD i Psg.zero) t 0+pC (onR T S) T xs out (ps.getD i Psg.zero) t 1) ps.length) n:=by
  intro n
  induction n with
  | zero=>rfl
  | succ n ih=>rw [bM,cK,ih,Gp,sm]
theorem rE {f:Nat→Nat→Int} {m:Nat}:∀ {n:Nat},sm (fun i=>sm (fun j=>f i j) m) n=sm (fun j=>sm (fun i=>f i j) n) m:=by
  intro n
  induction n with
  | zero=>exact (eM fun _ _=>rfl).symm
  | succ n ih=>rw [sm,ih,←rW];exact dO fun j _=>rfl
theorem Gq {h:Hd}:∀ n,capJ S (fP P h n)=sm (fun t=>cr S (nd P t h.fr.toNat) (nd P (t+h.ticks.toNat) h.to.toNat) h.wide) n:=by
  intro n
  induction n with
  | zero=>rfl
  | succ n ih=>
    have e:fP P h (n+1)=fP P h n++[jHead P h n]:=iX n
    rw [e,cK,ih,sm]
    congr 1
    exact nW
theorem aBl {f:Nat→Int} {m:Nat}:∀ {n:Nat},m≤n→sm (fun t=>if t<m then f t else 0) n=sm f m:=by
  intro n
  induction n with
  | zero => intro h;have:m=0:=by omega
            subst this;rfl
  | succ n ih=>
    intro h
    rw [sm]
    by_cases e:m=n+1
    · subst e;rw [if_pos (by omega),sm];congr 1;exact dO fun i hi=>if_pos (by omega)
    · rw [ih (by omega),if_neg (by omega)];omega
theorem Lq {h:Hd} (h1:1≤h.ticks):capJ S (fP P h (T+1-h.ticks.toNat))=sm (hC (onP P S) T h.fr.toNat h.to.toNat h.ticks h.wide) (T+1):=by
  rw [Gq,←aBl (n:=T+1) (by omega)]
  refine dO fun t ht=>?_
  unfold hC cr onP
  by_cases h2:t<T+1-h.ticks.toNat
  · rw [if_pos h2]
    by_cases h3:S (nd P t h.fr.toNat)=true∧S (nd P (t+h.ticks.toNat) h.to.toNat)=false
    · rw [if_pos h3,if_pos ⟨by omega,h3⟩]
    · rw [if_neg h3,if_neg (fun h=>h3 h.2)]
  · rw [if_neg h2,if_neg (fun h=>by omega)]
def hdC (U:Nat→Nat→Bool) (T:Nat):List Hd→Int
  | []=>0
  | h::l=>sm (hC U T h.fr.toNat h.to.toNat h.ticks h.wide) (T+1)+hdC U T l
theorem pO {U:Nat→Nat→Bool} {l l':List Hd}:hdC U T (l++l')=hdC U T l+hdC U T l':=by
  induction l with
  | nil=>simp [hdC]
  | cons h l ih=>simp only [List.cons_append,hdC,ih];omega
theorem Gr {hs:List Hd} (hh:∀ i,i<hs.length→HdOk P (hs.getD i Hd.zero)):∀ n,n≤hs.length→capJ S (eF P T hs n)=hdC (onP P S) T (hs.take n):=by
  intro n
  induction n with
  | zero=>intro _;simp [eF,capJ,hdC]
  | succ n ih=>
    intro hn
    have h1:=hh n (by omega)
    unfold HdOk at h1
    rw [eF,cK,ih (by omega),Lq (by omega),List.take_succ_eq_append_getElem (by omega),pO]
    congr 1
    rw [List.getD_eq_getElem?_getD,List.getElem?_eq_getElem (by omega)]
    simp [hdC]
theorem Gs {n:Nat}:sm (fun _=>(0:Int)) n=0:=eM fun _ _=>rfl
theorem Lr {U:Nat→Nat→Bool} {k:Nat} (V:StV P ps xs) (hk:k<ps.length) (ho:0≤out):hdC U T (hdsOf out xs k (ps.getD k Psg.zero))=sm (fun t=>pC U T xs out (ps.getD k Psg.zero) t 0+pC U T xs out (ps.getD k Psg.zero) t 1) (T+1):=by
  have hp:=bS.1 (V.pas k hk)
  rw [rW]
  generalize ps.getD k Psg.zero=p at hp
  have hab:¬ p.b=p.a:=fun h=>hp.2.2.2.2.1 h.symm
  have hab':¬ p.a=p.b:=fun h=>hp.2.2.2.2.1 h
  have bt:bitI out p.mach=0∨bitI out p.mach=1:=by unfold bitI;omega
  unfold hdsOf
  by_cases h4:p.kind=4
  · rw [if_pos h4]
    have z:∀ k,goneI out p (endI p k) = -1:=fun k=>by unfold goneI;rw [if_pos (.inr h4)]
    have e:∀ k t,pC U T xs out p t k=0:=fun k t=>by unfold pC;rw [z k,if_neg (fun h=>by omega)]
    simp only [hdC,e,Gs]
    rfl
  · rw [if_neg h4,pO]
    have oA:othr p (endI p 0)=p.b:=by unfold othr endI;rw [if_pos rfl];simp
    have oB:othr p (endI p 1)=p.a:=by unfold othr endI;simp only [Nat.one_ne_zero,if_false];rw [if_neg hab'];simp
    have gA:goneI out p (endI p 0)=eN out p:=by
      unfold goneI eN
      rw [oA,if_neg (by omega)]
      by_cases h3:p.kind=3∧bitI out p.mach=1
      · rw [if_pos h3,if_pos ⟨h3.1,by omega⟩]
      · rw [if_neg h3,if_neg (fun h=>hab' h.2),if_neg (fun h=>h3 ⟨h.1,by omega⟩)]
    have ht:1≤eN out p:=by unfold eN;split <;> omega
    congr 1
    · unfold hdsA
      by_cases hx:hasI xs p.a=true
      · rw [if_pos hx]
        have e:∀ t,pC U T xs out p t 0=0:=fun t=>by unfold pC;rw [if_neg (fun h=>by have h2:=h.2;unfold endI at h2;rw [if_pos rfl,hx] at h2;cases h2)]
        simp only [hdC,e,Gs]
      · rw [if_neg hx]
        have e:∀ t,pC U T xs out p t 0=hC U T p.a.toNat p.b.toNat (eN out p) p.wide t:=fun t=>by
          unfold pC
          rw [gA,if_pos ⟨by omega,by unfold endI;rw [if_pos rfl];simpa using hx⟩]
          rfl
        simp only [hdC,e]
        exact Int.add_zero _
    · unfold hdsB
      by_cases hb:(jP out p&&!hasI xs p.b)=true
      · rw [if_pos hb]
        simp only [Bool.and_eq_true,Bool.not_eq_true'] at hb
        have h3:¬ (p.kind=3∧bitI out p.mach=0):=fun h=>by
          have:=hb.1
          unfold jP at this
          rw [decide_eq_true h.1,decide_eq_true h.2] at this
          cases this
        have gB:goneI out p (endI p 1)=eN out p:=by
          unfold goneI eN
          rw [oB,if_neg (by omega)]
          by_cases h5:p.kind=3∧bitI out p.mach=1
          · rw [if_pos h5,if_pos ⟨h5.1,by omega⟩]
          · rw [if_neg h5,if_neg (fun h=>h3 ⟨h.1,by have h6:¬ bitI out p.mach=1:=fun e=>h5 ⟨h.1,e⟩;omega⟩),if_neg (fun h=>h5 ⟨h.1,by omega⟩)]
        have e:∀ t,pC U T xs out p t 1=hC U T p.b.toNat p.a.toNat (eN out p) p.wide t:=fun t=>by
          unfold pC
          rw [gB,if_pos ⟨by omega,hb.2⟩]
          rfl
        simp only [hdC,e]
        exact Int.add_zero _
      · rw [if_neg hb]
        have e:∀ t,pC U T xs out p t 1=0:=fun t=>by
          unfold pC
          refine if_neg fun h=>hb ?_
          have hx:hasI xs p.b=false:=h.2
          rw [hx]
          have h1:=h.1
          unfold goneI at h1
          rw [oB,if_neg (by omega)] at h1
          unfold jP
          by_cases h3:p.kind=3
          · by_cases h5:bitI out p.mach=1
            · rw [decide_eq_false (p:=bitI out p.mach=0) (by omega),Bool.and_false];rfl
            · rw [if_neg (fun h=>h5 h.2),if_pos ⟨h3,rfl⟩] at h1
              omega
          · rw [decide_eq_false h3];rfl
        simp only [hdC,e,Gs]
theorem Wr {U:Nat→Nat→Bool} (V:StV P ps xs) (ho:0≤out):hdC U T (hds out xs ps)=headC U T xs out ps:=by
  have key:∀ n,n≤ps.length→hdC U T (hdsTo out xs ps n)=sm (fun i=>sm (fun t=>pC U T xs out (ps.getD i Psg.zero) t 0+pC U T xs out (ps.getD i Psg.zero) t 1) (T+1)) n:=by
    intro n
    induction n with
    | zero=>intro _;rfl
    | succ n ih=>intro hn;rw [hdsTo,pO,ih (by omega),Lr V (by omega) ho];rfl
  unfold headC hds
  rw [key _ (Nat.le_refl _),rE]
theorem Ws (V:StV P ps xs) (ho:0≤out):capJ S (eF P T (hds out xs ps) (hds out xs ps).length)=headC (onP P S) T xs out ps:=by
  rw [Gr (sC V) _ (Nat.le_refl _),List.take_length,Wr V ho]
theorem Wu:capJ S (bM T xs out ps (T+1))=headC (onR T S) T xs out ps:=Dm _
theorem Dn {p:Nat}:∀ n,capJ S (cN P T xs p n)=sm (fun t=>capJ S (fM P T xs p t)) n:=by
  intro n
  induction n with
  | zero=>rfl
  | succ n ih=>rw [cN,cK,ih,sm]
theorem yU {p t:Nat}:0≤capJ S (fM P T xs p t):=Wa fun j hj=>by
  unfold fM at hj
  split at hj
  · rw [List.mem_singleton.1 hj];exact (by decide:(0:Int)≤farI)
  · split at hj
    · rw [List.mem_singleton.1 hj];exact (by decide:(0:Int)≤farI)
    · cases hj
theorem Wv:∀ n,capJ S (aV P T pe xs n)=sm (fun p=>cr S (P*(T+1)) (ndR T p 0) (pe.getD p 0)+sm (fun t=>capJ S (fM P T xs p t)) (T+1)) n:=by
  intro n
  induction n with
  | zero=>rfl
  | succ n ih=>rw [aV,cK,ih,sJ,Dn,sm];rfl
theorem Ls {p:Nat}:∀ n,capJ S (dG P p n)=sm (fun t=>cr S (nd P t p) (nd P (t+1) p) fF) n:=by
  intro n
  induction n with
  | zero=>rfl
  | succ n ih=>
    have e:dG P p (n+1)=dG P p n++[jWait P p n]:=iX n
    rw [e,cK,ih,sm]
    congr 1
    exact nW
theorem Lt {p:Nat}:∀ n,capJ S (eX P T p n)=sm (fun t=>cr S (nd P t p) (P*(T+1)+1) fF) n:=by
  intro n
  induction n with
  | zero=>rfl
  | succ n ih=>
    have e:eX P T p (n+1)=eX P T p n++[jExit P T p n]:=iX n
    rw [e,cK,ih,sm]
    congr 1
    exact nW
def plC (P T:Nat) (xs:List Int) (S:Nat→Bool) (p:Nat):Int:=sm (fun t=>cr S (nd P t p) (nd P (t+1) p) fF) T+(if hasI xs p=true then sm (fun t=>cr S (nd P t p) (P*(T+1)+1) fF) (T+1) else 0)
theorem Ww:∀ n,capJ S (bD P T pe xs n)=sm (fun p=>cr S (P*(T+1)) (nd P 0 p) (pe.getD p 0)+plC P T xs S p) n:=by
  intro n
  induction n with
  | zero=>rfl
  | succ n ih=>
    rw [bD,cK,ih,sm]
    congr 1
    unfold jQ
    rw [sJ,cK,Ls]
    unfold plC
    congr 2
    split
    · exact Lt _
    · rfl
theorem aBm {p:Nat}:0≤plC P T xs S p:=by
  unfold plC
  have h1:=cZ (f:=fun t=>cr S (nd P t p) (nd P (t+1) p) fF) (n:=T) (fun t _=>oW (by decide))
  have h2:=cZ (f:=fun t=>cr S (nd P t p) (P*(T+1)+1) fF) (n:=T+1) (fun t _=>oW (by decide))
  split <;> omega
theorem aAj (hpe:∀ p,p<P→0≤pe.getD p 0) (hw:∀ i,i<ps.length→0≤(ps.getD i Psg.zero).wide) (hb:S (P*(T+1))=true) (hx:S (P*(T+1)+1)=false) :
    (Tight (onR T S) P T xs→capJ S (jrAll P T pe xs out ps)=begC (onR T S) pe P+headC (onR T S) T xs out ps)∧(¬ Tight (onR T S) P T xs→farI≤capJ S (jrAll P T pe xs out ps)):=by
  have hbeg:∀ p,cr S (P*(T+1)) (ndR T p 0) (pe.getD p 0)=if onR T S p 0=false then pe.getD p 0 else 0:=fun p=>by
    unfold cr onR
    by_cases h:S (ndR T p 0)=false
    · rw [if_pos ⟨hb,h⟩,if_pos h]
    · rw [if_neg (fun h2=>h h2.2),if_neg h]
  have hhn:0≤headC (onR T S) T xs out ps:=cZ fun t _=>cZ fun i hi=>by
    have:=hw i hi
    have key:∀ k,0≤pC (onR T S) T xs out (ps.getD i Psg.zero) t k:=fun k=>by unfold pC hC;split;(split <;> omega);omega
    have h0:=key 0
    have h1:=key 1
    omega
  unfold jrAll
  rw [cK,Wu,Wv]
  refine ⟨fun ht=>?_,fun hn=>?_⟩
  · congr 1
    unfold begC
    refine dO fun p hp=>?_
    rw [hbeg,eM (f:=fun t=>capJ S (fM P T xs p t)) fun t htT=>?_]
    · omega
    · have h1:=ht p hp
      unfold fM
      by_cases he:hasI xs p=true
      · rw [if_pos he,nW]
        unfold cr
        rw [if_neg]
        rintro ⟨h2,_⟩
        have:=h1.1 he t (by omega)
        unfold onR at this
        rw [h2] at this;cases this
      · rw [if_neg he]
        by_cases hlt:t<T
        · rw [if_pos hlt,nW]
          unfold cr
          rw [if_neg]
          rintro ⟨h2,h3⟩
          have:=h1.2 (by simpa using he) t hlt h2
          unfold onR at this
          rw [h3] at this;cases this
        · rw [if_neg hlt];rfl
  · have:∃ p,p<P∧∃ t,t<T+1∧farI≤capJ S (fM P T xs p t):=by
      refine Classical.byContradiction fun hno=>hn fun p hp=>⟨fun he t ht=>?_,fun he t ht h1=>?_⟩
      · cases hs:onR T S p t with
        | false=>rfl
        | true=>
          exfalso
          apply hno
          refine ⟨p,hp,t,by omega,?_⟩
          unfold fM
          rw [if_pos he,nW]
          unfold cr
          rw [if_pos ⟨hs,hx⟩]
          exact Int.le_refl _
      · cases hs:onR T S p (t+1) with
        | true=>rfl
        | false=>
          exfalso
          apply hno
          refine ⟨p,hp,t,by omega,?_⟩
          unfold fM
          rw [if_neg (by rw [he];simp),if_pos ht,nW]
          unfold cr
          rw [if_pos ⟨h1,hs⟩]
          exact Int.le_refl _
    obtain ⟨p,hp,t,ht,h2⟩:=this
    have h3:=nG (f:=fun t=>capJ S (fM P T xs p t)) (n:=T+1) (fun _ _=>yU) ht
    have h4:=nG (f:=fun p=>cr S (P*(T+1)) (ndR T p 0) (pe.getD p 0)+sm (fun t=>capJ S (fM P T xs p t)) (T+1)) (n:=P) (fun q hq=>by
      have h5:=oW (S:=S) (f:=P*(T+1)) (t:=ndR T q 0) (hpe q hq)
      have h6:=cZ (f:=fun t=>capJ S (fM P T xs q t)) (n:=T+1) (fun _ _=>yU)
      omega) hp
    have h5:=oW (S:=S) (f:=P*(T+1)) (t:=ndR T p 0) (hpe p hp)
    omega
theorem Ri (V:StV P ps xs) (ho:0≤out) (hpe:∀ p,p<P→0≤pe.getD p 0) (hb:S (P*(T+1))=true) (hx:S (P*(T+1)+1)=false) :
    (Tight (onP P S) P T xs→capJ S (jAll P T pe xs (hds out xs ps))=begC (onP P S) pe P+headC (onP P S) T xs out ps)∧(¬ Tight (onP P S) P T xs→farI≤capJ S (jAll P T pe xs (hds out xs ps))):=by
  have hw:∀ i,i<ps.length→0≤(ps.getD i Psg.zero).wide:=fun i hi=>by have:=bS.1 (V.pas i hi);omega
  have hbeg:∀ p,cr S (P*(T+1)) (nd P 0 p) (pe.getD p 0)=if onP P S p 0=false then pe.getD p 0 else 0:=fun p=>by
    unfold cr onP
    by_cases h:S (nd P 0 p)=false
    · rw [if_pos ⟨hb,h⟩,if_pos h]
    · rw [if_neg (fun h2=>h h2.2),if_neg h]
  have hhn:0≤headC (onP P S) T xs out ps:=cZ fun t _=>cZ fun i hi=>by
    have:=hw i hi
    have key:∀ k,0≤pC (onP P S) T xs out (ps.getD i Psg.zero) t k:=fun k=>by unfold pC hC;split;(split <;> omega);omega
    have h0:=key 0
    have h1:=key 1
    omega
  unfold jAll
  rw [cK,Ws V ho,Ww]
  refine ⟨fun ht=>?_,fun hn=>?_⟩
  · congr 1
    unfold begC
    refine dO fun p hp=>?_
    have h1:=ht p hp
    have hz:plC P T xs S p=0:=by
      unfold plC
      have e1:sm (fun t=>cr S (nd P t p) (nd P (t+1) p) fF) T=0:=eM fun t htT=>by
        unfold cr
        rw [if_neg]
        rintro ⟨h2,h3⟩
        by_cases he:hasI xs p=true
        · have:=h1.1 he t (by omega);unfold onP at this;rw [h2] at this;cases this
        · have:=h1.2 (by simpa using he) t htT h2;unfold onP at this;rw [h3] at this;cases this
      rw [e1]
      split
      · rename_i he
        rw [eM fun t htT=>?_]
        · rfl
        · unfold cr
          rw [if_neg]
          rintro ⟨h2,_⟩
          have:=h1.1 he t (by omega);unfold onP at this;rw [h2] at this;cases this
      · rfl
    rw [hbeg,hz]
    omega
  · have:∃ p,p<P∧fF≤plC P T xs S p:=by
      refine Classical.byContradiction fun hno=>hn fun p hp=>⟨fun he t ht=>?_,fun he t ht h1=>?_⟩
      · cases hs:onP P S p t with
        | false=>rfl
        | true=>
          exfalso
          apply hno
          refine ⟨p,hp,?_⟩
          unfold plC
          rw [if_pos he]
          have h2:=nG (f:=fun t=>cr S (nd P t p) (P*(T+1)+1) fF) (n:=T+1) (fun t _=>oW (by decide)) (p:=t) (by omega)
          have h3:=cZ (f:=fun t=>cr S (nd P t p) (nd P (t+1) p) fF) (n:=T) (fun t _=>oW (by decide))
          have h4:cr S (nd P t p) (P*(T+1)+1) fF=fF:=if_pos ⟨hs,hx⟩
          omega
      · cases hs:onP P S p (t+1) with
        | true=>rfl
        | false=>
          exfalso
          apply hno
          refine ⟨p,hp,?_⟩
          unfold plC
          have h2:=nG (f:=fun t=>cr S (nd P t p) (nd P (t+1) p) fF) (n:=T) (fun t _=>oW (by decide)) (p:=t) ht
          have h3:=cZ (f:=fun t=>cr S (nd P t p) (P*(T+1)+1) fF) (n:=T+1) (fun t _=>oW (by decide))
          have h4:cr S (nd P t p) (nd P (t+1) p) fF=fF:=if_pos ⟨h1,hs⟩
          split <;> omega
    obtain ⟨p,hp,h2⟩:=this
    have h4:=nG (f:=fun p=>cr S (P*(T+1)) (nd P 0 p) (pe.getD p 0)+plC P T xs S p) (n:=P) (fun q hq=>by
      have h5:=oW (S:=S) (f:=P*(T+1)) (t:=nd P 0 q) (hpe q hq)
      have h6:=aBm (P:=P) (T:=T) (xs:=xs) (S:=S) (p:=q)
      omega) hp
    have h5:=oW (S:=S) (f:=P*(T+1)) (t:=nd P 0 p) (hpe p hp)
    have h6:farI≤fF:=by decide
    omega
end
def toR (P T:Nat) (n:Nat):Nat:=if n<P*(T+1) then ndR T (n%P) (n/P) else n
def toP (P T:Nat) (n:Nat):Nat:=if n<P*(T+1) then nd P (n%(T+1)) (n/(T+1)) else n
section
variable {P T:Nat} {pe xs:List Int} {out:Int} {ps:List Psg} {S:Nat→Bool}
theorem jA {p t:Nat} (hp:p<P) (ht:t≤T):ndR T p t<P*(T+1):=by
  have:(p+1)*(T+1)≤P*(T+1):=Nat.mul_le_mul_right _ (by omega)
  rw [Nat.add_mul] at this
  unfold ndR
  omega
theorem Ax {p p' t t':Nat} (ht:t≤T) (ht':t'≤T) (h:¬ (p=p'∧t=t')):ndR T p t≠ndR T p' t':=by
  intro e
  unfold ndR at e
  have h1:(p*(T+1)+t)/(T+1)=p:=by rw [Nat.mul_comm,Nat.mul_add_div (by omega),Nat.div_eq_of_lt (by omega)];rfl
  have h2:(p'*(T+1)+t')/(T+1)=p':=by rw [Nat.mul_comm,Nat.mul_add_div (by omega),Nat.div_eq_of_lt (by omega)];rfl
  have e1:p=p':=by rw [←h1,e,h2]
  subst e1
  exact h ⟨rfl,by omega⟩
theorem Rj {p t:Nat} (hp:p<P) (ht:t≤T):toR P T (nd P t p)=ndR T p t:=by
  unfold toR
  rw [if_pos (lU ht hp)]
  have h1:nd P t p%P=p:=by unfold nd;rw [Nat.mul_add_mod,Nat.mod_eq_of_lt hp]
  have h2:nd P t p/P=t:=by unfold nd;rw [Nat.mul_add_div (by omega),Nat.div_eq_of_lt hp];rfl
  rw [h1,h2]
theorem Rk {p t:Nat} (hp:p<P) (ht:t≤T):toP P T (ndR T p t)=nd P t p:=by
  unfold toP
  rw [if_pos (jA hp ht)]
  have h1:ndR T p t%(T+1)=t:=by unfold ndR;rw [Nat.mul_comm,Nat.mul_add_mod,Nat.mod_eq_of_lt (by omega)]
  have h2:ndR T p t/(T+1)=p:=by unfold ndR;rw [Nat.mul_comm,Nat.mul_add_div (by omega),Nat.div_eq_of_lt (by omega)];rfl
  rw [h1,h2]
theorem Ja {n:Nat} (h:P*(T+1)≤n):toR P T n=n:=if_neg (by omega)
theorem Jb {n:Nat} (h:P*(T+1)≤n):toP P T n=n:=if_neg (by omega)
theorem lL {U U':Nat→Nat→Bool} (h:∀ p,p<P→∀ t,t≤T→U p t=U' p t) (H:Tight U P T xs):Tight U' P T xs:=fun p hp=>
  ⟨fun he t ht=>by rw [←h p hp t ht];exact (H p hp).1 he t ht,fun he t ht h1=>by rw [←h p hp (t+1) (by omega)];exact (H p hp).2 he t ht (by rw [h p hp t (by omega)];exact h1)⟩
theorem pP {U U':Nat→Nat→Bool} (h:∀ p,p<P→∀ t,t≤T→U p t=U' p t):begC U pe P=begC U' pe P:=dO fun p hp=>by rw [h p hp 0 (by omega)]
theorem lC {U U':Nat→Nat→Bool} (V:StV P ps xs) (h:∀ p,p<P→∀ t,t≤T→U p t=U' p t):headC U T xs out ps=headC U' T xs out ps:=dO fun t ht=>dO fun i hi=>by
  have hp:=bS.1 (V.pas i hi)
  have key:∀ k,pC U T xs out (ps.getD i Psg.zero) t k=pC U' T xs out (ps.getD i Psg.zero) t k:=fun k=>by
    have e:∀ k,(endI (ps.getD i Psg.zero) k).toNat<P:=fun k=>by unfold endI;split <;> omega
    unfold pC
    split
    · rename_i h0
      unfold hC
      by_cases h1:(t:Int)+goneI out (ps.getD i Psg.zero) (endI (ps.getD i Psg.zero) k)≤T
      · rw [h _ (e k) t (by omega),h _ (e (1-k)) _ (by omega)]
      · rw [if_neg (fun h=>h1 h.1),if_neg (fun h=>h1 h.1)]
    · rfl
  rw [key 0,key 1]
end
def layR (P T:Nat) (pe xs:List Int) (out:Int) (ps:List Psg):Net:=(joins (jrAll P T pe xs out ps)).net (P*(T+1)+2)
def roomR (P T:Nat) (pe xs:List Int) (out:Int) (ps:List Psg):RM:=(joins (jrAll P T pe xs out ps)).room
structure LayR (P T:Nat) (pe xs:List Int) (out:Int) (ps:List Psg):Prop where
  ne:∀ j ∈ jrAll P T pe xs out ps,j.f≠j.t
  wf:(layR P T pe xs out ps).Wf
  ok:Ok (layR P T pe xs out ps) (roomR P T pe xs out ps) 1073741824
  cap:∀ S,resid (layR P T pe xs out ps) (roomR P T pe xs out ps) S=capJ S (jrAll P T pe xs out ps)
section
variable {P T:Nat} {pe xs:List Int} {out:Int} {ps:List Psg} {S:Nat→Bool} {v v':Int} {r r':RM} {L L':Nat→Int}
theorem Jc (V:StV P ps xs) {i:Nat} (hi:i<ps.length) (k:Nat):goneI out (ps.getD i Psg.zero) (endI (ps.getD i Psg.zero) k) = -1∨(1≤goneI out (ps.getD i Psg.zero) (endI (ps.getD i Psg.zero) k)∧goneI out (ps.getD i Psg.zero) (endI (ps.getD i Psg.zero) k)≤20):=by
  have hp:=bS.1 (V.pas i hi)
  unfold goneI
  split
  · exact .inl rfl
  · split
    · rename_i h;exact .inr (by omega)
    · split
      · exact .inl rfl
      · exact .inr (by omega)
def JR (P T:Nat) (j:Jn):Prop:=j.f≠j.t∧j.f<P*(T+1)+2∧j.t<P*(T+1)+2∧0≤j.room∧j.room≤1073741824
theorem Rl (V:StV P ps xs) (hpe:∀ k,k<pe.length→0≤pe.getD k 0∧pe.getD k 0≤1000):∀ j ∈ jrAll P T pe xs out ps,JR P T j:=by
  have hpe':∀ p,0≤pe.getD p 0∧pe.getD p 0≤1000:=fun p=>by
    by_cases h:p<pe.length
    · exact hpe p h
    · rw [List.getD_eq_getElem?_getD,List.getElem?_eq_none (by omega)];simp
  have tick:∀ p,p<P→∀ t,t≤T→∀ j ∈ fM P T xs p t,JR P T j:=by
    intro p hp t ht j hj
    have h1:=jA (P:=P) hp ht
    unfold fM at hj
    split at hj
    · rw [List.mem_singleton.1 hj]
      refine ⟨?_,?_,?_,?_,?_⟩ <;> dsimp only <;> first|omega|(unfold farI;omega)
    · split at hj
      · rename_i hlt
        have h2:=jA (P:=P) (T:=T) (t:=t+1) hp (by omega)
        rw [List.mem_singleton.1 hj]
        refine ⟨Ax (by omega) (by omega) (by omega),?_,?_,?_,?_⟩ <;> dsimp only <;> first|omega|(unfold farI;omega)
      · cases hj
  have ticks:∀ p,p<P→∀ n,n≤T+1→∀ j ∈ cN P T xs p n,JR P T j:=by
    intro p hp n
    induction n with
    | zero=>intro _ j hj;cases hj
    | succ n ih=>
      intro hn j hj
      rcases List.mem_append.1 hj with hj|hj
      · exact ih (by omega) j hj
      · exact tick p hp n (by omega) j hj
  have places:∀ n,n≤P→∀ j ∈ aV P T pe xs n,JR P T j:=by
    intro n
    induction n with
    | zero=>intro _ j hj;cases hj
    | succ n ih=>
      intro hn j hj
      rcases List.mem_append.1 hj with hj|hj
      · exact ih (by omega) j hj
      · rcases List.mem_cons.1 hj with rfl|hj
        · have h1:=jA (P:=P) (T:=T) (p:=n) (t:=0) (by omega) (by omega)
          have h2:=hpe' n
          refine ⟨?_,?_,?_,?_,?_⟩ <;> unfold jrBeg <;> dsimp only <;> omega
        · exact ticks n (by omega) _ (Nat.le_refl _) j hj
  have w8one:∀ i,i<ps.length→∀ t,t≤T→∀ k,∀ j ∈ jrOne T xs out (ps.getD i Psg.zero) i t k,JR P T j:=by
    intro i hi t ht k j hj
    have hp:=bS.1 (V.pas i hi)
    have e:∀ k,(endI (ps.getD i Psg.zero) k).toNat<P:=fun k=>by unfold endI;split <;> omega
    have hg:=Jc (out:=out) V hi k
    unfold jrOne at hj
    split at hj
    · rename_i h
      rw [List.mem_singleton.1 hj]
      have h1:=jA (T:=T) (e k) (t:=t) (by omega)
      have h2:=jA (T:=T) (e (1-k)) (t:=t+(goneI out (ps.getD i Psg.zero) (endI (ps.getD i Psg.zero) k)).toNat) (by omega)
      refine ⟨Ax (by omega) (by omega) (by omega),?_,?_,?_,?_⟩ <;> dsimp only <;> omega
    · cases hj
  have psgs:∀ t,t≤T→∀ n,n≤ps.length→∀ j ∈ dF T xs out ps t n,JR P T j:=by
    intro t ht n
    induction n with
    | zero=>intro _ j hj;cases hj
    | succ n ih=>
      intro hn j hj
      rcases List.mem_append.1 hj with hj|hj
      · exact ih (by omega) j hj
      · rcases List.mem_append.1 hj with hj|hj
        · exact w8one n (by omega) t ht 0 j hj
        · exact w8one n (by omega) t ht 1 j hj
  have heads:∀ n,n≤T+1→∀ j ∈ bM T xs out ps n,JR P T j:=by
    intro n
    induction n with
    | zero=>intro _ j hj;cases hj
    | succ n ih=>
      intro hn j hj
      rcases List.mem_append.1 hj with hj|hj
      · exact ih (by omega) j hj
      · exact psgs n (by omega) _ (Nat.le_refl _) j hj
  intro j hj
  rcases List.mem_append.1 hj with hj|hj
  · exact places P (Nat.le_refl _) j hj
  · exact heads _ (Nat.le_refl _) j hj
theorem Rm (V:StV P ps xs) (hpe:∀ k,k<pe.length→0≤pe.getD k 0∧pe.getD k 0≤1000):LayR P T pe xs out ps:=by
  have hj:=Rl (T:=T) (out:=out) V hpe
  obtain ⟨W,O,hr⟩:=yJ (k:=P*(T+1)+2) (B:=1073741824) (by omega) (jrAll P T pe xs out ps) hj
  exact ⟨fun j h=>(hj j h).1,W,O,hr⟩
def EndR (P T:Nat) (pe xs:List Int) (out:Int) (ps:List Psg) (v:Int) (r:RM) (L:Nat→Int):Prop:=EndN (layR P T pe xs out ps) (roomR P T pe xs out ps) (P*(T+1)) (P*(T+1)+1) v r L
theorem EndN.toP {hs:List Hd} (h:EndN (layN P T pe xs hs) (layT P T pe xs hs).room (P*(T+1)) (P*(T+1)+1) v r L):EndP P T pe xs hs v r L:=⟨h.fl,h.nn,h.lev,h.full⟩
theorem Ay {hs:List Hd} (O:LayOk P T pe xs hs):∃ v r L,EndP P T pe xs hs v r L:=by
  obtain ⟨v,r,L,h⟩:=aBi O.wf O.ok (b:=P*(T+1)) (x:=P*(T+1)+1) (by show _<P*(T+1)+2;omega) (by show _<P*(T+1)+2;omega) (by omega)
  exact ⟨v,r,L,h.toP⟩
theorem Jd (V:StV P ps xs) (ho:0≤out) (hpe:∀ k,k<pe.length→0≤pe.getD k 0∧pe.getD k 0≤1000) {S S':Nat→Bool} (hb:S (P*(T+1))=true) (hx:S (P*(T+1)+1)=false) (hb':S' (P*(T+1))=true) (hx':S' (P*(T+1)+1)=false)
    (h:∀ p,p<P→∀ t,t≤T→onR T S p t=onP P S' p t):(capJ S (jrAll P T pe xs out ps)=capJ S' (jAll P T pe xs (hds out xs ps)))∨(farI≤capJ S (jrAll P T pe xs out ps)∧farI≤capJ S' (jAll P T pe xs (hds out xs ps))):=by
  have hpe':∀ p,p<P→0≤pe.getD p 0:=fun p _=>by
    by_cases h:p<pe.length
    · exact (hpe p h).1
    · rw [List.getD_eq_getElem?_getD,List.getElem?_eq_none (by omega)];simp
  have hw:∀ i,i<ps.length→0≤(ps.getD i Psg.zero).wide:=fun i hi=>by have:=bS.1 (V.pas i hi);omega
  have hR:=aAj (out:=out) (xs:=xs) (T:=T) hpe' hw hb hx
  have hP:=Ri (out:=out) (T:=T) V ho hpe' hb' hx'
  by_cases ht:Tight (onR T S) P T xs
  · refine .inl ?_
    rw [hR.1 ht,hP.1 (lL h ht),pP h,lC V h]
  · exact .inr ⟨hR.2 ht,hP.2 fun h2=>ht (lL (fun p hp t htT=>(h p hp t htT).symm) h2)⟩
theorem Rn (V:StV P ps xs) (ho:0≤out) (hpe:∀ k,k<pe.length→0≤pe.getD k 0∧pe.getD k 0≤1000) (h:EndR P T pe xs out ps v r L) (h':EndP P T pe xs (hds out xs ps) v' r' L') :
    v=v'∧∀ p,p<P→∀ t,t≤T→bB L (ndR T p t)=bB L' (nd P t p):=by
  have OR:=Rm (T:=T) (out:=out) V hpe
  have OP:=pK (T:=T) (out:=out) V hpe
  have hv':v'≤10000:=by
    have h1:=EndP.bound OP h' (S:=fun v=>decide (v=P*(T+1))) (by simp) (by simp)
    have h2:=sG (P:=P) (T:=T) (xs:=xs) (pe:=pe) hpe (sC (out:=out) V)
    have:=V.size
    omega
  obtain ⟨a1,a2,a3⟩:=EndN.tight h
  obtain ⟨b1,b2,b3⟩:=h'.at_reach OP
  have a3':capJ (bB L) (jrAll P T pe xs out ps)=v:=by rw [←OR.cap];exact a3
  have c1:(fun n=>bB L' (toP P T n)) (P*(T+1))=true:=by show bB L' (toP P T (P*(T+1)))=true;rw [Jb (Nat.le_refl _)];exact b1
  have c2:(fun n=>bB L' (toP P T n)) (P*(T+1)+1)=false:=by show bB L' (toP P T (P*(T+1)+1))=false;rw [Jb (by omega)];exact b2
  have c3:capJ (fun n=>bB L' (toP P T n)) (jrAll P T pe xs out ps)=v':=by
    rcases Jd (T:=T) (pe:=pe) (S:=fun n=>bB L' (toP P T n)) V ho hpe c1 c2 b1 b2 (fun p hp t ht=>by show bB L' (toP P T (ndR T p t))=_;rw [Rk hp ht];rfl) with h1|h1
    · rw [h1,b3]
    · rw [b3] at h1;unfold farI at h1;omega
  have hle1:v≤v':=by
    have:=EndN.bound (S:=fun n=>bB L' (toP P T n)) OR.ok h c1 c2
    rw [OR.cap,c3] at this
    exact this
  have d1:(fun n=>bB L (toR P T n)) (P*(T+1))=true:=by show bB L (toR P T (P*(T+1)))=true;rw [Ja (Nat.le_refl _)];exact a1
  have d2:(fun n=>bB L (toR P T n)) (P*(T+1)+1)=false:=by show bB L (toR P T (P*(T+1)+1))=false;rw [Ja (by omega)];exact a2
  have d3:capJ (fun n=>bB L (toR P T n)) (jAll P T pe xs (hds out xs ps))=v:=by
    rcases Jd (T:=T) (pe:=pe) (S:=bB L) (S':=fun n=>bB L (toR P T n)) V ho hpe a1 a2 d1 d2 (fun p hp t ht=>by show _=bB L (toR P T (nd P t p));rw [Rj hp ht];rfl) with h1|h1
    · rw [←h1,a3']
    · rw [a3'] at h1;unfold farI at h1;omega
  have hle2:v'≤v:=by
    have:=EndP.bound (S:=fun n=>bB L (toR P T n)) OP h' d1 d2
    rw [d3] at this
    exact this
  have e:v=v':=Int.le_antisymm hle1 hle2
  refine ⟨e,fun p hp t ht=>?_⟩
  have g1:=EndN.inside (S:=fun n=>bB L' (toP P T n)) h c1 c2 (by rw [OR.cap,c3,e]) (ndR T p t) (by have:=jA (T:=T) hp ht;show _<P*(T+1)+2;omega)
  have g2:=EndP.inside (S:=fun n=>bB L (toR P T n)) OP h' d1 d2 (by rw [d3,e]) (nd P t p) (by have:=lU (P:=P) (T:=T) ht hp;omega)
  have g1':0≤L (ndR T p t)→bB L' (nd P t p)=true:=fun h0=>by have:=g1 h0;rwa [Rk hp ht] at this
  have g2':0≤L' (nd P t p)→bB L (ndR T p t)=true:=fun h0=>by have:=g2 h0;rwa [Rj hp ht] at this
  unfold bB at g1' g2' ⊢
  exact decide_eq_decide.2 ⟨fun h=>of_decide_eq_true (g1' h),fun h=>of_decide_eq_true (g2' h)⟩
theorem aEk (V:StV P ps xs) (ho:0≤out) (hpe:∀ k,k<pe.length→0≤pe.getD k 0∧pe.getD k 0≤1000) (h:EndR P T pe xs out ps v r L):mfv P T pe xs (hds out xs ps)=v:=by
  have OP:=pK (T:=T) (out:=out) V hpe
  obtain ⟨v',r',L',h'⟩:=Ay OP
  rw [Al OP h',(Rn V ho hpe h h').1]
end
theorem Wx (m:Nat):m ^^^ 1=tw m:=by
  apply Nat.eq_of_testBit_eq
  intro i
  rw [Nat.testBit_xor]
  cases i with
  | zero=>
    rw [Nat.testBit_zero,Nat.testBit_zero,Nat.testBit_zero]
    unfold tw
    by_cases h:m%2=0
    · rw [if_pos h,decide_eq_false (p:=m%2=1) (by omega),decide_eq_true (p:=(m+1)%2=1) (by omega)];rfl
    · rw [if_neg h,decide_eq_true (p:=m%2=1) (by omega),decide_eq_false (p:=(m-1)%2=1) (by omega)];rfl
  | succ i=>
    rw [Nat.testBit_succ,Nat.testBit_succ,Nat.testBit_succ,show 1/2=0 from rfl,Nat.zero_testBit,Bool.xor_false]
    have e:tw m/2=m/2:=by unfold tw;split <;> omega
    rw [e]
theorem Wy {m:Nat} (hm:m<1000000000):IntKind.i64.wrap ((BitVec.ofInt 64 (m:Int) ^^^ BitVec.ofInt 64 1).toNat:Int)=((tw m:Nat):Int):=by
  have e:((BitVec.ofInt 64 (m:Int) ^^^ BitVec.ofInt 64 1).toNat)=tw m:=by
    rw [BitVec.toNat_xor,show (BitVec.ofInt 64 1).toNat=1 from rfl,BitVec.ofInt_natCast,BitVec.toNat_ofNat,Nat.mod_eq_of_lt (by omega),Wx]
  rw [e]
  refine i64ok.eq ⟨by omega,?_⟩
  unfold tw;split <;> omega
theorem Lu {P:Program} {L:List (Nat×Value)} {w:World} {d:Option Nat} {ty:TypeId} {pos:String} {af:Array Edge} {g:Option (Nat×Bool)} {x y:Operand} {xt yt:TypeId} {m:Nat} (hx:ev L x=some (.int .i64 (m:Int))) (hy:ev L y=some (.int .i64 1)) (hm:m<1000000000) :
    Does P L ⟨d,.binOp .xor xt x y yt,ty,pos,af,g⟩ w (.int .i64 ((tw m:Nat):Int)):=fun ρ hρ=>by
  have e:Op.intBits .xor .i64 (m:Int) 1=pure (.int .i64 ((tw m:Nat):Int)):=congrArg (fun z=>(pure (Value.int .i64 z):Sem Value)) (Wy hm)
  simp [execOp,hρ _ _ hx,hρ _ _ hy,eqGuard,binOp,e]
section
variable {N:Net} {E:List Eg} {r r2:Nat→Int} {b x:Nat} {L:Nat→Int} {by_:Nat→Nat} {m B:Int}
theorem pQ (K:Lk N E) (R:Rch N E r b L by_) (h0:L b=0) (hx:x<N.k):∀ i:Nat,(i:Int)≤L x→pth E by_ x i<N.k∧L (pth E by_ x i)=L x-i:=by
  intro i
  induction i with
  | zero=>intro h;exact ⟨hx,by show L x=L x-(0:Nat);omega⟩
  | succ i ih=>
    intro h
    obtain ⟨h1,h2⟩:=ih (by omega)
    obtain ⟨j,g1,g2,g3,g4,g5,g6,_⟩:=R.prv K h1 (by omega) (fun e=>by rw [e,h0] at h2;omega)
    exact ⟨g1,by show L (prv E by_ (pth E by_ x i))=_;omega⟩
theorem Gt (K:Lk N E) (R:Rch N E r b L by_) (h0:L b=0) (hx:x<N.k) {i:Nat} (hi:(i:Int)<L x):pth E by_ x i≠b:=fun e=>by
  have:=(pQ K R h0 hx i (by omega)).2
  rw [e,h0] at this
  omega
theorem Az (K:Lk N E) (R:Rch N E r b L by_) (h0:L b=0) (hx:x<N.k) {i:Nat} (hi:(i:Int)=L x):pth E by_ x i=b:=by
  obtain ⟨h1,h2⟩:=pQ K R h0 hx i (by omega)
  refine Classical.byContradiction fun hne=>?_
  obtain ⟨j,g1,g2,g3,g4,g5,g6,_⟩:=R.prv K h1 (by omega) hne
  omega
theorem mA (K:Lk N E) (R:Rch N E r b L by_) (h0:L b=0) (hx:x<N.k) {i:Nat} (hi:(i:Int)<L x) :
    ∃ j,pth E by_ x (i+1)<N.k∧j<N.n (pth E by_ x (i+1))∧0<r (by_ (pth E by_ x i))∧N.to (pth E by_ x (i+1)) j=pth E by_ x i∧by_ (pth E by_ x i)=(ixs E (pth E by_ x (i+1))).getD j 0∧by_ (pth E by_ x i)<E.length∧(E.getD (by_ (pth E by_ x i)) Eg.zero).t=pth E by_ x i:=by
  obtain ⟨h1,h2⟩:=pQ K R h0 hx i (by omega)
  obtain ⟨j,g1,g2,g3,g4,g5,g6,g7,g8,g9⟩:=R.prv K h1 (by omega) (Gt K R h0 hx hi)
  exact ⟨j,g1,g2,g4,g5,g7,g8,g9⟩
theorem Ro (K:Lk N E) (W:N.Wf) (R:Rch N E r b L by_) (h0:L b=0) (hx:x<N.k) {i:Nat} (hi:(i:Int)<L x) {r0:RM} (hF:Fl N r0 (rmE E r2) (pth E by_ x i) x m) (hm0:0≤m) (hm:m≤r2 (by_ (pth E by_ x i))) :
    Fl N r0 (rmE E (pushE r2 (by_ (pth E by_ x i)) m)) (pth E by_ x (i+1)) x m:=by
  obtain ⟨j,g1,g2,g3,g4,g5,g6,g7⟩:=mA K R h0 hx hi
  have h1:Fl N r0 (along N (rmE E r2) (pth E by_ x (i+1)) j m) (pth E by_ x (i+1)) x m:=Fl.step W g1 g2 (by rw [g4];exact hF) hm0 (by show m≤r2 _;rw [←g5];exact hm)
  refine h1.congr W ?_
  rw [g5]
  exact K.push W g1 g2
theorem Lv (K:Lk N E) (R:Rch N E r b L by_) (h0:L b=0) (hx:x<N.k) {i:Nat} (hi:(i:Int)<L x) (hm0:0≤m) (hn:0≤r2 (tw (by_ (pth E by_ x i)))) (h:∀ q:Nat,i≤q→(q:Int)<L x→m≤r2 (by_ (pth E by_ x q))) :
    ∀ q:Nat,i+1≤q→(q:Int)<L x→m≤pushE r2 (by_ (pth E by_ x i)) m (by_ (pth E by_ x q)):=fun q hq hqL=>by
  obtain ⟨_,_,_,_,_,_,_,t1⟩:=mA K R h0 hx hi
  obtain ⟨_,_,_,_,_,_,_,t2⟩:=mA K R h0 hx hqL
  have hne:by_ (pth E by_ x q)≠by_ (pth E by_ x i):=fun e=>by
    have e2:pth E by_ x q=pth E by_ x i:=by rw [←t1,←t2,e]
    have h1:=(pQ K R h0 hx i (by omega)).2
    have h2:=(pQ K R h0 hx q (by omega)).2
    rw [e2] at h2
    omega
  have h3:=h q (by omega) hqL
  by_cases e:by_ (pth E by_ x q)=tw (by_ (pth E by_ x i))
  · rw [e,Dk];omega
  · rw [Dl hne e];exact h3
theorem Wz (K:Lk N E) (W:N.Wf) (R:Rch N E r b L by_) (h0:L b=0) (hx:x<N.k) (O:Ok N (rmE E r2) B) {i:Nat} (hi:(i:Int)<L x) :
    (0≤r2 (by_ (pth E by_ x i))∧r2 (by_ (pth E by_ x i))≤B)∧(0≤r2 (tw (by_ (pth E by_ x i)))∧r2 (tw (by_ (pth E by_ x i)))≤B)∧tw (by_ (pth E by_ x i))<E.length:=by
  obtain ⟨j,g1,g2,g3,g4,g5,g6,g7⟩:=mA K R h0 hx hi
  have a1:=O.nn _ g1 _ g2
  have a2:=O.le W g1 g2
  have a3:=O.nn _ (W.to_lt _ g1 _ g2) _ (W.bk_lt _ g1 _ g2)
  have a4:=O.le W (W.to_lt _ g1 _ g2) (W.bk_lt _ g1 _ g2)
  unfold rmE at a1 a2 a3 a4
  rw [K.tw _ g1 _ g2,←g5] at a3 a4
  rw [←g5] at a1 a2
  exact ⟨⟨a1,a2⟩,⟨a3,a4⟩,aEj g6 K.evn⟩
end
theorem Je {E:List Eg} {r:Nat→Int} {e:Nat} {v:Int}:∀ k j,j<5→cput (egc E r) e 2 (.int .i64 v) k j=egc E (upd r e v) k j:=by
  intro k j hj
  unfold cput
  by_cases h:k=e
  · subst h
    match j,hj with
    | 0,_=>rw [if_neg (by omega)];rfl
    | 1,_=>rw [if_neg (by omega)];rfl
    | 2,_=>rw [if_pos ⟨rfl,rfl⟩];show _=Value.int .i64 (upd r k v k);rw [bN]
    | 3,_=>rw [if_neg (by omega)];rfl
    | 4,_=>rw [if_neg (by omega)];rfl
  · rw [if_neg (fun h2=>h h2.1)]
    match j,hj with
    | 0,_=>rfl
    | 1,_=>rfl
    | 2,_=>unfold egc;rw [bK _ _ h]
    | 3,_=>rfl
    | 4,_=>rfl
section
variable {P T:Nat} {pe xs:List Int} {out:Int} {ps:List Psg}
theorem aEl {f:Nat→Int} {c:Int}:∀ {n:Nat},(∀ i,i<n→f i≤c)→sm f n≤c*n:=by
  intro n
  induction n with
  | zero=>intro _;simp [sm]
  | succ n ih=>
    intro h
    have h1:=ih fun i hi=>h i (by omega)
    have h2:=h n (by omega)
    rw [sm,Int.natCast_succ,Int.mul_add]
    omega
theorem aEm (V:StV P ps xs) (hpe:∀ k,k<pe.length→0≤pe.getD k 0∧pe.getD k 0≤1000):resid (layR P T pe xs out ps) (roomR P T pe xs out ps) (fun v=>decide (v=P*(T+1)))≤10000:=by
  have O:=Rm (T:=T) (out:=out) V hpe
  have hpe':∀ p,0≤pe.getD p 0∧pe.getD p 0≤1000:=fun p=>by
    by_cases h:p<pe.length
    · exact hpe p h
    · rw [List.getD_eq_getElem?_getD,List.getElem?_eq_none (by omega)];simp
  have hw:∀ i,i<ps.length→0≤(ps.getD i Psg.zero).wide:=fun i hi=>by have:=bS.1 (V.pas i hi);omega
  have hU:∀ p,p<P→∀ t,t≤T→onR T (fun v=>decide (v=P*(T+1))) p t=false:=fun p hp t ht=>decide_eq_false (by have:=jA (T:=T) hp ht;omega)
  have hT:Tight (onR T (fun v=>decide (v=P*(T+1)))) P T xs:=fun p hp=>⟨fun _ t ht=>hU p hp t ht,fun _ t ht h1=>by rw [hU p hp t (by omega)] at h1;cases h1⟩
  rw [O.cap,(aAj (S:=fun v=>decide (v=P*(T+1))) (out:=out) (fun p _=>(hpe' p).1) hw (by simp) (by simp)).1 hT]
  have hz:headC (onR T (fun v=>decide (v=P*(T+1)))) T xs out ps=headC (fun _ _=>false) T xs out ps:=lC V hU
  have hz2:headC (fun _ _=>false) T xs out ps=0:=eM fun t _=>eM fun i _=>by
    have key:∀ k,pC (fun _ _=>false) T xs out (ps.getD i Psg.zero) t k=0:=fun k=>by
      unfold pC hC
      split
      · exact if_neg (fun h=>by cases h.2.1)
      · rfl
    rw [key 0,key 1];rfl
  rw [hz,hz2]
  have hb:begC (onR T (fun v=>decide (v=P*(T+1)))) pe P≤1000*P:=aEl fun p _=>by have:=hpe' p;split <;> omega
  have:=V.size
  omega
end
theorem tH {P T:Nat} {xs:List Int} {p:Nat}:∀ n,(cN P T xs p n).length≤n:=by
  intro n
  induction n with
  | zero=>exact Nat.le_refl 0
  | succ n ih=>
    rw [cN,List.length_append]
    have:(fM P T xs p n).length≤1:=by
      unfold fM
      split
      · simp
      · split <;> simp
    omega
theorem mW {P T:Nat} {pe xs:List Int}:∀ n,(aV P T pe xs n).length≤n*(T+2):=by
  intro n
  induction n with
  | zero=>simp [aV]
  | succ n ih=>
    have h1:=tH (P:=P) (T:=T) (xs:=xs) (p:=n) (T+1)
    rw [aV,List.length_append,List.length_cons,Nat.add_mul]
    omega
theorem sK {T:Nat} {xs:List Int} {out:Int} {p:Psg} {i t k:Nat}:(jrOne T xs out p i t k).length≤1:=by unfold jrOne;split <;> simp
theorem wU {T:Nat} {xs:List Int} {out:Int} {ps:List Psg} {t:Nat}:∀ n,(dF T xs out ps t n).length≤2*n:=by
  intro n
  induction n with
  | zero=>exact Nat.le_refl 0
  | succ n ih=>
    rw [dF,List.length_append,List.length_append]
    have h1:=sK (T:=T) (xs:=xs) (out:=out) (p:=ps.getD n Psg.zero) (i:=n) (t:=t) (k:=0)
    have h2:=sK (T:=T) (xs:=xs) (out:=out) (p:=ps.getD n Psg.zero) (i:=n) (t:=t) (k:=1)
    omega
theorem tI {T:Nat} {xs:List Int} {out:Int} {ps:List Psg} (h:ps.length≤24):∀ n,(bM T xs out ps n).length≤48*n:=by
  intro n
  induction n with
  | zero=>exact Nat.le_refl 0
  | succ n ih=>
    rw [bM,List.length_append]
    have h1:=wU (T:=T) (xs:=xs) (out:=out) (ps:=ps) (t:=n) ps.length
    omega
theorem Ba {J:List Jn} {i:Nat}:(ixs (egs J) i).length≤2*J.length:=by
  unfold ixs
  refine Nat.le_trans (List.length_filter_le ..) ?_
  rw [List.length_range,hY]
  exact Nat.le_refl _
def barAt (T:Int) (xs bl:List Int) (k:Nat):Bool:=decide (0≤bl.getD k 0∧bl.getD k 0≤T+1)&&(!hasI xs k||decide (bl.getD k 0=T+1))
def barOk (P T:Int) (xs bl:List Int):Bool:=decide ((bl.length:Int)=P)&&allN (barAt T xs bl) bl.length
def barU (bl:List Int) (p t:Nat):Bool:=decide (bl.getD p 0≤(t:Int))
def bndV (P T:Nat) (ps:List Psg) (xs:List Int) (out:Int) (pe bl:List Int):Int:=begC (barU bl) pe P+headC (barU bl) T xs out ps
section
variable {P T:Nat} {ps:List Psg} {xs:List Int} {out:Int} {pe bl:List Int} {k:Nat}
theorem Xa {P T:Int} (hl:(bl.length:Int)=P) (h:allN (barAt T xs bl) bl.length=true):barOk P T xs bl=true:=by unfold barOk;rw [decide_eq_true hl,h];rfl
theorem Xb {T:Int} (h:(0≤bl.getD k 0∧bl.getD k 0≤T+1)∧(hasI xs k=true→bl.getD k 0=T+1)):barAt T xs bl k=true:=by
  unfold barAt
  rw [decide_eq_true h.1]
  cases hx:hasI xs k with
  | false=>rfl
  | true=>rw [decide_eq_true (h.2 hx)];rfl
theorem Do {P T:Int} (h:barOk P T xs bl=true):(bl.length:Int)=P∧∀ k,k<bl.length→(0≤bl.getD k 0∧bl.getD k 0≤T+1)∧(hasI xs k=true→bl.getD k 0=T+1):=by
  unfold barOk at h
  simp only [Bool.and_eq_true,decide_eq_true_eq] at h
  refine ⟨h.1,fun k hk=>?_⟩
  have h2:=bQ.1 h.2 k hk
  unfold barAt at h2
  simp only [Bool.and_eq_true,decide_eq_true_eq,Bool.or_eq_true,Bool.not_eq_true'] at h2
  exact ⟨h2.1,fun hx=>h2.2.resolve_left (by rw [hx];simp)⟩
theorem aBn (V:StV P ps xs) (hb:∀ p,p<P→hasI xs p=true→bl.getD p 0=(T:Int)+1) {i:Nat} (hi:i<ps.length) {t k:Nat} (ht:t≤T):pC (barU bl) T xs out (ps.getD i Psg.zero) t k =
    if ((0≤goneI out (ps.getD i Psg.zero) (endI (ps.getD i Psg.zero) k)∧bl.getD (endI (ps.getD i Psg.zero) k).toNat 0≤(t:Int))∧(t:Int)+goneI out (ps.getD i Psg.zero) (endI (ps.getD i Psg.zero) k)≤T)∧(t:Int)+goneI out (ps.getD i Psg.zero) (endI (ps.getD i Psg.zero) k)<bl.getD (endI (ps.getD i Psg.zero) (1-k)).toNat 0 then (ps.getD i Psg.zero).wide else 0:=by
  have hp:=bS.1 (V.pas i hi)
  have e:0≤endI (ps.getD i Psg.zero) k∧endI (ps.getD i Psg.zero) k<P:=by unfold endI;split <;> omega
  unfold pC hC barU
  by_cases h1:((0≤goneI out (ps.getD i Psg.zero) (endI (ps.getD i Psg.zero) k)∧bl.getD (endI (ps.getD i Psg.zero) k).toNat 0≤(t:Int))∧(t:Int)+goneI out (ps.getD i Psg.zero) (endI (ps.getD i Psg.zero) k)≤T)∧(t:Int)+goneI out (ps.getD i Psg.zero) (endI (ps.getD i Psg.zero) k)<bl.getD (endI (ps.getD i Psg.zero) (1-k)).toNat 0
  · have hx:hasI xs (endI (ps.getD i Psg.zero) k)=false:=by
      cases hx:hasI xs (endI (ps.getD i Psg.zero) k) with
      | false=>rfl
      | true=>
        have:=hb (endI (ps.getD i Psg.zero) k).toNat (by omega) (by rw [Int.toNat_of_nonneg e.1];exact hx)
        omega
    rw [if_pos h1,if_pos ⟨h1.1.1.1,hx⟩,if_pos ⟨h1.1.2,decide_eq_true h1.1.1.2,decide_eq_false (by have:=h1.2;push_cast;omega)⟩]
  · rw [if_neg h1]
    split
    · rename_i h2
      rw [if_neg]
      rintro ⟨h3,h4,h5⟩
      have h4:=of_decide_eq_true h4
      have h5:=of_decide_eq_false h5
      apply h1
      push_cast at h5
      exact ⟨⟨⟨h2.1,h4⟩,h3⟩,by omega⟩
    · rfl
end
section
variable {P T:Nat} {ps:List Psg} {xs:List Int} {out:Int} {pe pe' bl:List Int}
def PeOk (pe:List Int):Prop:=∀ k,k<pe.length→0≤pe.getD k 0∧pe.getD k 0≤1000
def cutC (U:Nat→Nat→Bool) (P T:Nat) (ps:List Psg) (xs:List Int) (out:Int) (pe:List Int):Int:=begC U pe P+headC U T xs out ps
def setP (P T:Nat) (U:Nat→Nat→Bool) (n:Nat):Bool:=if n<P*(T+1) then U (n%P) (n/P) else decide (n=P*(T+1))
theorem Bb {U:Nat→Nat→Bool} {p t:Nat} (hp:p<P) (ht:t≤T):onP P (setP P T U) p t=U p t:=by
  unfold onP setP
  rw [if_pos (lU ht hp)]
  have h1:nd P t p%P=p:=by unfold nd;rw [Nat.mul_add_mod,Nat.mod_eq_of_lt hp]
  have h2:nd P t p/P=t:=by unfold nd;rw [Nat.mul_add_div (by omega),Nat.div_eq_of_lt hp];rfl
  rw [h1,h2]
theorem aBo (V:StV P ps xs) (ho:0≤out) (hpe:PeOk pe) {U:Nat→Nat→Bool} (hU:Tight U P T xs):mfv P T pe xs (hds out xs ps)≤cutC U P T ps xs out pe:=by
  have OP:=pK (T:=T) (out:=out) V hpe
  obtain ⟨v,r,L,h⟩:=Ay OP
  rw [Al OP h]
  have hb:setP P T U (P*(T+1))=true:=by unfold setP;rw [if_neg (by omega)];simp
  have hx:setP P T U (P*(T+1)+1)=false:=by unfold setP;rw [if_neg (by omega)];simp
  have hpe':∀ p,p<P→0≤pe.getD p 0:=fun p _=>by
    by_cases h:p<pe.length
    · exact (hpe p h).1
    · rw [List.getD_eq_getElem?_getD,List.getElem?_eq_none (by omega)];simp
  have hc:=(Ri (T:=T) V ho hpe' hb hx).1 (lL (fun p hp t ht=>(Bb hp ht).symm) hU)
  have hle:=EndP.bound OP h hb hx
  rw [hc,pP (fun p hp t ht=>Bb hp ht),lC V (fun p hp t ht=>Bb hp ht)] at hle
  exact hle
theorem Rp (V:StV P ps xs) (ho:0≤out) (hpe:PeOk pe) {v:Int} {r:RM} {L:Nat→Int} (h:EndP P T pe xs (hds out xs ps) v r L):Tight (onP P (bB L)) P T xs∧v=cutC (onP P (bB L)) P T ps xs out pe:=by
  have OP:=pK (T:=T) (out:=out) V hpe
  obtain ⟨b1,b2,b3⟩:=h.at_reach OP
  have hpe':∀ p,p<P→0≤pe.getD p 0:=fun p _=>by
    by_cases h:p<pe.length
    · exact (hpe p h).1
    · rw [List.getD_eq_getElem?_getD,List.getElem?_eq_none (by omega)];simp
  have hc:=Ri (T:=T) V ho hpe' b1 b2
  have hv':v≤10000:=by
    have h1:=EndP.bound OP h (S:=fun v=>decide (v=P*(T+1))) (by simp) (by simp)
    have h2:=sG (P:=P) (T:=T) (xs:=xs) (pe:=pe) hpe (sC (out:=out) V)
    have:=V.size
    omega
  have ht:Tight (onP P (bB L)) P T xs:=by
    refine Classical.byContradiction fun hn=>?_
    have:=hc.2 hn
    rw [b3] at this
    unfold farI at this
    omega
  exact ⟨ht,by rw [←b3];exact hc.1 ht⟩
theorem aEn (V:StV P ps xs) {U:Nat→Nat→Bool} {i:Nat} (hi:i<ps.length) {t k:Nat}:0≤pC U T xs out (ps.getD i Psg.zero) t k:=by
  have:=bS.1 (V.pas i hi)
  unfold pC hC
  split
  · split <;> omega
  · omega
theorem Jf (V:StV P ps xs) (ho:0≤out) (hpe:PeOk pe):mfv P T pe xs (hds out xs ps)≤sumI pe P:=by
  have h:=aBo (T:=T) (U:=fun _ _=>false) V ho hpe (fun p _=>⟨fun _ _ _=>rfl,fun _ _ _ h=>by cases h⟩)
  have hz:headC (fun _ _=>false) T xs out ps=0:=eM fun t _=>eM fun i _=>by
    have key:∀ k,pC (fun _ _=>false) T xs out (ps.getD i Psg.zero) t k=0:=fun k=>by
      unfold pC hC
      split
      · exact if_neg (fun h=>by cases h.2.1)
      · rfl
    rw [key 0,key 1];rfl
  unfold cutC at h
  rw [hz] at h
  have e:begC (fun _ _=>false) pe P=sumI pe P:=dO fun p _=>by simp
  omega
noncomputable def cutL (P T:Nat) (pe xs:List Int) (hs:List Hd):List Int:=(List.range P).map fun p=>((mfc P T pe xs hs p:Nat):Int)
theorem Dp {hs:List Hd}:(cutL P T pe xs hs).length=P:=by unfold cutL;rw [List.length_map,List.length_range]
theorem uF {hs:List Hd} {p:Nat} (hp:p<P):(cutL P T pe xs hs).getD p 0=((mfc P T pe xs hs p:Nat):Int):=by
  unfold cutL
  rw [List.getD_eq_getElem?_getD,List.getElem?_map,List.getElem?_range hp];rfl
theorem Rq {f:Nat→Bool} {q:Nat} (hf:f q=true):∀ {n},q<n→fstB f n<n:=by
  intro n
  induction n with
  | zero=>intro h;omega
  | succ n ih=>
    intro h
    rw [fstB]
    by_cases h1:fstB f n<n
    · rw [if_pos h1];omega
    · rw [if_neg h1]
      by_cases e:q=n
      · subst e;rw [if_pos hf];omega
      · exact absurd (ih (by omega)) h1
theorem Xc {f:Nat→Bool}:∀ {n},fstB f n<n→f (fstB f n)=true∧∀ q,q<fstB f n→f q=false:=by
  intro n
  induction n with
  | zero=>intro h;omega
  | succ n ih=>
    intro h
    by_cases h1:fstB f n<n
    · have e:fstB f (n+1)=fstB f n:=by rw [fstB,if_pos h1]
      rw [e];exact ih h1
    · have hn:∀ q,q<n→f q=false:=fun q hq=>by
        cases hb:f q with
        | false=>rfl
        | true=>
          exfalso
          exact h1 (Rq hb hq)
      have e:fstB f n=n:=kM hn
      by_cases hf:f n=true
      · have e2:fstB f (n+1)=n:=by rw [fstB,if_neg (by omega),if_pos hf]
        rw [e2];exact ⟨hf,hn⟩
      · have e2:fstB f (n+1)=n+1:=by rw [fstB,if_neg (by omega),if_neg hf]
        omega
theorem Gu (V:StV P ps xs) (ho:0≤out) (hpe:PeOk pe) {v:Int} {r:RM} {L:Nat→Int} (h:EndP P T pe xs (hds out xs ps) v r L) {p t:Nat} (hp:p<P) (ht:t≤T):barU (cutL P T pe xs (hds out xs ps)) p t=onP P (bB L) p t:=by
  have OP:=pK (T:=T) (out:=out) V hpe
  have hT:=(Rp V ho hpe h).1 p hp
  unfold barU
  rw [uF hp,Pp OP h hp]
  unfold cutAt
  have hle:=Po (f:=fun t=>decide (0≤L (nd P t p))) (T+1)
  have hf:=Xc (f:=fun t=>decide (0≤L (nd P t p))) (n:=T+1)
  generalize hm:fstB (fun t=>decide (0≤L (nd P t p))) (T+1)=m at hle hf
  by_cases hx:hasI xs p=true
  · have h1:=hT.1 hx t ht
    rw [h1]
    refine decide_eq_false fun hle2=>?_
    have h2:=(hf (by omega)).1
    have h3:=hT.1 hx m (by omega)
    unfold onP bB at h3
    rw [h3] at h2;cases h2
  · have hx':hasI xs p=false:=by simpa using hx
    by_cases hmt:m≤t
    · have h2:=(hf (by omega)).1
      have up:∀ d,m+d≤T→onP P (bB L) p (m+d)=true:=by
        intro d
        induction d with
        | zero=>intro _;exact h2
        | succ d ih=>intro hd;exact hT.2 hx' (m+d) (by omega) (ih (by omega))
      have h3:=up (t-m) (by omega)
      rw [show m+(t-m)=t by omega] at h3
      rw [h3]
      exact decide_eq_true (by omega)
    · have h4:onP P (bB L) p t=false:=by
        by_cases hmT:m<T+1
        · exact (hf hmT).2 t (by omega)
        · cases hb:onP P (bB L) p t with
          | false=>rfl
          | true=>
            exfalso
            have:=Rq (f:=fun t=>decide (0≤L (nd P t p))) (q:=t) hb (show t<T+1 by omega)
            omega
      rw [h4]
      exact decide_eq_false (by omega)
theorem Xd (V:StV P ps xs) (ho:0≤out) (hpe:PeOk pe):barOk P T xs (cutL P T pe xs (hds out xs ps))=true∧bndV P T ps xs out pe (cutL P T pe xs (hds out xs ps))=mfv P T pe xs (hds out xs ps):=by
  have OP:=pK (T:=T) (out:=out) V hpe
  obtain ⟨v,r,L,h⟩:=Ay OP
  have hat:=Rp V ho hpe h
  refine ⟨Xa (by rw [Dp]) (bQ.2 fun k hk=>?_),?_⟩
  · rw [Dp] at hk
    have hm:mfc P T pe xs (hds out xs ps) k≤T+1:=by rw [Pp OP h hk];exact Po _
    refine Xb ⟨by rw [uF hk];omega,fun hx=>?_⟩
    rw [uF hk]
    refine Classical.byContradiction fun hne=>?_
    have h1:=Gu V ho hpe h hk (t:=mfc P T pe xs (hds out xs ps) k) (by omega)
    rw [(hat.1 k hk).1 hx _ (by omega)] at h1
    unfold barU at h1
    rw [uF hk] at h1
    have:=of_decide_eq_false h1
    omega
  · unfold bndV
    rw [pP (fun p hp t ht=>Gu V ho hpe h hp ht),lC V (fun p hp t ht=>Gu V ho hpe h hp ht),Al OP h]
    exact hat.2.symm
end
section
variable (ps:List Psg) (xs:List Int) (out:Int) (pe:List Int) (l:List Mv)
def mvP (m:Mv):Psg:=ps.getD m.pas.toNat Psg.zero
def mvG (m:Mv):Int:=goneI out (mvP ps m) m.fr
def mvO (m:Mv):Int:=othr (mvP ps m) m.fr
def mvIn (m:Mv):Prop:=(0≤m.pas∧m.pas<ps.length)∧(0≤m.at_∧m.at_≤60)∧(1≤m.many∧m.many≤1000)
instance (m:Mv):Decidable (mvIn ps m):=by unfold mvIn;exact inferInstance
def mvOk (m:Mv):Bool:=decide (mvIn ps m)&&(decide (0≤mvG ps out m)&&!hasI xs m.fr)
def sameK (m m':Mv):Bool:=decide (m.pas=m'.pas)&&decide (m.fr=m'.fr)&&decide (m.at_=m'.at_)
def totK (m:Mv):Nat→Int:=sm fun k=>if sameK (l.getD k Mv.zero) m=true then min (l.getD k Mv.zero).many 1000 else 0
def legT (m:Mv) (t:Int) (p:Nat):Int:=(if m.at_+mvG ps out m≤t∧mvO ps m=(p:Int) then m.many else 0)-(if m.at_≤t∧m.fr=(p:Int) then m.many else 0)
def thr (t:Int) (p n:Nat):Int:=pe.getD p 0+sm (fun k=>legT ps out (l.getD k Mv.zero) t p) n
def legB (k:Nat):Bool:=mvOk ps xs out (l.getD k Mv.zero)&&decide (totK l (l.getD k Mv.zero) l.length≤(mvP ps (l.getD k Mv.zero)).wide)
def thrB (P t:Nat):Bool:=allN (fun p=>decide (0≤thr ps out pe l t p l.length)) P
def planB (P:Nat):Bool:=allN (legB ps xs out l) l.length&&allN (thrB ps out pe l P) 61
def outA (m:Mv) (T:Int):Int:=if hasI xs (mvO ps m)=true∧m.at_+mvG ps out m≤T then m.many else 0
def exitN (P:Nat):Int:=sm (fun p=>if hasI xs p=true then pe.getD p 0 else 0) P
def outN (P T:Nat):Int:=exitN xs pe P+sm (fun k=>outA ps xs out (l.getD k Mv.zero) T) l.length
end
section
variable {P T:Nat} {ps:List Psg} {xs:List Int} {out:Int} {pe bl:List Int} {l:List Mv} {m:Mv}
theorem Lw:planB ps xs out pe l P=true↔(∀ k,k<l.length→mvOk ps xs out (l.getD k Mv.zero)=true∧totK l (l.getD k Mv.zero) l.length≤(mvP ps (l.getD k Mv.zero)).wide)∧∀ t:Nat,t≤60→∀ p,p<P→0≤thr ps out pe l t p l.length:=by
  unfold planB
  rw [Bool.and_eq_true,bQ,bQ]
  constructor
  · rintro ⟨h1,h2⟩
    refine ⟨fun k hk=>?_,fun t ht p hp=>?_⟩
    · have:=h1 k hk
      unfold legB at this
      simpa using this
    · have:=h2 t (by omega)
      unfold thrB at this
      exact of_decide_eq_true (bQ.1 this p hp)
  · rintro ⟨h1,h2⟩
    refine ⟨fun k hk=>?_,fun t ht=>?_⟩
    · unfold legB
      simpa using h1 k hk
    · unfold thrB
      exact bQ.2 fun p hp=>decide_eq_true (h2 t (by omega) p hp)
theorem nX:mvOk ps xs out m=true↔mvIn ps m∧0≤mvG ps out m∧hasI xs m.fr=false:=by
  unfold mvOk
  simp only [Bool.and_eq_true,decide_eq_true_eq,Bool.not_eq_true']
structure MvF (P:Nat) (ps:List Psg) (out:Int) (m:Mv) (i e:Nat):Prop where
  i_lt:i<ps.length
  pas:m.pas=(i:Int)
  e01:e=0∨e=1
  fr:m.fr=endI (ps.getD i Psg.zero) e
  to:mvO ps m=endI (ps.getD i Psg.zero) (1-e)
  g:1≤mvG ps out m∧mvG ps out m≤20
  frP:0≤m.fr∧m.fr<P
  toP:0≤mvO ps m∧mvO ps m<P
theorem wV (V:StV P ps xs) (h1:0≤m.pas∧m.pas<ps.length) (h2:0≤mvG ps out m):∃ i e,MvF P ps out m i e:=by
  obtain ⟨i,hi⟩:=Int.eq_ofNat_of_zero_le h1.1
  have hil:i<ps.length:=by omega
  have hp:=bS.1 (V.pas i hil)
  have hP:mvP ps m=ps.getD i Psg.zero:=by unfold mvP;rw [hi];rfl
  unfold mvG at h2
  rw [hP] at h2
  have hg:goneI out (ps.getD i Psg.zero) m.fr≤20∧1≤goneI out (ps.getD i Psg.zero) m.fr:=by
    unfold goneI at h2 ⊢
    split
    · rename_i h;rw [if_pos h] at h2;omega
    · rename_i h
      rw [if_neg h] at h2
      split
      · omega
      · rename_i h3
        rw [if_neg h3] at h2
        split
        · rename_i h4;rw [if_pos h4] at h2;omega
        · omega
  have ho:¬ othr (ps.getD i Psg.zero) m.fr<0:=fun h=>by unfold goneI at h2;rw [if_pos (.inl h)] at h2;omega
  by_cases ha:(ps.getD i Psg.zero).a=m.fr
  · refine ⟨i,0,hil,hi,.inl rfl,?_,?_,?_,by omega,?_⟩
    · unfold endI;rw [if_pos rfl];exact ha.symm
    · unfold mvO othr endI;rw [hP,if_pos ha,if_neg (by decide)]
    · unfold mvG;rw [hP];exact ⟨hg.2,hg.1⟩
    · unfold mvO othr;rw [hP,if_pos ha];omega
  · by_cases hb:(ps.getD i Psg.zero).b=m.fr
    · refine ⟨i,1,hil,hi,.inr rfl,?_,?_,?_,by omega,?_⟩
      · unfold endI;rw [if_neg (by decide)];exact hb.symm
      · unfold mvO othr endI;rw [hP,if_neg ha,if_pos hb,if_pos rfl]
      · unfold mvG;rw [hP];exact ⟨hg.2,hg.1⟩
      · unfold mvO othr;rw [hP,if_neg ha,if_pos hb];omega
    · exfalso;apply ho;unfold othr;rw [if_neg ha,if_neg hb];omega
def jB (ps:List Psg) (out:Int) (bl:List Int) (m:Mv):Int:=if bl.getD m.fr.toNat 0≤m.at_∧m.at_+mvG ps out m<bl.getD (mvO ps m).toNat 0 then m.many else 0
theorem Gv (V:StV P ps xs) (hb:barOk P T xs bl=true) (hl:∀ k,k<l.length→mvOk ps xs out (l.getD k Mv.zero)=true∧totK l (l.getD k Mv.zero) l.length≤(mvP ps (l.getD k Mv.zero)).wide) :
    sm (fun k=>jB ps out bl (l.getD k Mv.zero)) l.length≤headC (barU bl) T xs out ps:=by
  obtain ⟨hbl,hbk⟩:=Do hb
  let kt:Nat→Nat→Nat→Nat→Int:=fun k t i e=>if ((l.getD k Mv.zero).pas=(i:Int)∧(l.getD k Mv.zero).fr=endI (ps.getD i Psg.zero) e)∧(l.getD k Mv.zero).at_=(t:Int) then jB ps out bl (l.getD k Mv.zero) else 0
  have hc0:∀ k,k<l.length→0≤jB ps out bl (l.getD k Mv.zero):=fun k hk=>by
    have:=((nX.1 (hl k hk).1).1).2.2
    unfold jB;split <;> omega
  have hk0:∀ k,k<l.length→∀ t i e,0≤kt k t i e:=fun k hk t i e=>by
    show 0≤ite _ _ _
    split
    · exact hc0 k hk
    · omega
  have h1 : sm (fun k=>jB ps out bl (l.getD k Mv.zero)) l.length≤sm (fun k=>sm (fun t=>sm (fun i=>kt k t i 0+kt k t i 1) ps.length) (T+1)) l.length:=by
    refine vI fun k hk=>?_
    by_cases hz:jB ps out bl (l.getD k Mv.zero)=0
    · rw [hz]
      exact cZ fun t _=>cZ fun i _=>by have:=hk0 k hk t i 0;have:=hk0 k hk t i 1;omega
    · obtain ⟨⟨hpas,hat,hmany⟩,hg,hx⟩:=nX.1 (hl k hk).1
      obtain ⟨i,e,F⟩:=wV V hpas hg
      obtain ⟨t,ht⟩:=Int.eq_ofNat_of_zero_le hat.1
      have htT:t<T+1:=by
        unfold jB at hz
        by_cases hc:bl.getD (l.getD k Mv.zero).fr.toNat 0≤(l.getD k Mv.zero).at_∧(l.getD k Mv.zero).at_+mvG ps out (l.getD k Mv.zero)<bl.getD (mvO ps (l.getD k Mv.zero)).toNat 0
        · have h9:=hbk (mvO ps (l.getD k Mv.zero)).toNat (by have:=F.toP;omega)
          have:=F.g
          omega
        · rw [if_neg hc] at hz;exact absurd rfl hz
      have hke:kt k t i e=jB ps out bl (l.getD k Mv.zero):=if_pos ⟨⟨F.pas,F.fr⟩,ht⟩
      have h2:jB ps out bl (l.getD k Mv.zero)≤kt k t i 0+kt k t i 1:=by
        have h3:=hk0 k hk t i 0
        have h4:=hk0 k hk t i 1
        rcases F.e01 with rfl|rfl <;> omega
      have h5:=nG (f:=fun i=>kt k t i 0+kt k t i 1) (n:=ps.length) (p:=i) (fun i _=>by have:=hk0 k hk t i 0;have:=hk0 k hk t i 1;omega) F.i_lt
      have h6:=nG (f:=fun t=>sm (fun i=>kt k t i 0+kt k t i 1) ps.length) (n:=T+1) (p:=t) (fun t _=>cZ fun i _=>by have:=hk0 k hk t i 0;have:=hk0 k hk t i 1;omega) htT
      omega
  refine Int.le_trans h1 ?_
  rw [rE]
  unfold headC
  refine vI fun t ht=>?_
  rw [rE]
  refine vI fun i hi=>?_
  rw [rW]
  have key:∀ e,e=0∨e=1→sm (fun k=>kt k t i e) l.length≤pC (barU bl) T xs out (ps.getD i Psg.zero) t e:=by
    intro e he
    have hpn:=aEn (T:=T) (out:=out) (U:=barU bl) V hi (t:=t) (k:=e)
    by_cases hx:∃ k,k<l.length∧kt k t i e≠0
    · obtain ⟨k,hk,hne⟩:=hx
      have hkey:((l.getD k Mv.zero).pas=(i:Int)∧(l.getD k Mv.zero).fr=endI (ps.getD i Psg.zero) e)∧(l.getD k Mv.zero).at_=(t:Int):=by
        refine Classical.byContradiction fun hno=>hne ?_
        show ite _ _ _=_
        rw [if_neg hno]
      have hcr:bl.getD (l.getD k Mv.zero).fr.toNat 0≤(l.getD k Mv.zero).at_∧(l.getD k Mv.zero).at_+mvG ps out (l.getD k Mv.zero)<bl.getD (mvO ps (l.getD k Mv.zero)).toNat 0:=by
        refine Classical.byContradiction fun hno=>hne ?_
        show ite _ _ _=_
        rw [if_pos hkey]
        unfold jB
        rw [if_neg hno]
      obtain ⟨⟨hpas,hat,hmany⟩,hg,hxf⟩:=nX.1 (hl k hk).1
      obtain ⟨i',e',F⟩:=wV V hpas hg
      have hii:i'=i:=by have:=F.pas;have:=hkey.1.1;omega
      subst hii
      have hee:e'=e:=by
        have h7:=F.fr
        have h8:=hkey.1.2
        have hp:=bS.1 (V.pas i' hi)
        unfold endI at h7 h8
        rcases F.e01 with rfl|rfl <;> rcases he with rfl|rfl
        · rfl
        · exfalso;rw [if_pos rfl] at h7;rw [if_neg (by decide)] at h8;omega
        · exfalso;rw [if_neg (by decide)] at h7;rw [if_pos rfl] at h8;omega
        · rfl
      subst hee
      have hwide:sm (fun k=>kt k t i' e') l.length≤totK l (l.getD k Mv.zero) l.length:=by
        refine vI fun q hq=>?_
        have hq1:=((nX.1 (hl q hq).1).1).2.2
        show (ite _ _ _:Int)≤ite _ _ _
        by_cases hs:((l.getD q Mv.zero).pas=(i':Int)∧(l.getD q Mv.zero).fr=endI (ps.getD i' Psg.zero) e')∧(l.getD q Mv.zero).at_=(t:Int)
        · rw [if_pos hs,if_pos]
          · unfold jB;split <;> omega
          · unfold sameK
            rw [hkey.1.1,hkey.1.2,hkey.2,decide_eq_true hs.1.1,decide_eq_true hs.1.2,decide_eq_true hs.2];rfl
        · rw [if_neg hs];split <;> omega
      have hP:mvP ps (l.getD k Mv.zero)=ps.getD i' Psg.zero:=by unfold mvP;rw [F.pas];rfl
      have h9:=(hl k hk).2
      rw [hP] at h9
      refine Int.le_trans hwide (Int.le_trans h9 (Int.le_of_eq ?_))
      rw [aBn V (fun p hp hx=>(hbk p (by omega)).2 hx) hi (by omega),if_pos]
      have hG:mvG ps out (l.getD k Mv.zero)=goneI out (ps.getD i' Psg.zero) (endI (ps.getD i' Psg.zero) e'):=by unfold mvG;rw [hP,←F.fr]
      have h7:=hbk (mvO ps (l.getD k Mv.zero)).toNat (by have:=F.toP;omega)
      have hg1:=F.g
      rw [←hG,←F.fr,←F.to,←hkey.2]
      exact ⟨⟨⟨by omega,hcr.1⟩,by omega⟩,hcr.2⟩
    · rw [eM (fun k hk=>Classical.byContradiction fun hno=>hx ⟨k,hk,hno⟩)]
      exact hpn
  have h0:=key 0 (.inl rfl)
  have h1:=key 1 (.inr rfl)
  omega
theorem Rr (V:StV P ps xs) (hT:T≤60) (hl:planB ps xs out pe l P=true) (hb:barOk P T xs bl=true):outN ps xs out pe l P T≤bndV P T ps xs out pe bl:=by
  obtain ⟨hk,ht⟩:=Lw.1 hl
  obtain ⟨hbl,hbk⟩:=Do hb
  have hcross:=Gv (out:=out) V hb hk
  let A:Nat→Nat→Int:=fun p k=>if (l.getD k Mv.zero).at_+mvG ps out (l.getD k Mv.zero)<bl.getD p 0∧mvO ps (l.getD k Mv.zero)=(p:Int) then (l.getD k Mv.zero).many else 0
  let D:Nat→Nat→Int:=fun p k=>if (l.getD k Mv.zero).at_<bl.getD p 0∧(l.getD k Mv.zero).fr=(p:Int) then (l.getD k Mv.zero).many else 0
  let w:Nat→Int:=fun p=>(if barU bl p 0=false then pe.getD p 0 else 0)+sm (fun k=>A p k-D p k) l.length
  have hkf:∀ k,k<l.length→(0≤(l.getD k Mv.zero).at_∧1≤(l.getD k Mv.zero).many∧1≤mvG ps out (l.getD k Mv.zero))∧(0≤(l.getD k Mv.zero).fr∧(l.getD k Mv.zero).fr<P)∧(0≤mvO ps (l.getD k Mv.zero)∧mvO ps (l.getD k Mv.zero)<P)∧hasI xs (l.getD k Mv.zero).fr=false:=fun k hq=>by
    obtain ⟨⟨hpas,hat,hmany⟩,hg,hx⟩:=nX.1 (hk k hq).1
    obtain ⟨i,e,F⟩:=wV V hpas hg
    exact ⟨⟨hat.1,hmany.1,F.g.1⟩,F.frP,F.toP,hx⟩
  have hw:∀ p,p<P→w p=if 0<bl.getD p 0 then thr ps out pe l (bl.getD p 0-1) p l.length else 0:=fun p hp=>by
    show (if barU bl p 0=false then pe.getD p 0 else 0)+sm (fun k=>A p k-D p k) l.length=_
    by_cases h0:0<bl.getD p 0
    · rw [if_pos h0,if_pos (show barU bl p 0=false from decide_eq_false (by omega))]
      unfold thr
      congr 1
      refine dO fun k _=>?_
      show (ite _ _ _:Int)-ite _ _ _=ite _ _ _-ite _ _ _
      have e1:∀ z:Int,z<bl.getD p 0↔z≤bl.getD p 0-1:=fun z=>by omega
      simp only [e1]
    · rw [if_neg h0,if_neg (show ¬ barU bl p 0=false from fun h=>by have:=of_decide_eq_false h;omega),eM]
      · rfl
      · intro k hq
        have h1:=hkf k hq
        show (ite _ _ _:Int)-ite _ _ _=0
        rw [if_neg (fun h=>by have:=h.1;omega),if_neg (fun h=>by have:=h.1;omega)]
        rfl
  have hw0:∀ p,p<P→0≤w p:=fun p hp=>by
    rw [hw p hp]
    split
    · rename_i h0
      have h1:=(hbk p (by omega)).1
      have h2:=ht (bl.getD p 0-1).toNat (by omega) p hp
      rw [Int.toNat_of_nonneg (by omega)] at h2
      exact h2
    · exact Int.le_refl 0
  have hsum:sm w P=begC (barU bl) pe P+sm (fun k=>sm (fun p=>A p k) P-sm (fun p=>D p k) P) l.length:=by
    show sm (fun p=>(if barU bl p 0=false then pe.getD p 0 else 0)+sm (fun k=>A p k-D p k) l.length) P=_
    rw [rW,rE]
    unfold begC
    congr 1
    refine dO fun k _=>?_
    have:sm (fun p=>A p k-D p k) P+sm (fun p=>D p k) P=sm (fun p=>A p k) P:=by
      rw [←rW]
      exact dO fun p _=>by omega
    omega
  have hA:∀ k,k<l.length→sm (fun p=>A p k) P=if (l.getD k Mv.zero).at_+mvG ps out (l.getD k Mv.zero)<bl.getD (mvO ps (l.getD k Mv.zero)).toNat 0 then (l.getD k Mv.zero).many else 0:=fun k hq=>by
    have h1:=(hkf k hq).2.2.1
    rw [rX (p:=(mvO ps (l.getD k Mv.zero)).toNat) (by omega) (fun p _ hne=>if_neg fun h=>by have:=h.2;omega)]
    show (ite _ _ _:Int)=_
    by_cases hc:(l.getD k Mv.zero).at_+mvG ps out (l.getD k Mv.zero)<bl.getD (mvO ps (l.getD k Mv.zero)).toNat 0
    · rw [if_pos hc,if_pos ⟨hc,by omega⟩]
    · rw [if_neg hc,if_neg (fun h=>hc h.1)]
  have hD:∀ k,k<l.length→sm (fun p=>D p k) P=if (l.getD k Mv.zero).at_<bl.getD (l.getD k Mv.zero).fr.toNat 0 then (l.getD k Mv.zero).many else 0:=fun k hq=>by
    have h1:=(hkf k hq).2.1
    rw [rX (p:=(l.getD k Mv.zero).fr.toNat) (by omega) (fun p _ hne=>if_neg fun h=>by have:=h.2;omega)]
    show (ite _ _ _:Int)=_
    by_cases hc:(l.getD k Mv.zero).at_<bl.getD (l.getD k Mv.zero).fr.toNat 0
    · rw [if_pos hc,if_pos ⟨hc,by omega⟩]
    · rw [if_neg hc,if_neg (fun h=>hc h.1)]
  have hle:sm (fun k=>sm (fun p=>A p k) P-sm (fun p=>D p k) P) l.length≤sm (fun k=>jB ps out bl (l.getD k Mv.zero)) l.length:=by
    refine vI fun k hq=>?_
    have h1:=(hkf k hq).1
    rw [hA k hq,hD k hq]
    unfold jB
    by_cases h2:(l.getD k Mv.zero).at_+mvG ps out (l.getD k Mv.zero)<bl.getD (mvO ps (l.getD k Mv.zero)).toNat 0
    · rw [if_pos h2]
      by_cases h3:(l.getD k Mv.zero).at_<bl.getD (l.getD k Mv.zero).fr.toNat 0
      · rw [if_pos h3,if_neg (fun h=>by have:=h.1;omega)];omega
      · rw [if_neg h3,if_pos ⟨by omega,h2⟩];omega
    · rw [if_neg h2,if_neg (c:=bl.getD (l.getD k Mv.zero).fr.toNat 0≤(l.getD k Mv.zero).at_∧_) (fun h=>h2 h.2)]
      split <;> omega
  have hout:outN ps xs out pe l P T≤sm w P:=by
    let B:Nat→Nat→Int:=fun p k=>if hasI xs p=true∧((l.getD k Mv.zero).at_+mvG ps out (l.getD k Mv.zero)≤T∧mvO ps (l.getD k Mv.zero)=(p:Int)) then (l.getD k Mv.zero).many else 0
    have e1:outN ps xs out pe l P T=sm (fun p=>(if hasI xs p=true then pe.getD p 0 else 0)+sm (fun k=>B p k) l.length) P:=by
      rw [rW,rE]
      unfold outN exitN
      congr 1
      refine dO fun k hq=>?_
      have h1:=(hkf k hq).2.2.1
      rw [rX (p:=(mvO ps (l.getD k Mv.zero)).toNat) (by omega) (fun p _ hne=>if_neg fun h=>by have:=h.2.2;omega)]
      unfold outA
      show (ite _ _ _:Int)=ite _ _ _
      rw [Int.toNat_of_nonneg h1.1]
      by_cases hc:hasI xs (mvO ps (l.getD k Mv.zero))=true∧(l.getD k Mv.zero).at_+mvG ps out (l.getD k Mv.zero)≤T
      · rw [if_pos hc,if_pos ⟨hc.1,hc.2,rfl⟩]
      · rw [if_neg hc,if_neg (fun h=>hc ⟨h.1,h.2.1⟩)]
    rw [e1]
    refine vI fun p hp=>?_
    by_cases hx:hasI xs p=true
    · have h1:=hbk p (by omega)
      have h2:=h1.2 hx
      show _≤(if barU bl p 0=false then pe.getD p 0 else 0)+sm (fun k=>A p k-D p k) l.length
      rw [if_pos hx,if_pos (show barU bl p 0=false from decide_eq_false (by omega))]
      have h3:sm (fun k=>B p k) l.length≤sm (fun k=>A p k-D p k) l.length:=by
        refine vI fun k hq=>?_
        have h4:=(hkf k hq).2.2.2
        show (ite _ _ _:Int)≤ite _ _ _-ite _ _ _
        rw [if_neg (c:=(l.getD k Mv.zero).at_<bl.getD p 0∧(l.getD k Mv.zero).fr=(p:Int)) (fun h=>by rw [h.2,hx] at h4;cases h4)]
        have h5:=(hkf k hq).1
        by_cases hc:hasI xs p=true∧((l.getD k Mv.zero).at_+mvG ps out (l.getD k Mv.zero)≤T∧mvO ps (l.getD k Mv.zero)=(p:Int))
        · rw [if_pos hc,if_pos ⟨by omega,hc.2.2⟩];omega
        · rw [if_neg hc];split <;> omega
      omega
    · have h1:=hw0 p hp
      rw [if_neg hx,eM (fun k _=>if_neg fun h=>hx h.1)]
      exact h1
  unfold bndV
  omega
theorem Jg (V:StV P ps xs) (ho:0≤out) (hpe:PeOk pe) (hT:T≤60) (hl:planB ps xs out pe l P=true):outN ps xs out pe l P T≤mfv P T pe xs (hds out xs ps):=by
  obtain ⟨h1,h2⟩:=Xd (T:=T) V ho hpe
  have:=Rr V hT hl h1
  omega
end
end
end Go.Proofs.YtopmadlgolnmfaaGreat
