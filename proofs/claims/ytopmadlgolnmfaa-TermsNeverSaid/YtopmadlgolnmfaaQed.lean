/- Part 4 of the proof. -/
import Derived.Test.YtopmadlgolnmfaaQec
namespace Go.Proofs.Ytopmadlgolnmfaa
open Go.RowKit
set_option linter.unusedVariables false
set_option linter.unusedSimpArgs false
set_option maxRecDepth 100000
set_option maxHeartbeats 4000000
section
theorem six {p:Nat→Prop} (h0:p 0) (h1:p 1) (h2:p 2) (h3:p 3) (h4:p 4) (h5:p 5):∀ j,j<6→p j:=by
  intro j hj
  match j,hj with
  | 0,_=>exact h0
  | 1,_=>exact h1
  | 2,_=>exact h2
  | 3,_=>exact h3
  | 4,_=>exact h4
  | 5,_=>exact h5
theorem tZ {l:List Use} {x:Use} {vs:List Value} (h:∀ j,j<6→vs.getD j undef=x.cell j):∀ q j,q<l.length+1→j<6→capp l.length (ucell l) (fun k' j=>([vs].getD k' []).getD j undef) q j=ucell (l++[x]) q j:=by
  intro q j hq hj
  unfold capp ucell
  by_cases h1:q<l.length
  · rw [if_pos h1,List.getD_eq_getElem?_getD,List.getD_eq_getElem?_getD,List.getElem?_append_left h1]
  · rw [if_neg h1]
    have e:q=l.length:=by omega
    subst e
    rw [Nat.sub_self,List.getD_eq_getElem?_getD (l:=l++[x]),List.getElem?_append_right (Nat.le_refl _),Nat.sub_self]
    exact h j hj
theorem Qt {w:World} {p:Part} {l:List Use} {v:Value} {w':World} (h:v = .tuple #[.int .i64 (dA p l Prod.snd).1,.int .i64 (dA p l Prod.snd).2]∧St w noF [] w'):∃ n e:Int,v = .tuple #[.int .i64 n,.int .i64 e]∧bydB p l=(!decide (e=0)||decide (0≤n))∧St w noF [] w':=⟨_,_,h.1,rfl,h.2⟩
theorem Ma {w:World} {F:Nat→Prop} {sz n:Nat} {A:Option Addr} {cell:Nat→Nat→Value} (h:InS w F sz A n cell):A=none→n=0∧n=0:=fun e=>by
  rcases Nat.eq_zero_or_pos n with h0|h0
  · exact ⟨h0,h0⟩
  · obtain ⟨b,o,h1,_⟩:=h h0
    rw [e] at h1;cases h1
theorem Gu (u:Unt) (l:List Use) (LA:Option Addr) (lc:Nat) (age:Int) (w:World) (hur:InS w noF 2 u.RA u.rates.length (scell u.rates)) (hurn:u.rates.length≤9223372036854775807) (huu:InS w noF 6 u.UA u.uses.length (ucell u.uses)) (huun:u.uses.length≤9223372036854775807) (hl:InS w noF 6 LA l.length (ucell l)) (hln:l.length≤1000000) (hlc:l.length≤lc) :
    Calls Try.prog 102 [.agg [.int .i64 u.mach,.int .i64 u.every,.int .i64 u.seen,.slice u.RA u.rates.length u.rc,.int .i64 u.worn,.int .i64 u.turns,.int .i64 u.age,.slice u.UA u.uses.length u.uc,.int .i64 u.old,.int .i64 u.tn,.int .i64 u.cl,.int .i64 u.kind].toArray,.slice LA l.length lc,.int .i64 age].toArray w (Ret (fun v w'=>v = .bool (bydB u.part (l++[⟨age,u.tn,u.cl,false,0,0⟩]))∧St w noF [] w')):=by
 refine enter Try.func102 rfl Try.ntmps102 rfl (fun a H=>?_)
 have S:=St.start w
 refine aB fun K1 k1=>?_
 refine aP H rfl S G G ?_;clear H a S;intro b3 _ a hb3 hbw3 S H
 refine ls 1 H<|sr 1 rfl<|sE ?_;clear H a;intro a H
 refine k1 _ _ ?_;clear k1 K1
 replace H:=H.keep [1,2,3] rfl
 refine aB fun K2 k2=>?_
 refine ls 6 H<|sr 1 rfl<|sf kN rfl<|sl S 0 aA G G G<|sf nY rfl<|sl S 0 aA G G G<|sd (aN So G G)<|sE ?_;clear H a;intro a H
 refine aM H rfl S mL ?_;clear H a S;intro b7 _ a hb7 hbw7 S H
 refine aG H S (i:=0) G G G G eI G G ?_
 clear H a S;intro _ a S H
 refine k2 _ _ ?_;clear k2 K2
 replace H:=H.keep [1,3,7] rfl
 replace S:=S.drew
 refine vW 999999 (.q 0 (.q 1 (.q 2 (.q 3 (.q 4 (.q 5 (.q 6 (.q 7 (.q 8 (.e 9 (.e 10 (.e 11 (.q 12 (.q 13 (.q 14 (.q 15 (.q 16 .nil))))))))))))))))) (by kernel_rfl) (by kernel_rfl) (S.sel [0,1] G G) fun K3 k3=>?_
 refine aH H G G (fun _ S=>(aF iD rfl)) ?_;clear H a;intro a H
 refine aH H G G (fun _ S=>(aD eM fV rfl S (i:=1) G G)) ?_;clear H a;intro a H
 refine aH H G G (fun _ S=>aJ rfl) ?_;clear H a;intro a H
 refine aH H G G (fun _ S=>aJ rfl) ?_;clear H a;intro a H
 refine aH H G G (fun _ S=>dM cW rfl) ?_;clear H a;intro a H
 refine aH H G G (fun _ S=>aJ rfl) ?_;clear H a;intro a H
 refine aH H G G (fun _ S=>dM cW rfl) ?_;clear H a;intro a H
 refine aH H G G (fun _ S=>qL cW eI G G G hlc) ?_;clear H a;intro a H
 refine aH H G G (fun _ S=>(aD lI eI rfl S (i:=0) G G)) ?_;clear H a;intro a H
 refine bI rfl ?_
 refine aK H rfl S cW eI mL G G G G G G G G G ?_;clear H a S;intro A1 _ a hA1 S H
 refine wpList_nil (And.intro (Or.inr (S.sel [1,2] G G)) ?_)
 refine bI rfl ?_
 refine oX H rfl S cW eI mL Sl G G G G (n:=l.length) (cell:=ucell l) (cell':=_) (hl.now S) (Ma (hl.now S)) (by omega) (by omega) (ownM.inS S (i:=0) rfl) (nA (six G G G G G G)) (by omega) (by omega) ?_;clear H a S;intro A2 c2 _ a S H
 replace S:=S.recell (i:=0) rfl (cell':=ucell (l++[⟨age,u.tn,u.cl,false,0,0⟩])) (tZ (x:=⟨age,u.tn,u.cl,false,0,0⟩) (six G G G G G G))
 refine wpList_nil (And.intro (Or.inr (S.sel [2,3] G G)) ?_)
 refine bI rfl ?_
 rw [show l.length+1=(l++[(⟨age,u.tn,u.cl,false,0,0⟩:Use)]).length by simp] at H S
 have hcl9:=eS (wY u.rates u.worn u.turns u.age u.RA u.rc (l++[⟨age,u.tn,u.cl,false,0,0⟩]) A2 c2 _ (hur.now S) hurn ((ownM.inS S (i:=0) rfl)) (by simp;omega)) (fun _ _ h=>Qt h)
 refine aC H G G Try.func52 G G hcl9 ?_;clear H a hcl9
 rintro _ _ a ⟨n9,e9,rfl,hb9,S2⟩ H
 replace S:=S.call S2;clear S2
 refine wpList_nil (And.intro (Or.inr (S.sel [2,3] G G)) ?_)
 refine aH H G G (fun _ S=>aJ rfl) ?_;clear H a;intro a H
 refine aH H G G (fun _ S=>bV G G) ?_;clear H a;intro a H
 refine aH H G G (fun _ S=>bV G G) ?_;clear H a;intro a H
 refine aH H G G (fun _ S=>kV rfl) ?_;clear H a;intro a H
 refine aH H G G (fun _ S=>kV rfl) ?_;clear H a;intro a H
 refine eZ ?_
 refine k3 _ _ ?_
 clear k3 K3
 replace H:=H.keep [8,9] rfl
 refine sS H fun K4 k4=>sr 3 rfl<|sg 2 2 33 35 false G G (fun hg3=>sy hg3<|sr 1 rfl<|sy hg3<|sr 1 rfl<|sz 2 G G G)<|so G G G<|sr 1 rfl<|sE ?_;clear H a;intro a H
 refine k4 _ ?_;clear k4 K4
 refine wp_ret ?_
 refine ret1 (fn:=Try.f102) rfl H rfl ?_
 exact ⟨congrArg Value.bool hb9.symm,(S.sel [] G G)⟩
theorem Qu (u:Unt) (J:Nat→Int) (dy:Nat) (w:World) (hur:InS w noF 2 u.RA u.rates.length (scell u.rates)) (hurn:u.rates.length≤9223372036854775807) (huu:InS w noF 6 u.UA u.uses.length (ucell u.uses)) (huun:u.uses.length≤9223372036854775807) (hucp:u.uses.length≤u.uc) (hui:untI u) (ho0:0≤u.old) (hJ:∀ d,0≤J d∧J d≤6) (hdy:dy≤20) :
    Calls Try.prog 87 [.agg [.int .i64 u.mach,.int .i64 u.every,.int .i64 u.seen,.slice u.RA u.rates.length u.rc,.int .i64 u.worn,.int .i64 u.turns,.int .i64 u.age,.slice u.UA u.uses.length u.uc,.int .i64 u.old,.int .i64 u.tn,.int .i64 u.cl,.int .i64 u.kind].toArray,.agg ((List.range 20).map fun k=>Value.int .i64 (J k)).toArray,.int .i64 (dy:Int)].toArray w (Ret (fun v w'=>v = .agg [.int .i64 (bsum (runB' u J) dy),.int .i64 (bsum (certB u J) dy)].toArray∧St w noF [] w')):=by
 have hmx:maxLen=9223372036854775807:=rfl
 unfold untI at hui
 refine enter Try.func87 rfl Try.ntmps87 rfl (fun a H=>?_)
 have S:=St.start w
 refine aB fun K1 k1=>?_
 refine aP H rfl S G G ?_;clear H a S;intro b3 _ a hb3 hbw3 S H
 refine aP H rfl S G G ?_;clear H a S;intro b4 _ a hb4 hbw4 S H
 refine aM H rfl S jU ?_;clear H a S;intro b6 _ a hb6 hbw6 S H
 refine k1 _ _ ?_;clear k1 K1
 replace S:=Qe S (i:=1) rfl (by omega)
 refine aB fun K2 k2=>?_
 refine aM H rfl S jU ?_;clear H a S;intro b7 _ a hb7 hbw7 S H
 refine k2 _ _ ?_;clear k2 K2
 replace H:=H.keep [2,3,4,6,7] rfl
 replace S:=S.drew
 refine sD H fun K3 k3=>sf fP rfl<|sl S 3 iM G G G<|sf nX rfl<|sl S 3 aA G G G<|sd (xL rfl (by unfold i64ok;omega))<|sf wL rfl<|sl S 3 aA G G G<|sr 3 rfl<|sE ?_;clear H a;intro a H
 refine k3 _ ?_;clear k3 K3
 refine wp_seq_k fun K4 k4=>?_
 replace H:=H.keep [2,3,4,6,7,8,9,10] rfl
 refine sS H fun K5 k5=>sr 2 rfl<|sE ?_;clear H a;intro a H
 refine k5 _ ?_;clear k5 K5
 refine wp_block ?_
 replace S:=S.frz0
 refine loop_st (X:=Nat×LSt×Option Addr×Nat×(Nat→Prop)×World) (R0:=_) [3,4,6,7,21] H rfl (fun ⟨d,st,A9,c9,B9,wz⟩=>[(8,.slice A9 st.uses.length c9),(9,.int .i64 st.born),(10,.int .i64 st.seen),(22,.int .i64 (d:Int))]) (fun ⟨d,st,A9,c9,B9,wz⟩=>[boxM b7 101 [.int .i64 (bsum (runB' u J) d),.int .i64 (bsum (certB u J) d)],frzM B9 wz]) (fun g ⟨d,st,A9,c9,B9,wz⟩=>(d≤dy∧g+d=dy)∧(RdF w noF B9 wz 6 A9 st.uses.length (ucell st.uses)∧st.uses.length≤c9)∧st=lifeS u J d) (dy) (0,lifeS u J 0,u.UA,u.uc,noF,_) ?_ (S.sel [1,0,2,3,4] G G) (H.keep [8,9,10,22,3,4,6,7,21] rfl) ?_
 · exact ⟨⟨by omega,by omega⟩,⟨RdF.base huu,hucp⟩,rfl⟩
 clear H S a
 intro g1 x1 a w1 hp S H K6 k6
 obtain ⟨d,st,A9,c9,B9,wz⟩:=x1
 dsimp only at hp S H
 obtain ⟨⟨hdl,hgd⟩,⟨hrd,hcap⟩,hst9⟩:=hp
 subst hst9
 have hln:=Ge (u:=u) (J:=J) d
 have hbo:=tS (u:=u) (J:=J) (by omega) d
 have hsn:=Bw (u:=u) (J:=J) (by omega) d
 skip
 refine sS H fun K7 k7=>sr 1 rfl<|sE ?_;clear H a;intro a H
 refine k7 _ ?_;clear k7 K7
 refine wp_seq_k fun K8 k8=>?_
 refine condL H rfl (fun hc1=>?_) (fun hc1=>?_)
 ·skip
  refine wp_skip ?_
  refine k8 _ _ ?_
  refine wp_seq_k fun K9 k9=>?_
  refine wp_block ?_
  refine sS H fun K10 k10=>sr 2 rfl<|sE ?_;clear H a;intro a H
  refine k10 _ ?_;clear k10 K10
  have hJd:=hJ d
  replace H:=H.keep [3,4,6,7,8,9,10,11,21,22] rfl
  replace S:=S.drew
  refine sD H fun K11 k11=>sr 1 rfl<|sd (cK Try.underlying150 aX G G (by omega) (by omega))<|slm aA rfl (ownM.rd S (i:=3) (k:=d) (j:=0) rfl (by omega) (by omega))<|sd (iI G G (by omega) (by omega))<|sd (gI G G)<|sr 2 rfl<|sd (cK Try.underlying150 aX G G (by omega) (by omega))<|slm aA rfl (ownM.rd S (i:=3) (k:=d) (j:=0) rfl (by omega) (by omega))<|sd (iI G G (by omega) (by omega))<|sd (gI G G)<|sr 3 rfl<|sE ?_;clear H a;intro a H
  refine k11 _ ?_;clear k11 K11
  have SR:=(S.sel [0,1,2,3,4] G G)
  refine fA (X:=Int) [3,4,6,7,8,9,11,13,21,22] H rfl (fun x=>[(10,.int .i64 x)]) (fun x=>[]) (fun x=>x=seenN (lifeS u J d) (J d) d) SR (fun K13 k13=>?_) ?_
  ·skip
   replace H:=H.keep [3,4,6,7,8,9,10,11,12,13,21,22] rfl
   refine sS H fun K14 k14=>sr 1 rfl<|sE ?_;clear H a;intro a H
   refine k14 _ ?_;clear k14 K14
   refine condE H rfl (fun hc2=>?_) (fun hc2=>?_)
   ·skip
    refine sO H<|sr 2 rfl<|sE ?_;clear H a;intro a H
    exact k13 _ a _ ((if_pos (show insp (J d)=true from decide_eq_true hc2)).symm) (S.sel [0,1,2,3,4] G G) (H.keep [10,3,4,6,7,8,9,11,13,21,22] rfl)
   refine wp_skip ?_
   exact k13 _ a _ ((if_neg (show ¬ insp (J d)=true from fun h=>hc2 (of_decide_eq_true h))).symm) (S.sel [0,1,2,3,4] G G) (H.keep [10,3,4,6,7,8,9,11,13,21,22] rfl)
  clear SR H S a
  intro xm a wm hp S H
  obtain ⟨x,rfl⟩:∃ y,y=xm:=⟨_,rfl⟩
  have hx9:=hp
  have hxb:=zB (s:=(lifeS u J d)) (j:=J d) (d:=d) hsn
  rw [←hx9] at hxb
  have SR:=(S.sel [1,2,3,4] G G)
  refine fA (X:=Unit) [3,4,6,7,8,9,10,11,13,21,22] H rfl (fun u3=>[]) (fun u3=>[boxM b7 101 [.int .i64 (bsum (runB' u J) d),.int .i64 (bsum (certB u J) (d+1))]]) (fun u3=>True) SR (fun K17 k17=>?_) ?_
  ·skip
   refine sS H fun K18 k18=>sr 2 rfl<|sd (aO G G (by unfold i64ok;omega))<|sf qW rfl<|sl S 4 aA G G G<|sr 1 rfl<|sE ?_;clear H a;intro a H
   refine k18 _ ?_;clear k18 K18
   refine condG H rfl (fun hc3=>?_) (fun hc3=>?_)
   ·skip
    replace H:=H.keep [3,4,6,7,8,9,10,11,13,21,22] rfl
    refine kZ 6 (by kernel_rfl) (by kernel_rfl) ?_
    replace S:=S.drew
    refine sF H<|sf rT rfl<|sl S 0 aA G G G<|sr 1 rfl<|sd (nN G G (by omega) (by omega) (Bv (by omega)))<|sd (tR G G (vE _ (by omega)) (by omega) (Ds (Nat.le_refl d)))<|sf rT rfl<|sE ?_;clear H a;intro a H
    refine aG H S (i:=0) G G G G aX G G ?_
    clear H a S;intro _ a S H
    replace S:=boxM.same S (i:=0) rfl (cs':=[.int .i64 (bsum (runB' u J) d),.int .i64 (bsum (certB u J) (d+1))]) (by rw [←Lf (f:=certB u J) (n:=d) ((zD u J d x hx9).symm.trans (decide_eq_true hc3))] <;> rfl)
    exact k17 () a _ (trivial) (S.sel [0,1,2,3,4] G G) (H.keep [3,4,6,7,8,9,10,11,13,21,22] rfl)
   refine wp_skip ?_
   replace S:=boxM.same S (i:=0) rfl (cs':=[.int .i64 (bsum (runB' u J) d),.int .i64 (bsum (certB u J) (d+1))]) (by rw [←Lg (f:=certB u J) (n:=d) ((zD u J d x hx9).symm.trans (decide_eq_false (by omega)))] <;> rfl)
   exact k17 () a _ (trivial) (S.sel [0,1,2,3,4] G G) (H.keep [3,4,6,7,8,9,10,11,13,21,22] rfl)
  clear SR H S a
  intro xm a wm hp S H
  obtain ⟨u3,rfl⟩:∃ y,y=xm:=⟨_,rfl⟩
  skip
  have SR:=(S.sel [2,3,4] G G)
  refine fA (X:=Option Addr×Nat×(Nat→Prop)×World) [3,4,6,7,9,10,11,13,21,22] H rfl (fun ⟨A8,c8,B8,wy⟩=>[(8,.slice A8 (usesN u J d).length c8)]) (fun ⟨A8,c8,B8,wy⟩=>[boxM b7 101 [.int .i64 (bsum (runB' u J) (d+1)),.int .i64 (bsum (certB u J) (d+1))],frzM B8 wy]) (fun ⟨A8,c8,B8,wy⟩=>RdF w noF B8 wy 6 A8 (usesN u J d).length (ucell (usesN u J d))∧(usesN u J d).length≤c8) SR (fun K21 k21=>?_) ?_
  ·skip
   replace H:=H.keep [3,4,6,7,8,9,10,11,13,21,22] rfl
   refine aB fun K22 k22=>?_
   refine ls 13 H<|sr 1 rfl<|sd (cK Try.underlying150 aX G G (by omega) (by omega))<|slm aA rfl (ownM.rd S (i:=3) (k:=d) (j:=0) rfl (by omega) (by omega))<|sr 2 rfl<|sg 6 4 55 61 true G G (fun hg5=>sy hg5<|sr 1 rfl<|sy hg5<|sr 1 rfl<|sy hg5<|sd (aO G G (by unfold i64ok;omega))<|sy hg5<|sf qW rfl<|sy hg5<|sl S 4 aA G G G<|sy hg5<|sr 1 rfl<|sz 6 G G G)<|sa G G G<|sr 1 rfl<|sE ?_;clear H a;intro a H
   apply dI (i:=12) (g:=63) (t:=70) (b:=true) 7 H S G G (by kernel_rfl) (by kernel_rfl) G G
   case h1=>
    intro hg13
    refine ls 5 H<|sy hg13<|sd ((aD mX dG rfl S (i:=4) G G))<|sy hg13<|sr 1 rfl<|sy hg13<|sr 1 rfl<|sy hg13<|sr 1 rfl<|sy hg13<|sd (aO G G (by unfold i64ok;omega))<|sE ?_;intro a H
    refine eL H G G (by assumption) ?_
    refine aC H G G Try.func102 G G (Gu u (lifeS u J d).uses A9 c9 ((d:Int)-(lifeS u J d).born) _ (hur.now S) hurn (huu.now S) huun (hrd.now S (i:=1) rfl) (by omega) hcap) ?_
    rintro _ _ a ⟨rfl,S2⟩ H
    replace S:=S.call S2;clear S2
    refine ls 1 H<|sy hg13<|sr 1 rfl<|sE ?_;intro a H
    exact wpList_nil ⟨H.strip 7 G G,(S.sel [0,1,2,3,4] G G)⟩
   clear H a S;intro a _ H S
   refine ls 1 H<|sa G G G<|sE ?_;clear H a;intro a H
   refine k22 _ _ ?_;clear k22 K22
   refine aT H rfl (fun hc4=>?_) (fun hc4=>?_)
   ·skip
    rw [Dt u J d x hx9] at hc4
    replace H:=H.keep [3,4,6,7,8,9,10,11,13,21,22] rfl
    refine kY 6 (by kernel_rfl) (by kernel_rfl) fun K23 k23=>?_
    replace S:=S.drew
    refine sF H<|sf oF rfl<|sl S 0 aA G G G<|sr 1 rfl<|sd (nN G G (by omega) (by omega) (Bv (by omega)))<|sd (tR G G (vE _ (by omega)) (by omega) (Ds (Nat.le_refl d)))<|sf oF rfl<|sE ?_;clear H a;intro a H
    refine aG H S (i:=0) G G G G aX G G ?_
    clear H a S;intro _ a S H
    refine k23 _ _ ?_;clear k23 K23
    replace H:=H.keep [3,4,6,7,8,9,10,11,13,21,22] rfl
    replace S:=S.drew
    refine one_wq [(0,true),(1,true),(2,true),(3,true),(4,true),(5,true),(6,true),(7,true),(8,true),(9,true),(10,true),(11,true),(12,true),(13,true),(14,false),(15,false),(16,true)] (by kernel_rfl) (by kernel_rfl) (S.sel [0,1,2,3,4] G G) ?_
    refine qF H<|qr 2 rfl<|qd rfl (fun _ S=>dM cW rfl)<|qr 1 rfl<|qd rfl (fun _ S=>dM cW rfl)<|qd rfl (fun _ S=>qL cW eI G G G hcap)<|qr 2 rfl<|qd rfl (fun _ S=>aO G G (by unfold i64ok;omega))<|qd rfl (fun _ S=>(aF kN rfl))<|qd rfl (fun _ S=>aE aA rfl (boxM.rd S (i:=4) G G))<|qd rfl (fun _ S=>(aF nY rfl))<|qd rfl (fun _ S=>aE aA rfl (boxM.rd S (i:=4) G G))<|qd rfl (fun _ S=>aN So G G)<|qK ?_;clear H a;intro a H
    refine aZ rfl ?_
    refine aK H rfl S cW eI mL G G G G G G G G G ?_;clear H a S;intro A1 _ a hA1 S H
    refine wpList_nil (And.intro (S.sel [1,2,3,4,5] G G) ?_)
    refine aZ rfl ?_
    refine oX H rfl S cW eI mL Sl G G G G (n:=(lifeS u J d).uses.length) (cell:=ucell (lifeS u J d).uses) (cell':=_) (hrd.now S (i:=2) rfl) (Ma (hrd.now S (i:=2) rfl)) (by omega) (by omega) (ownM.inS S (i:=0) rfl) (nA (six G G G G G G)) (by omega) (by omega) ?_;clear H a S;intro A3 c3 _ a S H
    replace S:=S.recell (i:=0) rfl (cell':=ucell ((lifeS u J d).uses++[useAt u d (lifeS u J d).born])) (tZ (x:=useAt u d (lifeS u J d).born) (six G G G G G G))
    refine wpList_nil (And.intro (S.sel [2,3,4,5,6] G G) ?_)
    refine qF H<|qr 1 rfl<|qK ?_;clear H a;intro a H
    refine cM ?_
    replace S:=boxM.same S (i:=2) rfl (cs':=[.int .i64 (bsum (runB' u J) (d+1)),.int .i64 (bsum (certB u J) (d+1))]) (by rw [←Lf (f:=runB' u J) (n:=d) hc4] <;> rfl)
    replace S:=(S.sel [0,1,2,3,4,5,6] G G)
    have hle3:=ownM.le S (i:=0) rfl
    obtain ⟨B2,S,hA2,_⟩:=St.freeze S (i:=2) rfl
    rw [show (lifeS u J d).uses.length+1=(usesN u J d).length by unfold usesN;rw [if_pos hc4];simp] at H
    exact k21 (A3,c3,B2,_) a _ (⟨by rw [Du hc4,List.length_append];exact hA2,by rw [Du hc4,List.length_append];exact hle3.1⟩) (S.sel [1,2,3,4,5] G G) (H.keep [8,3,4,6,7,9,10,11,13,21,22] rfl)
   rw [Dt u J d x hx9] at hc4
   refine wp_skip ?_
   replace S:=boxM.same S (i:=0) rfl (cs':=[.int .i64 (bsum (runB' u J) (d+1)),.int .i64 (bsum (certB u J) (d+1))]) (by rw [←Lg (f:=runB' u J) (n:=d) hc4] <;> rfl)
   rw [←xC hc4] at H
   exact k21 (A9,c9,B9,wz) a _ (⟨by rw [xC hc4];exact hrd,by rw [xC hc4];exact hcap⟩) (S.sel [0,1,2,3,4] G G) (H.keep [8,3,4,6,7,9,10,11,13,21,22] rfl)
  clear SR H S a
  intro xm a wm hp S H
  obtain ⟨A8,c8,B8,wy⟩:=xm
  rw [show Value.bool (decide (J d/2^(2:Int).toNat%2=1))=Value.bool (renw (J d)) from rfl] at H
  replace H:=H.keep [3,4,6,7,8,9,10,11,13,21,22] rfl
  refine sS H fun K25 k25=>sr 1 rfl<|sE ?_;clear H a;intro a H
  refine k25 _ ?_;clear k25 K25
  refine aT H rfl (fun hc5=>?_) (fun hc5=>?_)
  ·skip
   skip
   refine sO H<|sr 3 rfl<|sE ?_;clear H a;intro a H
   refine k9 _ _ ?_
   refine sO H<|sd (aI G G (by unfold i64ok;omega))<|sr 1 rfl<|sE ?_;clear H a;intro a H
   have hp8:=hp
   exact k6 (g1-1) (d+1,⟨[],(d:Int),x⟩,none,0,B8,wy) a _ (by omega) (⟨⟨by omega,by omega⟩,⟨RdF.nil,Nat.le_refl 0⟩,Uc hc5 hx9⟩) (S.sel [0,1,2,3,4] G G) (H.keep [8,9,10,22,3,4,6,7,21] rfl)
  skip
  refine wp_skip ?_
  refine k9 _ _ ?_
  refine sO H<|sd (aI G G (by unfold i64ok;omega))<|sr 1 rfl<|sE ?_;clear H a;intro a H
  have hp8:=hp
  exact k6 (g1-1) (d+1,⟨usesN u J d,(lifeS u J d).born,x⟩,A8,c8,B8,wy) a _ (by omega) (⟨⟨by omega,by omega⟩,hp8,Ud hc5 hx9⟩) (S.sel [0,1,2,3,4] G G) (H.keep [8,9,10,22,3,4,6,7,21] rfl)
 refine wp_exit ?_
 refine k4 _ _ ?_
 replace H:=H.keep [6,7] rfl
 refine aB fun K29 k29=>?_
 refine ls 1 H<|sd ((aD iA dZ rfl S (i:=0) G G))<|sE ?_;clear H a;intro a H
 refine aG H S (i:=2) G G G G dZ G G ?_
 clear H a S;intro _ a S H
 refine k29 _ _ ?_;clear k29 K29
 refine wp_ret ?_
 refine retA (fn:=Try.f87) rfl H rfl iA (by exact dZ) (cB S (i:=2) rfl) ?_
 obtain rfl:d=dy:=by omega
 exact ⟨rfl,(S.sel [] G G)⟩
end
section
theorem keyOK:KeyOk Try.prog 152 (encN (n:=21)):=
  Py (Le Try.underlying152 rR (.cons (by decide) rfl (PartK.int2 Try.underlying3 aA) (.cons (by decide) rfl (PartK.of (Ld Try.underlying150 Is (PartK.int Try.underlying3 aA) aX)) (.nil 21))) (by kernel_rfl)) (by omega) (by rw [Try.underlying152])
theorem YIn.nowR {w w0:World} {F0:Nat→Prop} {R:List Mem} {y:Yr} (h:YIn w0 F0 y) (S:St w0 F0 R w):YIn w (fps R) y:=
  ⟨h.ps.nowR S,h.xs.nowR S,h.pe.nowR S,h.prs.nowR S,h.us.nowR S,h.sps.nowR S,fun k hk=>(h.rt k hk).nowR S,fun k hk=>(h.ul k hk).nowR S⟩
theorem YOk.days {y:Yr} (h:YOk y):1≤y.days∧y.days≤20:=h.yr.1
theorem YOk.unit {y:Yr} (h:YOk y) {i:Nat} (hi:i<y.us.length):UntOk y.ps y.us (y.us.getD i Unt.zero) i:=jJ.1 (h.un i hi)
theorem YOk.old {y:Yr} (h:YOk y) {i:Nat} (hi:i<y.us.length):0≤(y.us.getD i Unt.zero).old:=by
  have h1:=h.unit hi
  have h2:=tX h1.wear
  have h3:=h1.i
  unfold untI at h3
  omega
theorem xG (y:Yr) (w:World) :
    Calls Try.prog 37 [.agg [.int .i64 y.days,.int .i64 y.pl,.slice y.PA y.ps.length y.pc,.slice y.XA y.xs.length y.xc,.slice y.BA y.pe.length y.bc,.int .i64 y.limit,.bool y.help,.slice y.QA y.prs.length y.qc,.slice y.VA y.us.length y.vc,.int .i64 y.crew,.slice y.SA y.sps.length y.sc].toArray].toArray w (Ret (fun v w'=>∃ cb bl bs bk,v = .pointer (some ⟨cb,0,none⟩)∧St w noF [boxM cb 120 [.int .i64 y.days,.int .i64 y.pl,.slice y.PA y.ps.length y.pc,.slice y.XA y.xs.length y.xc,.slice y.BA y.pe.length y.bc,.int .i64 y.limit,.bool y.help,.slice y.QA y.prs.length y.qc,.slice y.VA y.us.length y.vc,.int .i64 y.crew,.slice y.SA y.sps.length y.sc,.map (some bl),.map (some bs),.map (some bk)],mapK (encN (n:=21)) bl (livP y),mapK (fun n:Int=>Value.int .i64 n) bs (safP y),mapK enc2 bk (kepP y)] w')):=by
 refine enter Try.func37 rfl Try.ntmps37 rfl (fun a H=>?_)
 have S:=St.start w
 refine aB fun K1 k1=>?_
 refine aP H rfl S G G ?_;clear H a S;intro b1 _ a hb1 hbw1 S H
 refine ls 1 H<|sr 1 rfl<|sE ?_;clear H a;intro a H
 refine k1 _ _ ?_;clear k1 K1
 refine aB fun K2 k2=>?_
 refine ls 1 H<|sd ((aD bE bA rfl S (i:=0) G G))<|sE ?_;clear H a;intro a H
 refine iF (encN (n:=21)) (livP y) Gj H rfl S ?_;clear H a S;intro bl _ a hbl S H
 refine iF (fun n:Int=>Value.int .i64 n) (safP y) Gk H rfl S ?_;clear H a S;intro bs _ a hbs S H
 refine iF enc2 (kepP y) Gl H rfl S ?_;clear H a S;intro bk _ a hbk S H
 refine ls 1 H<|sd (aN Tj G G)<|sE ?_;clear H a;intro a H
 refine aP H rfl S G G ?_;clear H a S;intro b8 _ a hb8 hbw8 S H
 refine ls 1 H<|sr 1 rfl<|sE ?_;clear H a;intro a H
 refine k2 _ _ ?_;clear k2 K2
 refine wp_ret ?_
 refine ret1 (fn:=Try.f37) rfl H rfl ?_
 exact ⟨b8,bl,bs,bk,rfl,(S.sel [0,3,2,1] G G)⟩
theorem zM (y:Yr) (cb bl bs bk:Nat) (i:Nat) (l:List Tsk) (LA:Option Addr) (lc:Nat) (w:World) (F:Nat→Prop) (S:St w F [boxM cb 120 [.int .i64 y.days,.int .i64 y.pl,.slice y.PA y.ps.length y.pc,.slice y.XA y.xs.length y.xc,.slice y.BA y.pe.length y.bc,.int .i64 y.limit,.bool y.help,.slice y.QA y.prs.length y.qc,.slice y.VA y.us.length y.vc,.int .i64 y.crew,.slice y.SA y.sps.length y.sc,.map (some bl),.map (some bs),.map (some bk)],mapK (encN (n:=21)) bl (livP y),mapK (fun n:Int=>Value.int .i64 n) bs (safP y),mapK enc2 bk (kepP y)] w) (hy:YIn w F y) (hyb:YBd y) (hok:YOk y) (hi:i<y.us.length) (hl:InS w F 3 LA l.length (fH l)) (hln:l.length≤9223372036854775807) (htk:∀ k,k<l.length→tskI y (l.getD k Tsk.zero)) :
    Calls Try.prog 64 [.pointer (some ⟨cb,0,none⟩),.int .i64 (i:Int),.slice LA l.length lc].toArray w (Ret (fun v w'=>v=lifeV (y.us.getD i Unt.zero) (jobF l i) y.days.toNat∧St w F [boxM cb 120 [.int .i64 y.days,.int .i64 y.pl,.slice y.PA y.ps.length y.pc,.slice y.XA y.xs.length y.xc,.slice y.BA y.pe.length y.bc,.int .i64 y.limit,.bool y.help,.slice y.QA y.prs.length y.qc,.slice y.VA y.us.length y.vc,.int .i64 y.crew,.slice y.SA y.sps.length y.sc,.map (some bl),.map (some bs),.map (some bk)],mapK (encN (n:=21)) bl (livP y),mapK (fun n:Int=>Value.int .i64 n) bs (safP y),mapK enc2 bk (kepP y)] w')):=by
 have hmx:maxLen=9223372036854775807:=rfl
 have hdy:=hok.days;have husn:=hyb.usn
 have hD:((y.days.toNat:Nat):Int)=y.days:=by omega
 refine enter Try.func64 rfl Try.ntmps64 rfl (fun a H=>?_)
 skip
 refine aB fun K1 k1=>?_
 refine aM H rfl S jU ?_;clear H a S;intro b6 _ a hb6 hbw6 S H
 refine k1 _ _ ?_;clear k1 K1
 refine aB fun K2 k2=>?_
 refine ls 2 H<|sr 1 rfl<|sd (aN Tk G G)<|sE ?_;clear H a;intro a H
 refine aM H rfl S Iz ?_;clear H a S;intro b7 _ a hb7 hbw7 S H
 refine aG H S (i:=0) G G G G rR G G ?_
 clear H a S;intro _ a S H
 refine k2 _ _ ?_;clear k2 K2
 refine wp_seq_k fun K3 k3=>?_
 replace S:=boxM.same S (i:=0) rfl (cs':=[.int .i64 (i:Int),.int .i64 0,.int .i64 0,.int .i64 0,.int .i64 0,.int .i64 0,.int .i64 0,.int .i64 0,.int .i64 0,.int .i64 0,.int .i64 0,.int .i64 0,.int .i64 0,.int .i64 0,.int .i64 0,.int .i64 0,.int .i64 0,.int .i64 0,.int .i64 0,.int .i64 0,.int .i64 0]) rfl
 replace S:=zF S (i:=0) rfl (by show 21≤maxLen;decide)
 replace S:=S.recell (i:=0) rfl (cell':=kcl i (jobP l 0 i)) (fun k j hk hj=>Ll hk hj)
 refine sS H fun K4 k4=>sr 1 rfl<|sL dT rfl<|sr 1 rfl<|sE ?_;clear H a;intro a H
 refine k4 _ ?_;clear k4 K4
 refine wp_block ?_
 refine loop_st (X:=Nat) (R0:=_) [0,1,6,7,14,15] H rfl (fun k=>[(16,.int .i64 (k:Int))]) (fun k=>[ownM 152 1 (some ⟨b7,0,none⟩) 21 21 (kcl i (jobP l k i))]) (fun g k=>k≤l.length∧g+k=l.length) (l.length) 0 ?_ (S.sel [0,1,2,3,4,5] G G) (H.keep [16,0,1,6,7,14,15] rfl) ?_
 · exact ⟨by omega,by omega⟩
 clear H S a
 intro g1 x1 a w1 hp S H K5 k5
 obtain ⟨k,rfl⟩:∃ y,y=x1:=⟨_,rfl⟩
 refine sS H fun K6 k6=>sr 1 rfl<|sE ?_;clear H a;intro a H
 refine k6 _ ?_;clear k6 K6
 refine wp_seq_k fun K7 k7=>?_
 refine condL H rfl (fun hc1=>?_) (fun hc1=>?_)
 ·skip
  refine wp_skip ?_
  refine k7 _ _ ?_
  refine wp_seq_k fun K8 k8=>?_
  refine wp_block ?_
  refine aB fun K9 k9=>?_
  refine ls 2 H<|si dT dF G G (hl.adr (by omega)) (by omega)<|sd ((aS mW dF rfl S hl (by omega) (by omega)))<|sE ?_;clear H a;intro a H
  refine aM H rfl S yB ?_;clear H a S;intro b9 _ a hb9 hbw9 S H
  refine aG H S (i:=0) G G G G dF G G ?_
  clear H a S;intro _ a S H
  refine k9 _ _ ?_;clear k9 K9
  have htt:=htk k (by omega);unfold tskI at htt
  refine sS H fun K10 k10=>sf dH rfl<|sl S 0 aA G G G<|sr 2 rfl<|sE ?_;clear H a;intro a H
  refine k10 _ ?_;clear k10 K10
  refine condE H rfl (fun hc2=>?_) (fun hc2=>?_)
  ·skip
   replace H:=H.keep [0,1,6,7,9,14,15,16] rfl
   refine kZ 11 (by kernel_rfl) (by kernel_rfl) ?_
   replace S:=S.drew
   refine sF H<|sf cT rfl<|sl S 0 aA G G G<|sf sA rfl<|sd ((cK Try.underlying150 aX G G (by omega) (by omega)).to (v' := .pointer (some (pt (some ⟨b7,0,none⟩) 1 ((l.getD k Tsk.zero).day.toNat+1) 0))) (congrArg (fun o=>Value.pointer (some ⟨b7,o,none⟩)) (show 0+1+(l.getD k Tsk.zero).day.toNat*1=0+((l.getD k Tsk.zero).day.toNat+1)*1+0 by omega)))<|slm aA rfl (ownM.rd S (i:=1) (k:=(l.getD k Tsk.zero).day.toNat+1) (j:=0) rfl (by omega) (by omega))<|sf fO rfl<|sl S 0 aA G G G<|sd (nN G G (by omega) (by omega) (Qh htt.2.2))<|sd (Lh G G (Gg _ _ _) (by omega))<|sf sA rfl<|sd ((cK Try.underlying150 aX G G (by omega) (by omega)).to (v' := .pointer (some (pt (some ⟨b7,0,none⟩) 1 ((l.getD k Tsk.zero).day.toNat+1) 0))) (congrArg (fun o=>Value.pointer (some ⟨b7,o,none⟩)) (show 0+1+(l.getD k Tsk.zero).day.toNat*1=0+((l.getD k Tsk.zero).day.toNat+1)*1+0 by omega)))<|sE ?_;clear H a;intro a H
   refine bN H S (i:=1) G G G (by omega) (by omega) aX rfl ?_
   clear H a S;intro _ a S H
   refine k8 _ _ ?_
   replace H:=H.keep [0,1,6,7,14,15,16] rfl
   refine sO H<|sd (aI G G (by unfold i64ok;omega))<|sr 1 rfl<|sE ?_;clear H a;intro a H
   replace S:=S.recell (i:=1) rfl (cell':=kcl i (jobP l (k+1) i)) (fun k9 j9 hk9 hj9=>Qj (d:=(l.getD k Tsk.zero).day.toNat) (by omega) htt.2.2 (by omega) (by omega) k9 j9 hj9)
   exact k5 (g1-1) (k+1) a _ (by omega) (⟨by omega,by omega⟩) (S.sel [1,2,3,4,5,6] G G) (H.keep [16,0,1,6,7,14,15] rfl)
  refine wp_skip ?_
  refine k8 _ _ ?_
  refine sO H<|sd (aI G G (by unfold i64ok;omega))<|sr 1 rfl<|sE ?_;clear H a;intro a H
  rw [←Qi (l:=l) (n:=k) (i:=i) (by omega) htt.2.2 (by omega)] at S
  exact k5 (g1-1) (k+1) a _ (by omega) (⟨by omega,by omega⟩) (S.sel [1,2,3,4,5,6] G G) (H.keep [16,0,1,6,7,14,15] rfl)
 refine wp_exit ?_
 refine k3 _ _ ?_
 obtain rfl:k=l.length:=by omega
 rw [Lj] at S
 replace S:=Qg S (i:=0) rfl
 obtain ⟨h0,hh0,S⟩:=mapK.fix S (i:=3) rfl
 rcases hk0:h0 (keyOf i (jobF l i)) with _|v0
 ·skip
  skip
  replace H:=H.keep [0,1,6,7] rfl
  replace S:=S.drew
  refine dP [(0,true),(1,true),(2,true),(3,true),(4,true),(5,true),(6,true),(7,true),(8,true),(9,false),(10,false),(11,true)] (by kernel_rfl) (by kernel_rfl) (S.sel [0,1,2,3,4,5] G G) fun K14 k14=>?_
  refine qF H<|qr 2 rfl<|qd rfl (fun _ S=>(aF rU rfl))<|qd rfl (fun _ S=>aE wF rfl (boxM.rd S (i:=2) G G))<|qd rfl (fun _ S=>(aD wJ rR rfl S (i:=0) G G))<|qd rfl (fun _ S=>eO S (i:=3) rfl Aw keyOK Jj rfl (k:=keyOf i (jobF l i)) rfl (fun h e=>by subst e;rw [hk0];exact ⟨rfl,rfl⟩))<|qr 3 rfl<|qK ?_;clear H a;intro a H
  refine aZ rfl ?_
  refine aM H rfl S jU ?_;clear H a S;intro b10 _ a hb10 hbw10 S H
  refine wpList_nil (And.intro (S.sel [1,2,3,4,5,6] G G) ?_)
  refine aZ rfl ?_
  refine aG H S (i:=0) G G G G dZ G G ?_
  clear H a S;intro _ a S H
  refine wpList_nil (And.intro (S.sel [1,2,3,4,5,6] G G) ?_)
  refine qF H<|qr 1 rfl<|qK ?_;clear H a;intro a H
  refine cM ?_
  refine k14 _ _ ?_
  clear k14 K14
  refine wp_seq_k fun K15 k15=>?_
  replace H:=H.keep [0,1,6,7,10,11] rfl
  refine sS H fun K16 k16=>sr 2 rfl<|sE ?_;clear H a;intro a H
  refine k16 _ ?_;clear k16 K16
  refine aT H rfl (fun hc3=>?_) (fun hc3=>?_)
  ·skip
   skip
   replace H:=H.keep [0,1,6,7,10] rfl
   replace S:=S.drew
   refine dP [(0,true),(1,true),(2,true),(3,true),(4,true),(5,true),(6,true),(7,true),(8,true),(9,true),(10,true),(11,true),(12,true),(13,true),(14,true),(15,false),(16,false)] (by kernel_rfl) (by kernel_rfl) (S.sel [1,2,3,4,5,6] G G) fun K17 k17=>?_
   refine qF H<|qr 2 rfl<|qd rfl (fun _ S=>(aF dB rfl))<|qd rfl (fun _ S=>(aF cS rfl))<|qd rfl (fun _ S=>aE dY rfl (boxM.rd S (i:=2) G G))<|qr 1 rfl<|qd rfl (fun _ S=>aW cJ dG G G (hy.us.adr (by omega)) (by omega))<|qd rfl (fun _ S=>(aS mX dG rfl S hy.us (by omega) (by omega)))<|qd rfl (fun _ S=>(aF sA rfl))<|qd rfl (fun _ S=>(aD Od Is rfl S (i:=0) G G))<|qr 2 rfl<|qd rfl (fun _ S=>(aF dB rfl))<|qd rfl (fun _ S=>(aF cN rfl))<|qd rfl (fun _ S=>aE aA rfl (boxM.rd S (i:=2) G G))<|qK ?_;clear H a;intro a H
   refine aZ rfl ?_
   rw [←hD] at H
   refine aC H G G Try.func87 G G (Qu (y.us.getD i Unt.zero) (jobF l i) y.days.toNat _ ((hy.rt i hi).now S) (hyb.rtn hi) ((hy.ul i hi).now S) (hyb.uln hi) (hyb.cap i hi) (hok.unit hi).i (hok.old hi) (fun d=>Qf _ _ _) (by omega)) ?_;clear H a
   rintro _ _ a ⟨rfl,S2⟩ H
   replace S:=S.call S2;clear S2
   refine wpList_nil (And.intro (S.sel [1,2,3,4,5,6] G G) ?_)
   refine aZ rfl ?_
   refine aG H S (i:=0) G G G G dZ G G ?_
   clear H a S;intro _ a S H
   refine wpList_nil (And.intro (S.sel [1,2,3,4,5,6] G G) ?_)
   refine cM ?_
   refine k17 _ _ ?_
   clear k17 K17
   replace H:=H.keep [0,6,7,10] rfl
   refine kZ 6 (by kernel_rfl) (by kernel_rfl) ?_
   replace S:=S.drew
   refine sF H<|sr 2 rfl<|sf rU rfl<|sl S 3 wF G G G<|sd ((aD wJ rR rfl S (i:=1) G G))<|sd ((aD iA dZ rfl S (i:=0) G G))<|sE ?_;clear H a;intro a H
   refine eX (k:=keyOf i (jobF l i)) (livP y) H S (i:=4) rfl Aw keyOK G G G (fun h e=>by subst e;exact Lm (by omega) rfl h hh0) ?_;clear H a S;intro _ a S H
   refine k15 _ _ ?_
   refine aB fun K19 k19=>?_
   refine ls 1 H<|sd ((aD iA dZ rfl S (i:=0) G G))<|sE ?_;clear H a;intro a H
   refine aG H S (i:=2) G G G G dZ G G ?_
   clear H a S;intro _ a S H
   refine k19 _ _ ?_;clear k19 K19
   refine wp_ret ?_
   refine retA (fn:=Try.f64) rfl H rfl iA (by exact dZ) (cB S (i:=2) rfl) ?_
   exact ⟨rfl,(S.sel [3,4,5,6] G G)⟩
  skip
  cases hc3
 obtain rfl:=hh0 _ _ _ hi hk0
 replace H:=H.keep [0,1,6,7] rfl
 replace S:=S.drew
 refine dP [(0,true),(1,true),(2,true),(3,true),(4,true),(5,true),(6,true),(7,true),(8,true),(9,false),(10,false),(11,true)] (by kernel_rfl) (by kernel_rfl) (S.sel [0,1,2,3,4,5] G G) fun K20 k20=>?_
 refine qF H<|qr 2 rfl<|qd rfl (fun _ S=>(aF rU rfl))<|qd rfl (fun _ S=>aE wF rfl (boxM.rd S (i:=2) G G))<|qd rfl (fun _ S=>(aD wJ rR rfl S (i:=0) G G))<|qd rfl (fun _ S=>eO S (i:=3) rfl Aw keyOK Jj rfl (k:=keyOf i (jobF l i)) rfl (fun h e=>by subst e;rw [hk0];exact ⟨rfl,rfl⟩))<|qr 3 rfl<|qK ?_;clear H a;intro a H
 refine aZ rfl ?_
 refine aM H rfl S jU ?_;clear H a S;intro b10 _ a hb10 hbw10 S H
 refine wpList_nil (And.intro (S.sel [1,2,3,4,5,6] G G) ?_)
 refine aZ rfl ?_
 refine aG H S (i:=0) G G G G dZ G G ?_
 clear H a S;intro _ a S H
 refine wpList_nil (And.intro (S.sel [1,2,3,4,5,6] G G) ?_)
 refine qF H<|qr 1 rfl<|qK ?_;clear H a;intro a H
 refine cM ?_
 refine k20 _ _ ?_
 clear k20 K20
 refine wp_seq_k fun K21 k21=>?_
 replace H:=H.keep [0,1,6,7,10,11] rfl
 refine sS H fun K22 k22=>sr 2 rfl<|sE ?_;clear H a;intro a H
 refine k22 _ ?_;clear k22 K22
 refine aT H rfl (fun hc4=>?_) (fun hc4=>?_)
 ·skip
  skip
  cases hc4
 skip
 refine wp_skip ?_
 refine k21 _ _ ?_
 refine aB fun K23 k23=>?_
 refine ls 1 H<|sd ((aD iA dZ rfl S (i:=0) G G))<|sE ?_;clear H a;intro a H
 refine aG H S (i:=2) G G G G dZ G G ?_
 clear H a S;intro _ a S H
 refine k23 _ _ ?_;clear k23 K23
 refine wp_ret ?_
 refine retA (fn:=Try.f64) rfl H rfl iA (by exact dZ) (cB S (i:=2) rfl) ?_
 replace S:=mapK.weak S (i:=4) rfl (Φ':=livP y) (fun g e=>by subst e;exact hh0)
 exact ⟨rfl,(S.sel [3,4,5,6] G G)⟩
end
section
theorem Ea {l:List Int} (h:∀ k,k<l.length→0≤l.getD k 0∧l.getD k 0≤1000):∀ k,k≤l.length→0≤sumI l k∧sumI l k≤1000*k:=by
  intro k
  induction k with
  | zero=>intro _;simp [sumI,sm]
  | succ k ih=>
    intro hk
    have h1:=ih (by omega)
    have h2:=h k (by omega)
    unfold sumI at *
    rw [sm]
    push_cast
    omega
theorem Gv (P T:Nat) (ps:List Psg) (PA:Option Addr) (pc:Nat) (xs:List Int) (XA:Option Addr) (xc:Nat) (out:Int) (pe:List Int) (BA:Option Addr) (bc:Nat) (w:World) (hps:InS w noF 7 PA ps.length (pcell ps)) (hpn:ps.length≤9223372036854775807) (hxs:InS w noF 1 XA xs.length (icl xs)) (hxn:xs.length≤9223372036854775807) (hpe:InS w noF 1 BA pe.length (icl pe)) (hpl:pe.length=P) (hV:StV P ps xs) (hou:0≤out∧out≤4095) (hpp:∀ k,k<pe.length→0≤pe.getD k 0∧pe.getD k 0≤1000) (hT:T≤60) :
    Calls Try.prog 67 [.agg [.int .i64 (P:Int),.slice PA ps.length pc,.slice XA xs.length xc].toArray,.int .i64 out,.slice BA pe.length bc,.int .i64 (T:Int)].toArray w (Ret fun u w'=>∃ b31 EA A' c',u = .pointer (some ⟨b31,0,none⟩)∧St w noF [boxM b31 157 [.int .i64 (P:Int),.slice PA ps.length pc,.slice XA xs.length xc,.int .i64 (T:Int),.slice EA (layN P T pe xs (hds out xs ps)).k (layN P T pe xs (hds out xs ps)).k,.int .i64 (((P*(T+1)):Nat):Int),.int .i64 (((P*(T+1))+1:Nat):Int)],ownM 175 1 EA (layN P T pe xs (hds out xs ps)).k (layN P T pe xs (hds out xs ps)).k (hdc A' (layN P T pe xs (hds out xs ps)).n c'),ragM 177 7 (fun q=>q<(layN P T pe xs (hds out xs ps)).k) A' (layN P T pe xs (hds out xs ps)).n c' (edgeC (layN P T pe xs (hds out xs ps)) (layT P T pe xs (hds out xs ps)).room (layT P T pe xs (hds out xs ps)).mv)] w'):=by
  have h:=Kg P T ps PA pc xs XA xc out pe BA bc w hps hpn hxs hxn (fun k hk h3=>by have:=bX.1 (hV.pas k hk);omega) hou.1 hpe hpl (by have:=hV.size;omega) hT hV.size.2.2 (sG hV)
  refine pN h fun u w' ⟨b31,EA,A',c',h1,S⟩=>⟨b31,EA,A',c',h1,?_⟩
  rw [Az (joins (jAll P T pe xs (hds out xs ps))) (P*(T+1)+2)] at S
  exact S
theorem Gw (pl:Int) (ps:List Psg) (PA:Option Addr) (pc:Nat) (xs:List Int) (XA:Option Addr) (xc:Nat) (out:Int) (pe:List Int) (BA:Option Addr) (bc:Nat) (T0:Int) (w:World) (hps:InS w noF 7 PA ps.length (pcell ps)) (hpn:ps.length≤9223372036854775807) (hxs:InS w noF 1 XA xs.length (icl xs)) (hxn:xs.length≤9223372036854775807) (hpe:InS w noF 1 BA pe.length (icl pe)) (hpen:pe.length≤9223372036854775807) :
    Calls Try.prog 86 [.agg [.int .i64 pl,.slice PA ps.length pc,.slice XA xs.length xc].toArray,.int .i64 out,.slice BA pe.length bc,.int .i64 T0].toArray w (Ret (fun u w'=>(dL pl ps xs out pe T0≠0∧u = .tuple #[.int .i64 0,.int .i64 (dL pl ps xs out pe T0)]∧St w noF [] w')∨(dL pl ps xs out pe T0=0∧u = .tuple #[.int .i64 (mfv pl.toNat T0.toNat pe xs (hds out xs ps)),.int .i64 0]∧St w noF [] w'))):=by
 refine enter Try.func86 rfl Try.ntmps86 rfl (fun a H=>?_)
 have S:=St.start w
 refine aB fun K1 k1=>?_
 refine aP H rfl S G G ?_;clear H a S;intro b4 _ a hb4 hbw4 S H
 refine ls 2 H<|sr 2 rfl<|sE ?_;clear H a;intro a H
 refine k1 _ _ ?_;clear k1 K1
 refine wp_seq_k fun K2 k2=>?_
 refine aB fun K3 k3=>?_
 refine ls 4 H<|sd ((aD cG dN rfl S (i:=0) G G))<|sr 3 rfl<|sE ?_;clear H a;intro a H
 refine aC H G G Try.func101 G G (wT pl ps PA pc xs XA xc out pe BA bc T0 _ (hps.now S) hpn (hxs.now S) hxn (hpe.now S) hpen) ?_;clear H a
 rintro _ _ a ⟨rfl,S2⟩ H
 replace S:=S.call S2;clear S2
 refine ls 1 H<|sr 1 rfl<|sE ?_;clear H a;intro a H
 refine k3 _ _ ?_;clear k3 K3
 replace H:=H.keep [1,2,3,4,10] rfl
 refine sS H fun K4 k4=>sr 2 rfl<|sE ?_;clear H a;intro a H
 refine k4 _ ?_;clear k4 K4
 refine condN H rfl (fun hc1=>?_) (fun hc1=>?_)
 ·skip
  refine sS H fun K5 k5=>sr 3 rfl<|sE ?_;clear H a;intro a H
  refine k5 _ ?_;clear k5 K5
  refine wp_ret ?_
  refine ret2 (fn:=Try.f86) rfl H G G ?_
  exact .inl ⟨hc1,rfl,(S.sel [] G G)⟩
 obtain ⟨hst,hou,hcr,hti⟩:=pO hc1
 have hV0:=iK hst
 obtain ⟨P,rfl⟩:∃ P:Nat,pl=P:=⟨pl.toNat,by have:=hV0.size;omega⟩
 have hV:=hV0
 obtain ⟨hpp,hpl'⟩:=sH hcr
 have hpl:pe.length=P:=by omega
 obtain ⟨T,rfl⟩:∃ T:Nat,T0=T:=⟨T0.toNat,by omega⟩
 have hT:T≤60:=by omega
 have hO9:=sK (T:=T) (out:=out) hV hpp
 have hC:P*(T+1)≤10*61:=Nat.mul_le_mul (by have:=hV.size;omega) (by omega)
 refine wp_skip ?_
 refine k2 _ _ ?_
 replace H:=H.keep [1,2,3,4] rfl
 refine aB fun K6 k6=>?_
 refine ls 4 H<|sd ((aD cG dN rfl S (i:=0) G G))<|sr 3 rfl<|sE ?_;clear H a;intro a H
 refine aC H G G Try.func67 G G (Gv P T ps PA pc xs XA xc out pe BA bc _ (hps.now S) hpn (hxs.now S) hxn (hpe.now S) hpl hV hou hpp hT) ?_;clear H a
 rintro _ _ a ⟨b31,EA,A',c',rfl,S2⟩ H
 replace S:=S.call S2;clear S2
 have S1:=(S.sel [0,1,2] G G)
 refine aC H G G Try.func68 G G (Jy (layN P T pe xs (hds out xs ps)) (layT P T pe xs (hds out xs ps)).room (layT P T pe xs (hds out xs ps)).mv b31 (P:Int) (T:Int) _ _ EA A' c' (P*(T+1)) ((P*(T+1))+1) _ _ S1.startR hO9.wf hO9.ok (by show _<P*(T+1)+2;omega) (by show _<P*(T+1)+2;omega) (by omega) (by show P*(T+1)+2≤_;omega) (by have:=hO9.beg;have:=hV.size;omega)) ?_;clear H a
 rintro _ _ a ⟨v,r,rfl,hF,h0v,⟨L,hLv,hLx⟩,S2⟩ H
 replace S:=(S.sel [0,1,2,3] G G).callR (M:=[_,_,_]) S2;clear S1 S2
 refine ls 2 H<|sr 2 rfl<|sE ?_;clear H a;intro a H
 refine k6 _ _ ?_;clear k6 K6
 refine wp_ret ?_
 refine ret2 (fn:=Try.f86) rfl H G G ?_
 have hE:EndP P T pe xs (hds out xs ps) v r L:=⟨hF,h0v,hLv,hLx⟩
 rw [Int.toNat_natCast,Int.toNat_natCast,Be hO9 hE]
 exact .inr ⟨hc1,rfl,(S.sel [] G G)⟩
end
section
theorem Mb {y:Yr} {out:Int} {w w':World} {u:Value} (hl:dL y.pl y.ps y.xs out y.pe y.limit=0) (h:(dL y.pl y.ps y.xs out y.pe y.limit≠0∧u = .tuple #[.int .i64 0,.int .i64 (dL y.pl y.ps y.xs out y.pe y.limit)]∧St w noF [] w')∨(dL y.pl y.ps y.xs out y.pe y.limit=0∧u = .tuple #[.int .i64 (mfv y.pl.toNat y.limit.toNat y.pe y.xs (hds out y.xs y.ps)),.int .i64 0]∧St w noF [] w')):∃ n:Int,u = .tuple #[.int .i64 n,.int .i64 0]∧leavB y out=decide (n=sumI y.pe y.pe.length)∧St w noF [] w':=by
  rcases h with ⟨h0,_⟩|⟨_,rfl,S⟩
  · exact absurd hl h0
  · exact ⟨_,rfl,rfl,S⟩
theorem Eb {y:Yr} {out fr to:Int} {help:Bool} {w w':World} {u:Value} (ha:askE y.pl y.ps y.xs out [fr,to]=0) (h:(askE y.pl y.ps y.xs out [fr,to]≠0∧u = .tuple #[.int .i64 0,.slice none 0 0,.int .i64 (askE y.pl y.ps y.xs out [fr,to])]∧St w noF [] w')∨(askE y.pl y.ps y.xs out [fr,to]=0∧FarOk y.pl.toNat y.ps out help to.toNat (dst y.pl.toNat y.ps out help to.toNat)∧((dst y.pl.toNat y.ps out help to.toNat fr.toNat<0∧u = .tuple #[.int .i64 0,.slice none 0 0,.int .i64 3]∧St w noF [] w')∨(0≤dst y.pl.toNat y.ps out help to.toNat fr.toNat∧∃ A c,u = .tuple #[.int .i64 (dst y.pl.toNat y.ps out help to.toNat fr.toNat),.slice A (wayL y.pl.toNat y.ps out help fr.toNat to.toNat).length c,.int .i64 0]∧St w noF [ownM 3 1 A (wayL y.pl.toNat y.ps out help fr.toNat to.toNat).length c (wcl (wayL y.pl.toNat y.ps out help fr.toNat to.toNat))] w')))):∃ (t e:Int) (A:Option Addr) (n c:Nat),u = .tuple #[.int .i64 t,.slice A n c,.int .i64 e]∧(decide (e=0)=decide (0≤dst y.pl.toNat y.ps out help to.toNat fr.toNat))∧St w noF [] w':=by
  rcases h with ⟨h0,_⟩|⟨_,_,⟨h1,rfl,S⟩|⟨h1,A,c,rfl,S⟩⟩
  · exact absurd ha h0
  · exact ⟨0,3,none,0,0,rfl,by rw [decide_eq_false (show ¬ 0≤dst y.pl.toNat y.ps out help to.toNat fr.toNat by omega)];rfl,S⟩
  · exact ⟨_,0,A,_,c,rfl,by rw [decide_eq_true h1];rfl,S.sel [] rfl rfl⟩
theorem lt40 {m:Int} (h:m≤4095):m<2^40:=by
  have e9:(2:Int)^40=1099511627776:=by decide
  omega
theorem Mc {y:Yr} {l:List Tsk} {k q:Nat}:setsQ y l k q q 0 = .int .i64 (outY y l q k):=by unfold setsQ;rw [if_neg (Nat.lt_irrefl q)]
theorem sets0 {y:Yr} {l:List Tsk} {k j:Nat} (hj:j<1):([Value.int .i64 0]:List Value).getD j undef=setsV y l 0 k j:=by
  have:j=0:=by omega
  subst this
  rfl
theorem Qv {m:Int} (h:0≤m∧m≤11):i64ok (1*2^m.toNat):=by
  have:=Bv (d:=m.toNat) (by omega)
  rw [Int.toNat_natCast] at this
  exact this
section
variable {y:Yr} {d out:Int} {k:Nat} {b:Bool} {e:Int}
theorem Gx (hb:b=allN (prmB y d out) k) (h:d<(y.prs.getD k Prm.zero).first∨(y.prs.getD k Prm.zero).last<d):b=allN (prmB y d out) (k+1):=by
  have:prmB y d out k=true:=by
    unfold prmB
    rcases h with h|h
    · rw [decide_eq_false (p:=(y.prs.getD k Prm.zero).first≤d) (by omega)];rfl
    · rw [decide_eq_false (p:=d≤(y.prs.getD k Prm.zero).last) (by omega),Bool.and_false];rfl
  rw [allN,this,Bool.and_true,hb]
theorem zN (hb:b=allN (prmB y d out) k) (h:(y.prs.getD k Prm.zero).first≤d∧d≤(y.prs.getD k Prm.zero).last) (hw:decide (e=0)=decide (0≤dst y.pl.toNat y.ps out (y.help&&(y.prs.getD k Prm.zero).helped) (y.prs.getD k Prm.zero).to.toNat (y.prs.getD k Prm.zero).fr.toNat)) (he:¬ e=0):false=allN (prmB y d out) (k+1):=by
  have:prmB y d out k=false:=by
    unfold prmB
    rw [←hw,decide_eq_true h.1,decide_eq_true h.2,decide_eq_false he];rfl
  rw [allN,this,Bool.and_false]
theorem vN (hb:b=allN (prmB y d out) k) (h:(y.prs.getD k Prm.zero).first≤d∧d≤(y.prs.getD k Prm.zero).last) (hw:decide (e=0)=decide (0≤dst y.pl.toNat y.ps out (y.help&&(y.prs.getD k Prm.zero).helped) (y.prs.getD k Prm.zero).to.toNat (y.prs.getD k Prm.zero).fr.toNat)) (he:e=0):b=allN (prmB y d out) (k+1):=by
  have:prmB y d out k=true:=by
    unfold prmB
    rw [←hw,decide_eq_true he,Bool.or_true]
  rw [allN,this,Bool.and_true,hb]
end
theorem Md {y:Yr} (h:YOk y) {out:Int} (ho:0≤out∧out≤4095) {k:Nat} (hk:k<y.prs.length):askE y.pl y.ps y.xs out [(y.prs.getD k Prm.zero).fr,(y.prs.getD k Prm.zero).to]=0:=by
  have h1:=oM h.kept
  have h2:=mD.1 (h1.2.2 k hk)
  have h3:=(oL h1.1).1
  unfold askE
  rw [if_neg (by omega),if_pos]
  rw [decide_eq_true ho,tA.2 ⟨by omega,by omega⟩]
  rfl
theorem Ec (y:Yr) (cb bl bs bk:Nat) (l:List Tsk) (LA:Option Addr) (lc:Nat) (w:World) (F:Nat→Prop) (S:St w F [boxM cb 120 [.int .i64 y.days,.int .i64 y.pl,.slice y.PA y.ps.length y.pc,.slice y.XA y.xs.length y.xc,.slice y.BA y.pe.length y.bc,.int .i64 y.limit,.bool y.help,.slice y.QA y.prs.length y.qc,.slice y.VA y.us.length y.vc,.int .i64 y.crew,.slice y.SA y.sps.length y.sc,.map (some bl),.map (some bs),.map (some bk)],mapK (encN (n:=21)) bl (livP y),mapK (fun n:Int=>Value.int .i64 n) bs (safP y),mapK enc2 bk (kepP y)] w) (hy:YIn w F y) (hyb:YBd y) (hok:YOk y) (hl:InS w F 3 LA l.length (fH l)) (hln:l.length≤9223372036854775807) (htk:∀ k,k<l.length→tskI y (l.getD k Tsk.zero)) :
    Calls Try.prog 39 [.pointer (some ⟨cb,0,none⟩),.slice LA l.length lc].toArray w (Ret (fun v w'=>∃ A c,v = .slice A y.days.toNat c∧St w F (ownM 3 1 A y.days.toNat c (setsV y l y.us.length)::[boxM cb 120 [.int .i64 y.days,.int .i64 y.pl,.slice y.PA y.ps.length y.pc,.slice y.XA y.xs.length y.xc,.slice y.BA y.pe.length y.bc,.int .i64 y.limit,.bool y.help,.slice y.QA y.prs.length y.qc,.slice y.VA y.us.length y.vc,.int .i64 y.crew,.slice y.SA y.sps.length y.sc,.map (some bl),.map (some bs),.map (some bk)],mapK (encN (n:=21)) bl (livP y),mapK (fun n:Int=>Value.int .i64 n) bs (safP y),mapK enc2 bk (kepP y)]) w')):=by
 have hmx:maxLen=9223372036854775807:=rfl
 have hdy:=hok.days;have husn:=hyb.usn
 have hD:((y.days.toNat:Nat):Int)=y.days:=by omega
 refine enter Try.func39 rfl Try.ntmps39 rfl (fun a H=>?_)
 skip
 refine sS H fun K1 k1=>sr 1 rfl<|sE ?_;clear H a;intro a H
 refine k1 _ ?_;clear k1 K1
 refine aB fun K2 k2=>?_
 refine ls 5 H<|sr 2 rfl<|sf dB rfl<|sf cN rfl<|sl S 0 aA G G G<|sE ?_;clear H a;intro a H
 rw [←hD] at H
 refine iY (n:=y.days.toNat) H rfl S aR aX fQ yA rfl (by decide) G G (by omega) (by omega) ?_;clear H a S;intro A1 _ a hA1 S H
 refine ls 1 H<|sr 1 rfl<|sE ?_;clear H a;intro a H
 refine k2 _ _ ?_;clear k2 K2
 refine wp_seq_k fun K3 k3=>?_
 replace H:=H.keep [0,1,5] rfl
 refine sS H fun K4 k4=>sr 2 rfl<|sf dB rfl<|sf cS rfl<|sl S 1 dY G G G<|sL cJ rfl<|sr 1 rfl<|sE ?_;clear H a;intro a H
 refine k4 _ ?_;clear k4 K4
 refine wp_block ?_
 replace S:=S.recell (i:=0) rfl (cell':=setsV y l 0) (fun k9 j9 hk9 hj9=>sets0 hj9)
 refine loop_st (X:=Nat) (R0:=_) [0,1,5,20,21] H rfl (fun k=>[(22,.int .i64 (k:Int))]) (fun k=>[ownM 3 1 A1 y.days.toNat y.days.toNat (setsV y l k)]) (fun g k=>k≤y.us.length∧g+k=y.us.length) (y.us.length) 0 ?_ (S.sel [0,1,2,3,4] G G) (H.keep [22,0,1,5,20,21] rfl) ?_
 · exact ⟨by omega,by omega⟩
 clear H S a
 intro g1 x1 a w1 hp S H K5 k5
 obtain ⟨k,rfl⟩:∃ y,y=x1:=⟨_,rfl⟩
 refine sS H fun K6 k6=>sr 1 rfl<|sE ?_;clear H a;intro a H
 refine k6 _ ?_;clear k6 K6
 refine wp_seq_k fun K7 k7=>?_
 refine condL H rfl (fun hc1=>?_) (fun hc1=>?_)
 ·skip
  refine wp_skip ?_
  refine k7 _ _ ?_
  refine wp_seq_k fun K8 k8=>?_
  refine wp_block ?_
  refine aB fun K9 k9=>?_
  refine ls 3 H<|sr 1 rfl<|si cJ dG G G (hy.us.adr (by omega)) (by omega)<|sd ((aS mX dG rfl S hy.us (by omega) (by omega)))<|sE ?_;clear H a;intro a H
  refine aM H rfl S fY ?_;clear H a S;intro b7 _ a hb7 hbw7 S H
  refine ls 1 H<|sr 1 rfl<|sE ?_;clear H a;intro a H
  refine aG H S (i:=0) G G G G dG G G ?_
  clear H a S;intro _ a S H
  refine k9 _ _ ?_;clear k9 K9
  replace H:=H.keep [0,1,5,6,7,20,21,22] rfl
  refine aB fun K10 k10=>?_
  refine ls 3 H<|sr 3 rfl<|sE ?_;clear H a;intro a H
  refine aC H G G Try.func64 G G (zM y cb bl bs bk k l LA lc _ _ ((S.sel [2,3,4,5] G G).startR) (hy.nowR (S.sel [2,3,4,5] G G)) hyb hok (by omega) (hl.nowR (S.sel [2,3,4,5] G G)) hln htk) ?_;clear H a
  rintro _ _ a ⟨rfl,S2⟩ H
  replace S:=St.callR (M:=[_,_,_,_]) (S.sel [2,3,4,5,0,1] G G) S2;clear S2
  refine aM H rfl S jU ?_;clear H a S;intro b8 _ a hb8 hbw8 S H
  refine aG H S (i:=0) G G G G dZ G G ?_
  clear H a S;intro _ a S H
  refine k10 _ _ ?_;clear k10 K10
  refine sS H fun K11 k11=>sr 1 rfl<|sL aR rfl<|sr 1 rfl<|sE ?_;clear H a;intro a H
  refine k11 _ ?_;clear k11 K11
  refine wp_block ?_
  rw [←Ca] at S
  refine loop_st (X:=Nat) (R0:=_) [0,1,5,7,8,20,21,22,32] H rfl (fun q=>[(33,.int .i64 (q:Int))]) (fun q=>[ownM 3 1 A1 y.days.toNat y.days.toNat (setsQ y l k q)]) (fun g q=>q≤y.days.toNat∧g+q=y.days.toNat) (y.days.toNat) 0 ?_ (S.sel [6,0,1,2,3,4,5] G G) (H.keep [33,0,1,5,7,8,20,21,22,32] rfl) ?_
  · exact ⟨by omega,by omega⟩
  clear H S a
  intro g2 x2 a w2 hp S H K12 k12
  obtain ⟨q,rfl⟩:∃ y,y=x2:=⟨_,rfl⟩
  refine sS H fun K13 k13=>sr 1 rfl<|sE ?_;clear H a;intro a H
  refine k13 _ ?_;clear k13 K13
  refine wp_seq_k fun K14 k14=>?_
  refine condL H rfl (fun hc2=>?_) (fun hc2=>?_)
  ·skip
   refine wp_skip ?_
   refine k14 _ _ ?_
   refine wp_seq_k fun K15 k15=>?_
   refine wp_block ?_
   refine sS H fun K16 k16=>sr 2 rfl<|sE ?_;clear H a;intro a H
   refine k16 _ ?_;clear k16 K16
   have hmk:=gM hok.V (hok.unit (show k<y.us.length by omega))
   refine sS H fun K17 k17=>sf oF rfl<|sl S 1 aA G G G<|sr 1 rfl<|sd (iI G G (by omega) (by omega))<|sd (gI G G)<|sr 1 rfl<|sE ?_;clear H a;intro a H
   refine k17 _ ?_;clear k17 K17
   refine condE H rfl (fun hc3=>?_) (fun hc3=>?_)
   ·skip
    have hrn:=Wq (y:=y) (l:=l) (k:=k) (show q<y.days.toNat by omega) hc3
    have hob:=xD (l:=l) (d:=q) hok (show k≤y.us.length by omega)
    replace H:=H.keep [0,1,5,7,8,9,20,21,22,32,33] rfl
    refine kZ 9 (by kernel_rfl) (by kernel_rfl) ?_
    replace S:=S.drew
    refine sF H<|sr 2 rfl<|si aR aX G G (ownM.adr S (i:=0) rfl (by omega)) (by omega)<|sd ((aE aA rfl (ownM.rd S (i:=0) (k:=q) (j:=0) rfl (by omega) (by omega))).to Mc)<|sf kM rfl<|sl S 6 aA G G G<|sd (nN G G (by omega) (by omega) (Qv hmk.1))<|sd (tR G G ⟨hob.1,lt40 hob.2⟩ (by omega) (Bz hok (by omega)))<|si aR aX G G (ownM.adr S (i:=0) rfl (by omega)) (by omega)<|sE ?_;clear H a;intro a H
    refine bN H S (i:=0) G G G (by omega) (by omega) aX rfl ?_
    clear H a S;intro _ a S H
    refine k15 _ _ ?_
    replace H:=H.keep [0,1,5,7,8,20,21,22,32,33] rfl
    refine sO H<|sd (aI G G (by unfold i64ok;omega))<|sr 1 rfl<|sE ?_;clear H a;intro a H
    replace S:=S.recell (i:=0) rfl (cell':=setsQ y l k (q+1)) (fun k9 j9 hk9 hj9=>Gp hrn rfl k9 j9 hj9)
    exact k12 (g2-1) (q+1) a _ (by omega) (⟨by omega,by omega⟩) (S.sel [0,1,2,3,4,5,6] G G) (H.keep [33,0,1,5,7,8,20,21,22,32] rfl)
   refine wp_skip ?_
   refine k15 _ _ ?_
   refine sO H<|sd (aI G G (by unfold i64ok;omega))<|sr 1 rfl<|sE ?_;clear H a;intro a H
   rw [Gn (Wr (show q<y.days.toNat by omega) hc3)] at S
   exact k12 (g2-1) (q+1) a _ (by omega) (⟨by omega,by omega⟩) (S.sel [0,1,2,3,4,5,6] G G) (H.keep [33,0,1,5,7,8,20,21,22,32] rfl)
  refine wp_exit ?_
  refine k8 _ _ ?_
  refine sO H<|sd (aI G G (by unfold i64ok;omega))<|sr 1 rfl<|sE ?_;clear H a;intro a H
  obtain rfl:q=y.days.toNat:=by omega
  replace S:=S.recell (i:=0) rfl (cell':=setsV y l (k+1)) Gm
  exact k5 (g1-1) (k+1) a _ (by omega) (⟨by omega,by omega⟩) (S.sel [0,2,3,4,5] G G) (H.keep [22,0,1,5,20,21] rfl)
 refine wp_exit ?_
 refine k3 _ _ ?_
 refine sS H fun K22 k22=>sr 2 rfl<|sE ?_;clear H a;intro a H
 refine k22 _ ?_;clear k22 K22
 refine wp_ret ?_
 refine ret1 (fn:=Try.f39) rfl H rfl ?_
 obtain rfl:k=y.us.length:=by omega
 exact ⟨_,_,rfl,(S.sel [0,1,2,3,4] G G)⟩
theorem Cg (y:Yr) (cb bl bs bk:Nat) (out:Int) (w:World) (F:Nat→Prop) (S:St w F [boxM cb 120 [.int .i64 y.days,.int .i64 y.pl,.slice y.PA y.ps.length y.pc,.slice y.XA y.xs.length y.xc,.slice y.BA y.pe.length y.bc,.int .i64 y.limit,.bool y.help,.slice y.QA y.prs.length y.qc,.slice y.VA y.us.length y.vc,.int .i64 y.crew,.slice y.SA y.sps.length y.sc,.map (some bl),.map (some bs),.map (some bk)],mapK (encN (n:=21)) bl (livP y),mapK (fun n:Int=>Value.int .i64 n) bs (safP y),mapK enc2 bk (kepP y)] w) (hy:YIn w F y) (hyb:YBd y) (hok:YOk y) (ho:0≤out∧out≤4095) :
    Calls Try.prog 63 [.pointer (some ⟨cb,0,none⟩),.int .i64 out].toArray w (Ret (fun v w'=>v = .bool (leavB y out)∧St w F [boxM cb 120 [.int .i64 y.days,.int .i64 y.pl,.slice y.PA y.ps.length y.pc,.slice y.XA y.xs.length y.xc,.slice y.BA y.pe.length y.bc,.int .i64 y.limit,.bool y.help,.slice y.QA y.prs.length y.qc,.slice y.VA y.us.length y.vc,.int .i64 y.crew,.slice y.SA y.sps.length y.sc,.map (some bl),.map (some bs),.map (some bk)],mapK (encN (n:=21)) bl (livP y),mapK (fun n:Int=>Value.int .i64 n) bs (safP y),mapK enc2 bk (kepP y)] w')):=by
 have hmx:maxLen=9223372036854775807:=rfl
 have hdy:=hok.days;have husn:=hyb.usn
 have hD:((y.days.toNat:Nat):Int)=y.days:=by omega
 have hpel:y.pe.length≤1000∧∀ k,k<y.pe.length→0≤y.pe.getD k 0∧y.pe.getD k 0≤1000:=⟨by have h1:=hok.yr.2.1.1;have h2:=hok.V.size;omega,hok.yr.2.1.2⟩
 refine enter Try.func63 rfl Try.ntmps63 rfl (fun a H=>?_)
 skip
 refine sS H fun K1 k1=>sr 1 rfl<|sE ?_;clear H a;intro a H
 refine k1 _ ?_;clear k1 K1
 obtain ⟨h0,hh0,S⟩:=mapK.fix S (i:=2) rfl
 rcases hk0:h0 out with _|v0
 ·skip
  skip
  replace H:=H.keep [0,1] rfl
  refine sS H fun K2 k2=>sr 2 rfl<|sf rV rfl<|sl S 0 wG G G G<|sr 1 rfl<|sd (eO S (i:=2) rfl pM (fM rfl) Oi rfl (k:=out) rfl (fun h e=>by subst e;rw [hk0];exact ⟨rfl,rfl⟩))<|sr 5 rfl<|sE ?_;clear H a;intro a H
  refine k2 _ ?_;clear k2 K2
  refine wp_seq_k fun K3 k3=>?_
  replace H:=H.keep [0,1,5,6] rfl
  refine sS H fun K4 k4=>sr 2 rfl<|sE ?_;clear H a;intro a H
  refine k4 _ ?_;clear k4 K4
  refine aT H rfl (fun hc1=>?_) (fun hc1=>?_)
  ·skip
   skip
   refine sS H fun K5 k5=>sr 1 rfl<|sE ?_;clear H a;intro a H
   refine k5 _ ?_;clear k5 K5
   refine wp_seq_k fun K6 k6=>?_
   replace H:=H.keep [0,1,7] rfl
   refine sS H fun K7 k7=>sr 2 rfl<|sf dB rfl<|sf jO rfl<|sl S 0 dQ G G G<|sL aR rfl<|sr 1 rfl<|sE ?_;clear H a;intro a H
   refine k7 _ ?_;clear k7 K7
   refine wp_block ?_
   refine loop_st (X:=Nat) (R0:=_) [0,1,27,28] H rfl (fun k=>[(7,.int .i64 (sumI y.pe k)),(29,.int .i64 (k:Int))]) (fun k=>[]) (fun g k=>k≤y.pe.length∧g+k=y.pe.length) (y.pe.length) 0 ?_ (S.sel [0,1,2,3] G G) (H.keep [7,29,0,1,27,28] rfl) ?_
   · exact ⟨by omega,by omega⟩
   clear H S a
   intro g1 x1 a w1 hp S H K8 k8
   obtain ⟨k,rfl⟩:∃ y,y=x1:=⟨_,rfl⟩
   refine sS H fun K9 k9=>sr 1 rfl<|sE ?_;clear H a;intro a H
   refine k9 _ ?_;clear k9 K9
   refine wp_seq_k fun K10 k10=>?_
   refine condL H rfl (fun hc2=>?_) (fun hc2=>?_)
   ·skip
    refine wp_skip ?_
    refine k10 _ _ ?_
    refine wp_seq_k fun K11 k11=>?_
    refine wp_block ?_
    refine sS H fun K12 k12=>si aR aX G G (hy.pe.adr (by omega)) (by omega)<|slm aA rfl (hy.pe.rd S (by omega) (by omega))<|sr 1 rfl<|sE ?_;clear H a;intro a H
    refine k12 _ ?_;clear k12 K12
    have hsb:=Ea hpel.2 k (by omega);have hsk:=hpel.2 k (by omega)
    refine sO H<|sr 2 rfl<|sd (aI G G (by unfold i64ok;omega))<|sr 1 rfl<|sE ?_;clear H a;intro a H
    refine k11 _ _ ?_
    replace H:=H.keep [0,1,7,27,28,29] rfl
    refine sO H<|sd (aI G G (by unfold i64ok;omega))<|sr 1 rfl<|sE ?_;clear H a;intro a H
    exact k8 (g1-1) (k+1) a _ (by omega) (⟨by omega,by omega⟩) (S.sel [0,1,2,3] G G) (H.keep [7,29,0,1,27,28] rfl)
   refine wp_exit ?_
   refine k6 _ _ ?_
   replace H:=H.keep [0,1,7] rfl
   replace S:=S.drew
   refine dP [(0,true),(1,true),(2,true),(3,true),(4,true),(5,true),(6,true),(7,true),(8,true),(9,true),(10,true),(11,true),(12,true),(13,true),(14,true),(15,true),(16,false),(17,true),(18,true),(19,true),(20,true),(21,true)] (by kernel_rfl) (by kernel_rfl) (S.sel [0,1,2,3] G G) fun K15 k15=>?_
   refine qF H<|qr 2 rfl<|qd rfl (fun _ S=>(aF dB rfl))<|qd rfl (fun _ S=>(aF eQ rfl))<|qd rfl (fun _ S=>(aD cG dN rfl S (i:=0) G G))<|qr 3 rfl<|qd rfl (fun _ S=>(aF dB rfl))<|qd rfl (fun _ S=>(aF jO rfl))<|qd rfl (fun _ S=>aE dQ rfl (boxM.rd S (i:=0) G G))<|qr 2 rfl<|qd rfl (fun _ S=>(aF dB rfl))<|qd rfl (fun _ S=>(aF lZ rfl))<|qd rfl (fun _ S=>aE aA rfl (boxM.rd S (i:=0) G G))<|qK ?_;clear H a;intro a H
   refine aZ rfl ?_
   have hcl9:=eS (Gw y.pl y.ps y.PA y.pc y.xs y.XA y.xc out y.pe y.BA y.bc y.limit _ (hy.ps.now S) hyb.psn (hy.xs.now S) hyb.xsn (hy.pe.now S) hyb.pen) (fun _ _ h=>Mb (hok.leave ho) h)
   refine aC H G G Try.func86 G G hcl9 ?_;clear H a hcl9
   rintro _ _ a ⟨n9,rfl,hlb,S2⟩ H
   replace S:=S.call S2;clear S2
   refine wpList_nil (And.intro (S.sel [0,1,2,3] G G) ?_)
   refine qF H<|qr 5 rfl<|qK ?_;clear H a;intro a H
   refine cM ?_
   refine k15 _ _ ?_
   clear k15 K15
   replace H:=H.keep [0,1,7,10] rfl
   refine sS H fun K16 k16=>sr 4 rfl<|sE ?_;clear H a;intro a H
   refine k16 _ ?_;clear k16 K16
   replace H:=H.keep [0,1,5] rfl
   refine cU ?_
   refine ls 6 H<|sr 2 rfl<|sf rV rfl<|sl S 0 wG G G G<|sr 2 rfl<|sE ?_;clear H a;intro a H
   refine eX (k:=out) (safP y) H S (i:=2) rfl pM (fM rfl) G G G (fun h e=>by subst e;exact Ln (congrArg Value.bool (by rw [hlb,show k=y.pe.length by omega])) h hh0) ?_;clear H a S;intro _ a S H
   refine k3 _ _ ?_
   refine sS H fun K18 k18=>sr 2 rfl<|sE ?_;clear H a;intro a H
   refine k18 _ ?_;clear k18 K18
   refine wp_ret ?_
   refine ret1 (fn:=Try.f63) rfl H rfl ?_
   exact ⟨congrArg Value.bool (by rw [hlb,show k=y.pe.length by omega]),(S.sel [0,1,2,3] G G)⟩
  skip
  cases hc1
 obtain rfl:=hh0 _ _ ho hk0
 replace H:=H.keep [0,1] rfl
 refine sS H fun K19 k19=>sr 2 rfl<|sf rV rfl<|sl S 0 wG G G G<|sr 1 rfl<|sd (eO S (i:=2) rfl pM (fM rfl) Oi rfl (k:=out) rfl (fun h e=>by subst e;rw [hk0];exact ⟨rfl,rfl⟩))<|sr 5 rfl<|sE ?_;clear H a;intro a H
 refine k19 _ ?_;clear k19 K19
 refine wp_seq_k fun K20 k20=>?_
 replace H:=H.keep [0,1,5,6] rfl
 refine sS H fun K21 k21=>sr 2 rfl<|sE ?_;clear H a;intro a H
 refine k21 _ ?_;clear k21 K21
 refine aT H rfl (fun hc3=>?_) (fun hc3=>?_)
 ·skip
  skip
  cases hc3
 skip
 refine wp_skip ?_
 refine k20 _ _ ?_
 refine sS H fun K22 k22=>sr 2 rfl<|sE ?_;clear H a;intro a H
 refine k22 _ ?_;clear k22 K22
 refine wp_ret ?_
 refine ret1 (fn:=Try.f63) rfl H rfl ?_
 replace S:=mapK.weak S (i:=2) rfl (Φ':=safP y) (fun g e=>by subst e;exact hh0)
 exact ⟨rfl,(S.sel [0,1,2,3] G G)⟩
theorem Gy (y:Yr) (cb bl bs bk:Nat) (d out:Int) (w:World) (F:Nat→Prop) (S:St w F [boxM cb 120 [.int .i64 y.days,.int .i64 y.pl,.slice y.PA y.ps.length y.pc,.slice y.XA y.xs.length y.xc,.slice y.BA y.pe.length y.bc,.int .i64 y.limit,.bool y.help,.slice y.QA y.prs.length y.qc,.slice y.VA y.us.length y.vc,.int .i64 y.crew,.slice y.SA y.sps.length y.sc,.map (some bl),.map (some bs),.map (some bk)],mapK (encN (n:=21)) bl (livP y),mapK (fun n:Int=>Value.int .i64 n) bs (safP y),mapK enc2 bk (kepP y)] w) (hy:YIn w F y) (hyb:YBd y) (hok:YOk y) (ho:0≤out∧out≤4095) :
    Calls Try.prog 62 [.pointer (some ⟨cb,0,none⟩),.int .i64 d,.int .i64 out].toArray w (Ret (fun v w'=>v = .bool (keepB y d out)∧St w F [boxM cb 120 [.int .i64 y.days,.int .i64 y.pl,.slice y.PA y.ps.length y.pc,.slice y.XA y.xs.length y.xc,.slice y.BA y.pe.length y.bc,.int .i64 y.limit,.bool y.help,.slice y.QA y.prs.length y.qc,.slice y.VA y.us.length y.vc,.int .i64 y.crew,.slice y.SA y.sps.length y.sc,.map (some bl),.map (some bs),.map (some bk)],mapK (encN (n:=21)) bl (livP y),mapK (fun n:Int=>Value.int .i64 n) bs (safP y),mapK enc2 bk (kepP y)] w')):=by
 have hprn:=hyb.prn
 refine enter Try.func62 rfl Try.ntmps62 rfl (fun a H=>?_)
 skip
 refine sS H fun K1 k1=>sr 1 rfl<|sE ?_;clear H a;intro a H
 refine k1 _ ?_;clear k1 K1
 obtain ⟨h0,hh0,S⟩:=mapK.fix S (i:=3) rfl
 rcases hk0:h0 (d,out) with _|v0
 ·skip
  skip
  replace H:=H.keep [0,1,2] rfl
  refine sS H fun K2 k2=>sr 2 rfl<|sf rW rfl<|sl S 0 wH G G G<|sr 2 rfl<|sd (aN Au G G)<|sd (eO S (i:=3) rfl Ax (Bu Try.underlying146 Try.underlying3 aA aX) Oi rfl (k:=(d,out)) rfl (fun h e=>by subst e;rw [hk0];exact ⟨rfl,rfl⟩))<|sr 5 rfl<|sE ?_;clear H a;intro a H
  refine k2 _ ?_;clear k2 K2
  refine wp_seq_k fun K3 k3=>?_
  replace H:=H.keep [0,1,2,7,8] rfl
  refine sS H fun K4 k4=>sr 1 rfl<|sE ?_;clear H a;intro a H
  refine k4 _ ?_;clear k4 K4
  refine aT H rfl (fun hc1=>?_) (fun hc1=>?_)
  ·skip
   skip
   cases hc1
  skip
  refine wp_skip ?_
  refine k3 _ _ ?_
  refine sS H fun K5 k5=>sr 1 rfl<|sE ?_;clear H a;intro a H
  refine k5 _ ?_;clear k5 K5
  refine wp_seq_k fun K6 k6=>?_
  refine sS H fun K7 k7=>sr 2 rfl<|sf dB rfl<|sf qS rfl<|sl S 0 wC G G G<|sL eN rfl<|sr 1 rfl<|sE ?_;clear H a;intro a H
  refine k7 _ ?_;clear k7 K7
  refine wp_block ?_
  refine loop_st (X:=Nat×Bool) (R0:=_) [0,1,2,31,32] H rfl (fun ⟨k,b⟩=>[(7,.bool b),(33,.int .i64 (k:Int))]) (fun ⟨k,b⟩=>[]) (fun g ⟨k,b⟩=>k≤y.prs.length∧g+k=y.prs.length∧b=allN (prmB y d out) k) (y.prs.length) (0,true) ?_ (S.sel [0,1,2,3] G G) (H.keep [7,33,0,1,2,31,32] rfl) ?_
  · exact ⟨by omega,by omega,rfl⟩
  clear H S a
  intro g1 x1 a w1 hp S H K8 k8
  obtain ⟨k,b⟩:=x1
  dsimp only at hp S H
  refine sS H fun K9 k9=>sr 1 rfl<|sE ?_;clear H a;intro a H
  refine k9 _ ?_;clear k9 K9
  refine wp_seq_k fun K10 k10=>?_
  refine condL H rfl (fun hc2=>?_) (fun hc2=>?_)
  ·skip
   refine wp_skip ?_
   refine k10 _ _ ?_
   refine wp_seq_k fun K11 k11=>?_
   refine wp_block ?_
   refine aB fun K12 k12=>?_
   refine ls 2 H<|si eN eJ G G (hy.prs.adr (by omega)) (by omega)<|sd ((aS wD eJ rfl S hy.prs (by omega) (by omega)))<|sE ?_;clear H a;intro a H
   refine aM H rfl S fZ ?_;clear H a S;intro b10 _ a hb10 hbw10 S H
   refine aG H S (i:=0) G G G G eJ G G ?_
   clear H a S;intro _ a S H
   refine k12 _ _ ?_;clear k12 K12
   refine wp_seq_k fun K13 k13=>?_
   replace H:=H.keep [0,1,2,7,10,31,32,33] rfl
   refine sS H fun K14 k14=>sr 1 rfl<|sf oE rfl<|sl S 0 aA G G G<|sf mB rfl<|sl S 0 aA G G G<|sc rfl Try.func60 G G (bF _ _ _ _)<|sr 1 rfl<|sE ?_;clear H a;intro a H
   refine k14 _ ?_;clear k14 K14
   refine aT H rfl (fun hc3=>?_) (fun hc3=>?_)
   ·skip
    try simp only [o1,o2,o3,o4,o5,o6,o7,o8,o9,oa] at hc3
    refine wp_exit ?_
    refine k11 _ _ ?_
    refine sO H<|sd (aI G G (by unfold i64ok;omega))<|sr 1 rfl<|sE ?_;clear H a;intro a H
    exact k8 (g1-1) (k+1,_) a _ (by omega) (⟨by omega,by omega,Gx hp.2.2 (by omega)⟩) (S.sel [1,2,3,4] G G) (H.keep [7,33,0,1,2,31,32] rfl)
   try simp only [o1,o2,o3,o4,o5,o6,o7,o8,o9,oa] at hc3
   refine wp_skip ?_
   refine k13 _ _ ?_
   rcases hhp:y.help with _|_
   ·skip
    skip
    replace H:=H.keep [0,1,2,7,10,31,32,33] rfl
    replace S:=S.drew
    refine dP [(0,true),(1,true),(2,true),(3,true),(4,true),(5,true),(6,true),(7,true),(8,true),(9,true),(10,true),(11,true),(12,true),(13,true),(14,true),(15,true),(16,true),(17,true),(18,true),(19,false),(20,true),(21,true),(22,true),(23,true),(24,true),(25,true),(26,true)] (by kernel_rfl) (by kernel_rfl) (S.sel [0,1,2,3,4] G G) fun K16 k16=>?_
    refine qF H<|qr 2 rfl<|qd rfl (fun _ S=>(aF dB rfl))<|qd rfl (fun _ S=>(aF eQ rfl))<|qd rfl (fun _ S=>(aD cG dN rfl S (i:=1) G G))<|qr 3 rfl<|qd rfl (fun _ S=>(aF dB rfl))<|qd rfl (fun _ S=>(aF Cx rfl))<|qd rfl (fun _ S=>(aE lH rfl (boxM.rd S (i:=1) G G)).to (v' := .bool false) (congrArg Value.bool hhp))<|qr 1 rfl<|qK ?_;clear H a;intro a H
    refine aQ H G G G G G ?_;clear H a;intro a H
    refine aQ H G G G G G ?_;clear H a;intro a H
    refine qF H<|qd rfl (fun _ S=>(bD G G G))<|qd rfl (fun _ S=>(aF oC rfl))<|qd rfl (fun _ S=>aE aA rfl (boxM.rd S (i:=0) G G))<|qd rfl (fun _ S=>(aF oD rfl))<|qd rfl (fun _ S=>aE aA rfl (boxM.rd S (i:=0) G G))<|qK ?_;clear H a;intro a H
    refine aZ rfl ?_
    have hcl9:=eS (yK y.pl y.ps y.PA y.pc y.xs y.XA y.xc out false (y.prs.getD k Prm.zero).fr (y.prs.getD k Prm.zero).to _ (hy.ps.now S) hyb.psn (hy.xs.now S) hyb.xsn) (fun _ _ h=>Eb (Md hok ho (show k<y.prs.length by omega)) h)
    refine aC H G G Try.func85 G G hcl9 ?_;clear H a hcl9
    rintro _ _ a ⟨t9,e9,A9,n9,c9,rfl,hwb,S2⟩ H
    replace S:=S.call S2;clear S2
    refine wpList_nil (And.intro (S.sel [0,1,2,3,4] G G) ?_)
    refine qF H<|qr 7 rfl<|qK ?_;clear H a;intro a H
    refine cM ?_
    refine k16 _ _ ?_
    clear k16 K16
    replace H:=H.keep [0,1,2,7,13,31,32,33] rfl
    refine sS H fun K17 k17=>sr 2 rfl<|sE ?_;clear H a;intro a H
    refine k17 _ ?_;clear k17 K17
    refine condN H rfl (fun hc4=>?_) (fun hc4=>?_)
    ·skip
     refine sO H<|sr 1 rfl<|sE ?_;clear H a;intro a H
     refine k11 _ _ ?_
     refine sO H<|sd (aI G G (by unfold i64ok;omega))<|sr 1 rfl<|sE ?_;clear H a;intro a H
     exact k8 (g1-1) (k+1,_) a _ (by omega) (⟨by omega,by omega,zN hp.2.2 (by omega) (by rw [hhp];exact hwb) (by omega)⟩) (S.sel [1,2,3,4] G G) (H.keep [7,33,0,1,2,31,32] rfl)
    refine wp_skip ?_
    refine k11 _ _ ?_
    refine sO H<|sd (aI G G (by unfold i64ok;omega))<|sr 1 rfl<|sE ?_;clear H a;intro a H
    exact k8 (g1-1) (k+1,_) a _ (by omega) (⟨by omega,by omega,vN hp.2.2 (by omega) (by rw [hhp];exact hwb) (by omega)⟩) (S.sel [1,2,3,4] G G) (H.keep [7,33,0,1,2,31,32] rfl)
   skip
   replace H:=H.keep [0,1,2,7,10,31,32,33] rfl
   replace S:=S.drew
   refine dP [(0,true),(1,true),(2,true),(3,true),(4,true),(5,true),(6,true),(7,true),(8,true),(9,true),(10,true),(11,true),(12,true),(13,true),(14,true),(15,true),(16,true),(17,true),(18,true),(19,false),(20,true),(21,true),(22,true),(23,true),(24,true),(25,true),(26,true)] (by kernel_rfl) (by kernel_rfl) (S.sel [0,1,2,3,4] G G) fun K21 k21=>?_
   refine qF H<|qr 2 rfl<|qd rfl (fun _ S=>(aF dB rfl))<|qd rfl (fun _ S=>(aF eQ rfl))<|qd rfl (fun _ S=>(aD cG dN rfl S (i:=1) G G))<|qr 3 rfl<|qd rfl (fun _ S=>(aF dB rfl))<|qd rfl (fun _ S=>(aF Cx rfl))<|qd rfl (fun _ S=>(aE lH rfl (boxM.rd S (i:=1) G G)).to (v' := .bool true) (congrArg Value.bool hhp))<|qr 1 rfl<|qK ?_;clear H a;intro a H
   refine aL H G G G G (fun _ S=>(aF Cz rfl)) ?_;clear H a;intro a H
   refine aL H G G G G (fun _ S=>aE lH rfl (boxM.rd S (i:=0) G G)) ?_;clear H a;intro a H
   refine qF H<|qd rfl (fun _ S=>(nO G G G))<|qd rfl (fun _ S=>(aF oC rfl))<|qd rfl (fun _ S=>aE aA rfl (boxM.rd S (i:=0) G G))<|qd rfl (fun _ S=>(aF oD rfl))<|qd rfl (fun _ S=>aE aA rfl (boxM.rd S (i:=0) G G))<|qK ?_;clear H a;intro a H
   refine aZ rfl ?_
   have hcl9:=eS (yK y.pl y.ps y.PA y.pc y.xs y.XA y.xc out (y.prs.getD k Prm.zero).helped (y.prs.getD k Prm.zero).fr (y.prs.getD k Prm.zero).to _ (hy.ps.now S) hyb.psn (hy.xs.now S) hyb.xsn) (fun _ _ h=>Eb (Md hok ho (show k<y.prs.length by omega)) h)
   refine aC H G G Try.func85 G G hcl9 ?_;clear H a hcl9
   rintro _ _ a ⟨t9,e9,A9,n9,c9,rfl,hwb,S2⟩ H
   replace S:=S.call S2;clear S2
   refine wpList_nil (And.intro (S.sel [0,1,2,3,4] G G) ?_)
   refine qF H<|qr 7 rfl<|qK ?_;clear H a;intro a H
   refine cM ?_
   refine k21 _ _ ?_
   clear k21 K21
   replace H:=H.keep [0,1,2,7,13,31,32,33] rfl
   refine sS H fun K22 k22=>sr 2 rfl<|sE ?_;clear H a;intro a H
   refine k22 _ ?_;clear k22 K22
   refine condN H rfl (fun hc5=>?_) (fun hc5=>?_)
   ·skip
    refine sO H<|sr 1 rfl<|sE ?_;clear H a;intro a H
    refine k11 _ _ ?_
    refine sO H<|sd (aI G G (by unfold i64ok;omega))<|sr 1 rfl<|sE ?_;clear H a;intro a H
    exact k8 (g1-1) (k+1,_) a _ (by omega) (⟨by omega,by omega,zN hp.2.2 (by omega) (by rw [hhp];exact hwb) (by omega)⟩) (S.sel [1,2,3,4] G G) (H.keep [7,33,0,1,2,31,32] rfl)
   refine wp_skip ?_
   refine k11 _ _ ?_
   refine sO H<|sd (aI G G (by unfold i64ok;omega))<|sr 1 rfl<|sE ?_;clear H a;intro a H
   exact k8 (g1-1) (k+1,_) a _ (by omega) (⟨by omega,by omega,vN hp.2.2 (by omega) (by rw [hhp];exact hwb) (by omega)⟩) (S.sel [1,2,3,4] G G) (H.keep [7,33,0,1,2,31,32] rfl)
  refine wp_exit ?_
  refine k6 _ _ ?_
  have hb9:b=keepB y d out:=by rw [hp.2.2,show k=y.prs.length by omega];rfl
  subst hb9
  replace H:=H.keep [0,1,2,7] rfl
  refine aB fun K26 k26=>?_
  refine ls 8 H<|sr 2 rfl<|sf rW rfl<|sl S 0 wH G G G<|sr 2 rfl<|sd (aN Au G G)<|sr 1 rfl<|sE ?_;clear H a;intro a H
  refine eX (k:=(d,out)) (kepP y) H S (i:=3) rfl Ax (Bu Try.underlying146 Try.underlying3 aA aX) G G G (fun h e=>by subst e;exact Lo rfl h hh0) ?_;clear H a S;intro _ a S H
  refine k26 _ _ ?_;clear k26 K26
  replace H:=H.keep [7] rfl
  refine sS H fun K27 k27=>sr 2 rfl<|sE ?_;clear H a;intro a H
  refine k27 _ ?_;clear k27 K27
  refine wp_ret ?_
  refine ret1 (fn:=Try.f62) rfl H rfl ?_
  exact ⟨rfl,(S.sel [0,1,2,3] G G)⟩
 obtain rfl:=hh0 _ _ _ ho hk0
 replace H:=H.keep [0,1,2] rfl
 refine sS H fun K28 k28=>sr 2 rfl<|sf rW rfl<|sl S 0 wH G G G<|sr 2 rfl<|sd (aN Au G G)<|sd (eO S (i:=3) rfl Ax (Bu Try.underlying146 Try.underlying3 aA aX) Oi rfl (k:=(d,out)) rfl (fun h e=>by subst e;rw [hk0];exact ⟨rfl,rfl⟩))<|sr 5 rfl<|sE ?_;clear H a;intro a H
 refine k28 _ ?_;clear k28 K28
 refine wp_seq_k fun K29 k29=>?_
 replace H:=H.keep [0,1,2,7,8] rfl
 refine sS H fun K30 k30=>sr 1 rfl<|sE ?_;clear H a;intro a H
 refine k30 _ ?_;clear k30 K30
 refine aT H rfl (fun hc6=>?_) (fun hc6=>?_)
 ·skip
  skip
  refine sS H fun K31 k31=>sr 2 rfl<|sE ?_;clear H a;intro a H
  refine k31 _ ?_;clear k31 K31
  refine wp_ret ?_
  refine ret1 (fn:=Try.f62) rfl H rfl ?_
  replace S:=mapK.weak S (i:=3) rfl (Φ':=kepP y) (fun g e=>by subst e;exact hh0)
  exact ⟨rfl,(S.sel [0,1,2,3] G G)⟩
 skip
 cases hc6
end
section
theorem Qw {y:Yr} (hok:YOk y) {i:Nat} (hi:i<y.us.length):0≤(y.us.getD i Unt.zero).kind∧(y.us.getD i Unt.zero).kind≤3:=by
  have h:=(hok.unit hi).i
  unfold untI at h
  exact h.2.2.1
theorem stk0 {y:Yr} {l:List Tsk} {k j:Nat} (hk:k<4) (hj:j<1):([Value.int .i64 0,Value.int .i64 0,Value.int .i64 0,Value.int .i64 0]:List Value).getD k undef=stkC y l 0 0 0 k j:=by
  have e:stkC y l 0 0 0 k j = .int .i64 0:=rfl
  rw [e]
  match k,hk with
  | 0,_=>rfl
  | 1,_=>rfl
  | 2,_=>rfl
  | 3,_=>rfl
theorem Gz (y:Yr) (cb bl bs bk:Nat) (l:List Tsk) (LA:Option Addr) (lc:Nat) (w:World) (F:Nat→Prop) (S:St w F [boxM cb 120 [.int .i64 y.days,.int .i64 y.pl,.slice y.PA y.ps.length y.pc,.slice y.XA y.xs.length y.xc,.slice y.BA y.pe.length y.bc,.int .i64 y.limit,.bool y.help,.slice y.QA y.prs.length y.qc,.slice y.VA y.us.length y.vc,.int .i64 y.crew,.slice y.SA y.sps.length y.sc,.map (some bl),.map (some bs),.map (some bk)],mapK (encN (n:=21)) bl (livP y),mapK (fun n:Int=>Value.int .i64 n) bs (safP y),mapK enc2 bk (kepP y)] w) (hy:YIn w F y) (hyb:YBd y) (hok:YOk y) (hl:InS w F 3 LA l.length (fH l)) (hln:l.length≤9223372036854775807) (htk:∀ k,k<l.length→tskI y (l.getD k Tsk.zero)) (hl60:l.length≤60) :
    Calls Try.prog 38 [.pointer (some ⟨cb,0,none⟩),.slice LA l.length lc].toArray w (Ret (fun v w'=>v = .tuple #[.int .i64 (kS y l).1,.int .i64 (kS y l).2]∧St w F [boxM cb 120 [.int .i64 y.days,.int .i64 y.pl,.slice y.PA y.ps.length y.pc,.slice y.XA y.xs.length y.xc,.slice y.BA y.pe.length y.bc,.int .i64 y.limit,.bool y.help,.slice y.QA y.prs.length y.qc,.slice y.VA y.us.length y.vc,.int .i64 y.crew,.slice y.SA y.sps.length y.sc,.map (some bl),.map (some bs),.map (some bk)],mapK (encN (n:=21)) bl (livP y),mapK (fun n:Int=>Value.int .i64 n) bs (safP y),mapK enc2 bk (kepP y)] w')):=by
 have hmx:maxLen=9223372036854775807:=rfl
 have hdy:=hok.days;have husn:=hyb.usn;have hspn:=hyb.spn
 have hD:((y.days.toNat:Nat):Int)=y.days:=by omega
 refine enter Try.func38 rfl Try.ntmps38 rfl (fun a H=>?_)
 skip
 refine sS H fun K1 k1=>sr 2 rfl<|sE ?_;clear H a;intro a H
 refine k1 _ ?_;clear k1 K1
 refine aB fun K2 k2=>?_
 refine ls 2 H<|sr 2 rfl<|sE ?_;clear H a;intro a H
 refine aC H G G Try.func39 G G (Ec y cb bl bs bk l LA lc _ _ ((S.sel [0,1,2,3] G G).startR) (hy.nowR (S.sel [0,1,2,3] G G)) hyb hok (hl.nowR (S.sel [0,1,2,3] G G)) hln htk) ?_;clear H a
 rintro _ _ a ⟨A6,c6,rfl,S2⟩ H
 replace S:=St.callR (M:=[_,_,_,_]) (S.sel [0,1,2,3] G G) S2;clear S2
 refine ls 1 H<|sr 1 rfl<|sE ?_;clear H a;intro a H
 refine k2 _ _ ?_;clear k2 K2
 refine aB fun K3 k3=>?_
 refine aM H rfl S Tg ?_;clear H a S;intro b7 _ a hb7 hbw7 S H
 refine k3 _ _ ?_;clear k3 K3
 refine wp_seq_k fun K4 k4=>?_
 replace S:=zF S (i:=0) rfl (by show 4≤maxLen;decide)
 replace S:=S.recell (i:=0) rfl (cell':=stkC y l 0 0 0) (fun k9 j9 hk9 hj9=>stk0 hk9 hj9)
 replace H:=H.keep [0,1,6,7] rfl
 refine sS H fun K5 k5=>sr 2 rfl<|sf dB rfl<|sf cN rfl<|sl S 2 aA G G G<|sr 1 rfl<|sE ?_;clear H a;intro a H
 refine k5 _ ?_;clear k5 K5
 refine wp_block ?_
 refine loop_st (X:=Nat) (R0:=_) [0,1,6,7,23] H rfl (fun d=>[(24,.int .i64 (d:Int))]) (fun d=>[ownM 121 1 (some ⟨b7,0,none⟩) 4 4 (stkC y l d 0 0)]) (fun g d=>(d≤y.days.toNat∧g+d=y.days.toNat)∧∀ q,q<d→dW y l q=0) (y.days.toNat) 0 ?_ (S.sel [0,1,2,3,4,5] G G) (H.keep [24,0,1,6,7,23] rfl) ?_
 · exact ⟨⟨by omega,by omega⟩,fun q hq=>absurd hq (Nat.not_lt_zero q)⟩
 clear H S a
 intro g1 x1 a w1 hp S H K6 k6
 obtain ⟨d,rfl⟩:∃ y,y=x1:=⟨_,rfl⟩
 obtain ⟨⟨hdl,hgd⟩,hfl⟩:=hp
 refine sS H fun K7 k7=>sr 1 rfl<|sE ?_;clear H a;intro a H
 refine k7 _ ?_;clear k7 K7
 refine wp_seq_k fun K8 k8=>?_
 refine condL H rfl (fun hc1=>?_) (fun hc1=>?_)
 ·skip
  refine wp_skip ?_
  refine k8 _ _ ?_
  refine wp_seq_k fun K9 k9=>?_
  refine wp_block ?_
  refine sS H fun K10 k10=>sr 2 rfl<|sE ?_;clear H a;intro a H
  refine k10 _ ?_;clear k10 K10
  refine wp_seq_k fun K11 k11=>?_
  replace H:=H.keep [0,1,6,7,8,23,24] rfl
  refine sS H fun K12 k12=>sr 2 rfl<|sf dB rfl<|sf kK rfl<|sl S 2 mV G G G<|sL nV rfl<|sr 1 rfl<|sE ?_;clear H a;intro a H
  refine k12 _ ?_;clear k12 K12
  refine wp_block ?_
  refine loop_st (X:=Nat) (R0:=_) [0,1,6,7,8,23,24,31,32] H rfl (fun n=>[(33,.int .i64 (n:Int))]) (fun n=>[ownM 121 1 (some ⟨b7,0,none⟩) 4 4 (stkC y l d n 0)]) (fun g n=>n≤y.sps.length∧g+n=y.sps.length) (y.sps.length) 0 ?_ (S.sel [0,1,2,3,4,5] G G) (H.keep [33,0,1,6,7,8,23,24,31,32] rfl) ?_
  · exact ⟨by omega,by omega⟩
  clear H S a
  intro g2 x2 a w2 hp S H K13 k13
  obtain ⟨n,rfl⟩:∃ y,y=x2:=⟨_,rfl⟩
  refine sS H fun K14 k14=>sr 1 rfl<|sE ?_;clear H a;intro a H
  refine k14 _ ?_;clear k14 K14
  refine wp_seq_k fun K15 k15=>?_
  refine condL H rfl (fun hc2=>?_) (fun hc2=>?_)
  ·skip
   refine wp_skip ?_
   refine k15 _ _ ?_
   refine wp_seq_k fun K16 k16=>?_
   refine wp_block ?_
   refine aB fun K17 k17=>?_
   refine ls 2 H<|si nV kJ G G (hy.sps.adr (by omega)) (by omega)<|sd ((aS wI kJ rfl S hy.sps (by omega) (by omega)))<|sE ?_;clear H a;intro a H
   refine aM H rfl S Ar ?_;clear H a S;intro b10 _ a hb10 hbw10 S H
   refine aG H S (i:=0) G G G G kJ G G ?_
   clear H a S;intro _ a S H
   refine k17 _ _ ?_;clear k17 K17
   have hsq:=lT.1 (hok.yr.2.2.2.2.2 n (by omega))
   refine sS H fun K18 k18=>sf rX rfl<|sl S 0 aA G G G<|sr 2 rfl<|sE ?_;clear H a;intro a H
   refine k18 _ ?_;clear k18 K18
   refine condE H rfl (fun hc3=>?_) (fun hc3=>?_)
   ·skip
    have hb0:=xE (d:=d) (k:=(y.sps.getD n Spr.zero).kind.toNat) hok n (by omega)
    have hb1:=xE (d:=d) (k:=(y.sps.getD n Spr.zero).kind.toNat) hok y.sps.length (Nat.le_refl _)
    have hb2:=Cc (y:=y) (l:=l) (d:=d) (k:=(y.sps.getD n Spr.zero).kind.toNat) 0
    have hb3:=Ls (l:=l) (k:=(y.sps.getD n Spr.zero).kind.toNat) hok (by omega) d
    have hb4:=hok.yr.2.2.2.2.1
    replace H:=H.keep [0,1,6,7,8,10,23,24,31,32,33] rfl
    refine kZ 8 (by kernel_rfl) (by kernel_rfl) ?_
    replace S:=S.drew
    refine sF H<|sf rY rfl<|sl S 0 aA G G G<|sd (cK Try.underlying121 aX G G (by omega) (by omega))<|slm aA rfl (ownM.rd S (i:=1) (k:=(y.sps.getD n Spr.zero).kind.toNat) (j:=0) rfl (by omega) (by omega))<|sf rZ rfl<|sl S 0 aA G G G<|sd (aI G G (by unfold i64ok;omega))<|sd (cK Try.underlying121 aX G G (by omega) (by omega))<|sE ?_;clear H a;intro a H
    refine bN H S (i:=1) (kk:=(y.sps.getD n Spr.zero).kind.toNat) (j:=0) G G G (by omega) (by omega) aX rfl ?_
    clear H a S;intro _ a S H
    refine k16 _ _ ?_
    replace H:=H.keep [0,1,6,7,8,23,24,31,32,33] rfl
    refine sO H<|sd (aI G G (by unfold i64ok;omega))<|sr 1 rfl<|sE ?_;clear H a;intro a H
    replace S:=S.recell (i:=1) rfl (cell':=stkC y l d (n+1) 0) (fun k9 j9 hk9 hj9=>Qk (q:=(y.sps.getD n Spr.zero).kind.toNat) hc3 (by omega) rfl k9 j9 hj9)
    exact k13 (g2-1) (n+1) a _ (by omega) (⟨by omega,by omega⟩) (S.sel [1,2,3,4,5,6] G G) (H.keep [33,0,1,6,7,8,23,24,31,32] rfl)
   refine wp_skip ?_
   refine k16 _ _ ?_
   refine sO H<|sd (aI G G (by unfold i64ok;omega))<|sr 1 rfl<|sE ?_;clear H a;intro a H
   rw [Ql hc3] at S
   exact k13 (g2-1) (n+1) a _ (by omega) (⟨by omega,by omega⟩) (S.sel [1,2,3,4,5,6] G G) (H.keep [33,0,1,6,7,8,23,24,31,32] rfl)
  refine wp_exit ?_
  refine k11 _ _ ?_
  refine sS H fun K22 k22=>sr 2 rfl<|sE ?_;clear H a;intro a H
  refine k22 _ ?_;clear k22 K22
  refine wp_seq_k fun K23 k23=>?_
  refine sS H fun K24 k24=>sr 1 rfl<|sL dT rfl<|sr 1 rfl<|sE ?_;clear H a;intro a H
  refine k24 _ ?_;clear k24 K24
  refine wp_block ?_
  obtain rfl:n=y.sps.length:=by omega
  refine loop_st (X:=Nat×Int×Bool) (R0:=_) [0,1,6,7,8,23,24,50,51] H rfl (fun ⟨q,jb,sh⟩=>[(11,.int .i64 jb),(12,.bool sh),(52,.int .i64 (q:Int))]) (fun ⟨q,jb,sh⟩=>[ownM 121 1 (some ⟨b7,0,none⟩) 4 4 (stkC y l d y.sps.length q)]) (fun g ⟨q,jb,sh⟩=>(q≤l.length∧g+q=l.length)∧jb=jbS l d q∧sh=shS y l d q) (l.length) (0,0,false) ?_ (S.sel [0,1,2,3,4,5] G G) (H.keep [11,12,52,0,1,6,7,8,23,24,50,51] rfl) ?_
  · exact ⟨⟨by omega,by omega⟩,rfl,rfl⟩
  clear H S a
  intro g3 x3 a w3 hp S H K25 k25
  obtain ⟨q,jb,sh⟩:=x3
  dsimp only at hp S H
  obtain ⟨⟨hql,hgq⟩,hjb9,hsh9⟩:=hp
  refine sS H fun K26 k26=>sr 1 rfl<|sE ?_;clear H a;intro a H
  refine k26 _ ?_;clear k26 K26
  refine wp_seq_k fun K27 k27=>?_
  refine condL H rfl (fun hc4=>?_) (fun hc4=>?_)
  ·skip
   refine wp_skip ?_
   refine k27 _ _ ?_
   refine wp_seq_k fun K28 k28=>?_
   refine wp_block ?_
   refine aB fun K29 k29=>?_
   refine ls 2 H<|si dT dF G G (hl.adr (by omega)) (by omega)<|sd ((aS mW dF rfl S hl (by omega) (by omega)))<|sE ?_;clear H a;intro a H
   refine aM H rfl S yB ?_;clear H a S;intro b14 _ a hb14 hbw14 S H
   refine aG H S (i:=0) G G G G dF G G ?_
   clear H a S;intro _ a S H
   refine k29 _ _ ?_;clear k29 K29
   refine wp_seq_k fun K30 k30=>?_
   have htt:=htk q (by omega);unfold tskI at htt
   refine sS H fun K31 k31=>sf cT rfl<|sl S 0 aA G G G<|sr 2 rfl<|sE ?_;clear H a;intro a H
   refine k31 _ ?_;clear k31 K31
   refine condN H rfl (fun hc5=>?_) (fun hc5=>?_)
   ·skip
    refine wp_exit ?_
    refine k28 _ _ ?_
    replace H:=H.keep [0,1,6,7,8,11,12,23,24,50,51,52] rfl
    refine sO H<|sd (aI G G (by unfold i64ok;omega))<|sr 1 rfl<|sE ?_;clear H a;intro a H
    rw [zI (fun h=>hc5 h.1)] at S
    exact k25 (g3-1) (q+1,_,_) a _ (by omega) (⟨⟨by omega,by omega⟩,Ws hjb9 hc5,Sx hsh9 (fun h=>hc5 h.1)⟩) (S.sel [1,2,3,4,5,6] G G) (H.keep [11,12,52,0,1,6,7,8,23,24,50,51] rfl)
   refine wp_skip ?_
   refine k30 _ _ ?_
   have hjb:=Ue (l:=l) (d:=d) q
   rw [←hjb9] at hjb
   refine sS H fun K33 k33=>sr 1 rfl<|sd (aI G G (by unfold i64ok;omega))<|sr 1 rfl<|sE ?_;clear H a;intro a H
   refine k33 _ ?_;clear k33 K33
   refine sS H fun K34 k34=>sf fO rfl<|sl S 0 aA G G G<|sr 1 rfl<|sE ?_;clear H a;intro a H
   refine k34 _ ?_;clear k34 K34
   refine condE H rfl (fun hc6=>?_) (fun hc6=>?_)
   ·skip
    have hkk:=Qw hok (show (l.getD q Tsk.zero).unit.toNat<y.us.length by omega)
    replace H:=H.keep [0,1,6,7,8,11,12,14,23,24,50,51,52] rfl
    replace S:=S.drew
    refine sD H fun K35 k35=>sr 2 rfl<|sf dB rfl<|sf cS rfl<|sl S 3 dY G G G<|sf dH rfl<|sl S 0 aA G G G<|sI cJ dG G G (hy.us.adr (by omega)) (by omega) (by omega)<|sp wM rfl<|slm aA rfl (hy.us.rd S (by omega) (by omega))<|sr 1 rfl<|sE ?_;clear H a;intro a H
    refine k35 _ ?_;clear k35 K35
    have hb1:=xE (d:=d) (k:=(y.us.getD (l.getD q Tsk.zero).unit.toNat Unt.zero).kind.toNat) hok y.sps.length (Nat.le_refl _)
    have hb2:=Cc (y:=y) (l:=l) (d:=d) (k:=(y.us.getD (l.getD q Tsk.zero).unit.toNat Unt.zero).kind.toNat) q
    have hb3:=Ls (l:=l) (k:=(y.us.getD (l.getD q Tsk.zero).unit.toNat Unt.zero).kind.toNat) hok (by omega) d
    have hb4:=hok.yr.2.2.2.2.1
    replace H:=H.keep [0,1,6,7,8,11,12,15,23,24,50,51,52] rfl
    refine aB fun K36 k36=>?_
    refine ls 5 H<|sr 1 rfl<|sd (cK Try.underlying121 aX G G (by omega) (by omega))<|slm aA rfl (ownM.rd S (i:=1) (k:=(y.us.getD (l.getD q Tsk.zero).unit.toNat Unt.zero).kind.toNat) (j:=0) rfl (by omega) (by omega))<|sd (aO G G (by unfold i64ok;omega))<|sd (cK Try.underlying121 aX G G (by omega) (by omega))<|sE ?_;clear H a;intro a H
    refine bN H S (i:=1) (kk:=(y.us.getD (l.getD q Tsk.zero).unit.toNat Unt.zero).kind.toNat) (j:=0) G G G (by omega) (by omega) aX rfl ?_
    clear H a S;intro _ a S H
    refine k36 _ _ ?_;clear k36 K36
    replace S:=S.recell (i:=1) rfl (cell':=stkC y l d y.sps.length (q+1)) (fun k9 j9 hk9 hj9=>Qm (q:=(y.us.getD (l.getD q Tsk.zero).unit.toNat Unt.zero).kind.toNat) ⟨by omega,hc6⟩ (show tkK y l q=_ by unfold tkK;omega) rfl k9 j9 hj9)
    replace H:=H.keep [0,1,6,7,8,11,12,15,23,24,50,51,52] rfl
    refine sO H<|sr 2 rfl<|sg 4 1 81 85 false G G (fun hg2=>sy hg2<|sr 1 rfl<|sy hg2<|sd (cK Try.underlying121 aX G G (by omega) (by omega))<|sy hg2<|slm aA rfl (ownM.rd S (i:=1) (k:=(y.us.getD (l.getD q Tsk.zero).unit.toNat Unt.zero).kind.toNat) (j:=0) rfl (by omega) (by omega))<|sy hg2<|sr 1 rfl<|sz 4 G G G)<|so G G G<|sr 1 rfl<|sE ?_;clear H a;intro a H
    refine k28 _ _ ?_
    replace H:=H.keep [0,1,6,7,8,11,12,23,24,50,51,52] rfl
    refine sO H<|sd (aI G G (by unfold i64ok;omega))<|sr 1 rfl<|sE ?_;clear H a;intro a H
    exact k25 (g3-1) (q+1,_,_) a _ (by omega) (⟨⟨by omega,by omega⟩,Lt hjb9 (by omega),Uf (q:=(y.us.getD (l.getD q Tsk.zero).unit.toNat Unt.zero).kind.toNat) hsh9 ⟨by omega,hc6⟩ (show tkK y l q=_ by unfold tkK;omega) rfl⟩) (S.sel [1,2,3,4,5,6] G G) (H.keep [11,12,52,0,1,6,7,8,23,24,50,51] rfl)
   skip
   refine wp_skip ?_
   refine k28 _ _ ?_
   refine sO H<|sd (aI G G (by unfold i64ok;omega))<|sr 1 rfl<|sE ?_;clear H a;intro a H
   rw [zI (fun h=>hc6 h.2)] at S
   exact k25 (g3-1) (q+1,_,_) a _ (by omega) (⟨⟨by omega,by omega⟩,Lt hjb9 (by omega),Sx hsh9 (fun h=>hc6 h.2)⟩) (S.sel [1,2,3,4,5,6] G G) (H.keep [11,12,52,0,1,6,7,8,23,24,50,51] rfl)
  refine wp_exit ?_
  refine k23 _ _ ?_
  refine wp_block ?_
  obtain rfl:q=l.length:=by omega
  subst hjb9
  subst hsh9
  replace H:=H.keep [0,1,6,7,8,11,12,23,24] rfl
  refine sS H fun K40 k40=>sr 3 rfl<|sf dB rfl<|sf wK rfl<|sl S 2 aA G G G<|sr 2 rfl<|sE ?_;clear H a;intro a H
  refine k40 _ ?_;clear k40 K40
  refine condL H rfl (fun hc7=>?_) (fun hc7=>?_)
  ·skip
   replace H:=H.keep [8] rfl
   refine sS H fun K41 k41=>sr 3 rfl<|sE ?_;clear H a;intro a H
   refine k41 _ ?_;clear k41 K41
   refine wp_ret ?_
   refine ret2 (fn:=Try.f38) rfl H G G ?_
   rw [lS (show d<y.days.toNat by omega) hfl (by rw [Dv (by omega)];decide),Dv (by omega)]
   exact ⟨rfl,(S.sel [2,3,4,5] G G)⟩
  refine sS H fun K42 k42=>sr 2 rfl<|sE ?_;clear H a;intro a H
  refine k42 _ ?_;clear k42 K42
  refine aT H rfl (fun hc8=>?_) (fun hc8=>?_)
  ·skip
   try simp only [o1,o2,o3,o4,o5,o6,o7,o8,o9,oa] at hc8
   refine sS H fun K43 k43=>sr 3 rfl<|sE ?_;clear H a;intro a H
   refine k43 _ ?_;clear k43 K43
   refine wp_ret ?_
   refine ret2 (fn:=Try.f38) rfl H G G ?_
   rw [lS (show d<y.days.toNat by omega) hfl (by rw [Dw (by omega) hc8];decide),Dw (by omega) hc8]
   exact ⟨rfl,(S.sel [2,3,4,5] G G)⟩
  try simp only [o1,o2,o3,o4,o5,o6,o7,o8,o9,oa] at hc8
  replace H:=H.keep [0,1,6,7,8,23,24] rfl
  refine aB fun K44 k44=>?_
  refine ls 6 H<|sr 4 rfl<|si aR aX G G (ownM.adr S (i:=1) rfl (by omega)) (by omega)<|slm aA rfl (ownM.rd S (i:=1) (k:=d) (j:=0) rfl (by omega) (by omega))<|sE ?_;clear H a;intro a H
  refine aC H G G Try.func62 G G (Gy y cb bl bs bk (d:Int) (outY y l d y.us.length) _ _ ((S.sel [2,3,4,5] G G).startR) (hy.nowR (S.sel [2,3,4,5] G G)) hyb hok (xD hok (Nat.le_refl _))) ?_;clear H a
  rintro _ _ a ⟨rfl,S2⟩ H
  replace S:=St.callR (M:=[_,_,_,_]) (S.sel [2,3,4,5,0,1] G G) S2;clear S2
  refine ls 2 H<|sr 2 rfl<|sE ?_;clear H a;intro a H
  refine k44 _ _ ?_;clear k44 K44
  refine aT H rfl (fun hc9=>?_) (fun hc9=>?_)
  ·skip
   try simp only [o1,o2,o3,o4,o5,o6,o7,o8,o9,oa] at hc9
   replace H:=H.keep [8] rfl
   refine sS H fun K45 k45=>sr 3 rfl<|sE ?_;clear H a;intro a H
   refine k45 _ ?_;clear k45 K45
   refine wp_ret ?_
   refine ret2 (fn:=Try.f38) rfl H G G ?_
   rw [lS (show d<y.days.toNat by omega) hfl (by rw [xF (by omega) hc8 hc9];decide),xF (by omega) hc8 hc9]
   exact ⟨rfl,(S.sel [0,1,2,3] G G)⟩
  try simp only [o1,o2,o3,o4,o5,o6,o7,o8,o9,oa] at hc9
  replace H:=H.keep [0,1,6,7,8,23,24] rfl
  refine aB fun K46 k46=>?_
  refine ls 5 H<|sr 3 rfl<|si aR aX G G (ownM.adr S (i:=5) rfl (by omega)) (by omega)<|slm aA rfl (ownM.rd S (i:=5) (k:=d) (j:=0) rfl (by omega) (by omega))<|sE ?_;clear H a;intro a H
  refine aC H G G Try.func63 G G (Cg y cb bl bs bk (outY y l d y.us.length) _ _ ((S.sel [0,1,2,3] G G).startR) (hy.nowR (S.sel [0,1,2,3] G G)) hyb hok (xD hok (Nat.le_refl _))) ?_;clear H a
  rintro _ _ a ⟨rfl,S2⟩ H
  replace S:=St.callR (M:=[_,_,_,_]) (S.sel [0,1,2,3,4,5] G G) S2;clear S2
  refine ls 2 H<|sr 2 rfl<|sE ?_;clear H a;intro a H
  refine k46 _ _ ?_;clear k46 K46
  refine aT H rfl (fun hc10=>?_) (fun hc10=>?_)
  ·skip
   try simp only [o1,o2,o3,o4,o5,o6,o7,o8,o9,oa] at hc10
   replace H:=H.keep [8] rfl
   refine sS H fun K47 k47=>sr 3 rfl<|sE ?_;clear H a;intro a H
   refine k47 _ ?_;clear k47 K47
   refine wp_ret ?_
   refine ret2 (fn:=Try.f38) rfl H G G ?_
   rw [lS (show d<y.days.toNat by omega) hfl (by rw [Dx (by omega) hc8 hc9 hc10];decide),Dx (by omega) hc8 hc9 hc10]
   exact ⟨rfl,(S.sel [0,1,2,3] G G)⟩
  try simp only [o1,o2,o3,o4,o5,o6,o7,o8,o9,oa] at hc10
  refine wp_skip ?_
  refine k9 _ _ ?_
  refine sO H<|sd (aI G G (by unfold i64ok;omega))<|sr 1 rfl<|sE ?_;clear H a;intro a H
  rw [Gq] at S
  exact k6 (g1-1) (d+1) a _ (by omega) (⟨⟨by omega,by omega⟩,Lu hfl (Dy (by omega) hc8 hc9 hc10)⟩) (S.sel [4,5,0,1,2,3] G G) (H.keep [24,0,1,6,7,23] rfl)
 refine wp_exit ?_
 refine k4 _ _ ?_
 refine sS H fun K49 k49=>sr 2 rfl<|sE ?_;clear H a;intro a H
 refine k49 _ ?_;clear k49 K49
 refine wp_ret ?_
 refine ret2 (fn:=Try.f38) rfl H G G ?_
 rw [Cb (fun q hq=>hfl q (by omega))]
 exact ⟨rfl,(S.sel [2,3,4,5] G G)⟩
theorem Me (y:Yr) (l:List Tsk) (LA:Option Addr) (lc:Nat) (w:World) (hy:YIn w noF y) (hyb:YBd y) (hl:InS w noF 3 LA l.length (fH l)) (hln:l.length≤9223372036854775807) :
    Calls Try.prog 13 [.agg [.int .i64 y.days,.int .i64 y.pl,.slice y.PA y.ps.length y.pc,.slice y.XA y.xs.length y.xc,.slice y.BA y.pe.length y.bc,.int .i64 y.limit,.bool y.help,.slice y.QA y.prs.length y.qc,.slice y.VA y.us.length y.vc,.int .i64 y.crew,.slice y.SA y.sps.length y.sc].toArray,.slice LA l.length lc].toArray w (Ret (fun v w'=>(taskE y l≠0∧v = .tuple #[.slice none 0 0,.int .i64 (taskE y l)]∧St w noF [] w')∨(taskE y l=0∧∃ A c,v = .tuple #[.slice A y.days.toNat c,.int .i64 0]∧St w noF [ownM 3 1 A y.days.toNat c (setsV y l y.us.length)] w'))):=by
 refine enter Try.func13 rfl Try.ntmps13 rfl (fun a H=>?_)
 have S:=St.start w
 refine aB fun K1 k1=>?_
 refine aP H rfl S G G ?_;clear H a S;intro b2 _ a hb2 hbw2 S H
 refine ls 2 H<|sr 2 rfl<|sE ?_;clear H a;intro a H
 refine k1 _ _ ?_;clear k1 K1
 refine wp_seq_k fun K2 k2=>?_
 refine aB fun K3 k3=>?_
 refine ls 2 H<|sd ((aD bE bA rfl S (i:=0) G G))<|sr 1 rfl<|sE ?_;clear H a;intro a H
 refine aC H G G Try.func36 G G (tY y l LA lc _ (hy.now S) hyb (hl.now S) hln) ?_;clear H a
 rintro _ _ a ⟨rfl,S2⟩ H
 replace S:=S.call S2;clear S2
 refine ls 1 H<|sr 1 rfl<|sE ?_;clear H a;intro a H
 refine k3 _ _ ?_;clear k3 K3
 refine sS H fun K4 k4=>sr 2 rfl<|sE ?_;clear H a;intro a H
 refine k4 _ ?_;clear k4 K4
 refine condN H rfl (fun hc1=>?_) (fun hc1=>?_)
 ·skip
  replace H:=H.keep [6] rfl
  refine sS H fun K5 k5=>sr 3 rfl<|sE ?_;clear H a;intro a H
  refine k5 _ ?_;clear k5 K5
  refine wp_ret ?_
  refine ret2 (fn:=Try.f13) rfl H G G ?_
  exact .inl ⟨hc1,rfl,(S.sel [] G G)⟩
 have hte:taskE y l=0:=by omega
 have htk0:=mG hte
 have hok:=jQ htk0.1
 have htk:∀ k,k<l.length→tskI y (l.getD k Tsk.zero):=fun k hk=>xB (htk0.2.2 k hk)
 refine wp_skip ?_
 refine k2 _ _ ?_
 refine aB fun K6 k6=>?_
 refine ls 1 H<|sd ((aD bE bA rfl S (i:=0) G G))<|sE ?_;clear H a;intro a H
 refine aC H G G Try.func37 G G (xG y _) ?_;clear H a
 rintro _ _ a ⟨cb,bl,bs,bk,rfl,S2⟩ H
 replace S:=S.call S2;clear S2
 refine ls 1 H<|sr 1 rfl<|sE ?_;clear H a;intro a H
 refine aC H G G Try.func39 G G (Ec y cb bl bs bk l LA lc _ _ ((S.sel [0,1,2,3] G G).startR) (hy.nowR (S.sel [0,1,2,3] G G)) hyb hok (hl.nowR (S.sel [0,1,2,3] G G)) hln htk) ?_;clear H a
 rintro _ _ a ⟨A6,c6,rfl,S2⟩ H
 replace S:=St.callR (M:=[_,_,_,_]) (S.sel [0,1,2,3,4] G G) S2;clear S2
 refine ls 2 H<|sr 2 rfl<|sE ?_;clear H a;intro a H
 refine k6 _ _ ?_;clear k6 K6
 refine wp_ret ?_
 refine ret2 (fn:=Try.f13) rfl H G G ?_
 exact .inr ⟨hte,A6,c6,rfl,(S.sel [0] G G)⟩
theorem Mf (y:Yr) (l:List Tsk) (LA:Option Addr) (lc:Nat) (w:World) (hy:YIn w noF y) (hyb:YBd y) (hl:InS w noF 3 LA l.length (fH l)) (hln:l.length≤9223372036854775807) :
    Calls Try.prog 12 [.agg [.int .i64 y.days,.int .i64 y.pl,.slice y.PA y.ps.length y.pc,.slice y.XA y.xs.length y.xc,.slice y.BA y.pe.length y.bc,.int .i64 y.limit,.bool y.help,.slice y.QA y.prs.length y.qc,.slice y.VA y.us.length y.vc,.int .i64 y.crew,.slice y.SA y.sps.length y.sc].toArray,.slice LA l.length lc].toArray w (Ret (fun v w'=>(taskE y l≠0∧v = .tuple #[.int .i64 0,.int .i64 0,.int .i64 (taskE y l)]∧St w noF [] w')∨(taskE y l=0∧v = .tuple #[.int .i64 (kS y l).1,.int .i64 (kS y l).2,.int .i64 0]∧St w noF [] w'))):=by
 refine enter Try.func12 rfl Try.ntmps12 rfl (fun a H=>?_)
 have S:=St.start w
 refine aB fun K1 k1=>?_
 refine aP H rfl S G G ?_;clear H a S;intro b2 _ a hb2 hbw2 S H
 refine ls 3 H<|sr 3 rfl<|sE ?_;clear H a;intro a H
 refine k1 _ _ ?_;clear k1 K1
 refine wp_seq_k fun K2 k2=>?_
 refine aB fun K3 k3=>?_
 refine ls 2 H<|sd ((aD bE bA rfl S (i:=0) G G))<|sr 1 rfl<|sE ?_;clear H a;intro a H
 refine aC H G G Try.func36 G G (tY y l LA lc _ (hy.now S) hyb (hl.now S) hln) ?_;clear H a
 rintro _ _ a ⟨rfl,S2⟩ H
 replace S:=S.call S2;clear S2
 refine ls 1 H<|sr 1 rfl<|sE ?_;clear H a;intro a H
 refine k3 _ _ ?_;clear k3 K3
 replace H:=H.keep [1,2,6] rfl
 refine sS H fun K4 k4=>sr 2 rfl<|sE ?_;clear H a;intro a H
 refine k4 _ ?_;clear k4 K4
 refine condN H rfl (fun hc1=>?_) (fun hc1=>?_)
 ·skip
  refine sS H fun K5 k5=>sr 4 rfl<|sE ?_;clear H a;intro a H
  refine k5 _ ?_;clear k5 K5
  refine wp_ret ?_
  refine ret3 (fn:=Try.f12) rfl H G G G ?_
  exact .inl ⟨hc1,rfl,(S.sel [] G G)⟩
 have hte:taskE y l=0:=by omega
 have htk0:=mG hte
 have hok:=jQ htk0.1
 have htk:∀ k,k<l.length→tskI y (l.getD k Tsk.zero):=fun k hk=>xB (htk0.2.2 k hk)
 refine wp_skip ?_
 refine k2 _ _ ?_
 replace H:=H.keep [1,2] rfl
 refine aB fun K6 k6=>?_
 refine ls 1 H<|sd ((aD bE bA rfl S (i:=0) G G))<|sE ?_;clear H a;intro a H
 refine aC H G G Try.func37 G G (xG y _) ?_;clear H a
 rintro _ _ a ⟨cb,bl,bs,bk,rfl,S2⟩ H
 replace S:=S.call S2;clear S2
 refine ls 1 H<|sr 1 rfl<|sE ?_;clear H a;intro a H
 refine aC H G G Try.func38 G G (Gz y cb bl bs bk l LA lc _ _ ((S.sel [0,1,2,3] G G).startR) (hy.nowR (S.sel [0,1,2,3] G G)) hyb hok (hl.nowR (S.sel [0,1,2,3] G G)) hln htk htk0.2.1) ?_;clear H a
 rintro _ _ a ⟨rfl,S2⟩ H
 replace S:=St.callR (M:=[_,_,_,_]) (S.sel [0,1,2,3,4] G G) S2;clear S2
 refine ls 5 H<|sr 5 rfl<|sE ?_;clear H a;intro a H
 refine k6 _ _ ?_;clear k6 K6
 replace H:=H.keep [4,5] rfl
 refine sS H fun K7 k7=>sr 5 rfl<|sE ?_;clear H a;intro a H
 refine k7 _ ?_;clear k7 K7
 refine wp_ret ?_
 refine ret3 (fn:=Try.f12) rfl H G G G ?_
 exact .inr ⟨hte,rfl,(S.sel [] G G)⟩
end
section
theorem zO (y:Yr) (l:List Tsk) (LA:Option Addr) (lc:Nat) (u:Int) (w:World) (hy:YIn w noF y) (hyb:YBd y) (hl:InS w noF 3 LA l.length (fH l)) (hln:l.length≤9223372036854775807) :
    Calls Try.prog 46 [.agg [.int .i64 y.days,.int .i64 y.pl,.slice y.PA y.ps.length y.pc,.slice y.XA y.xs.length y.xc,.slice y.BA y.pe.length y.bc,.int .i64 y.limit,.bool y.help,.slice y.QA y.prs.length y.qc,.slice y.VA y.us.length y.vc,.int .i64 y.crew,.slice y.SA y.sps.length y.sc].toArray,.slice LA l.length lc,.int .i64 u].toArray w (Ret (fun v w'=>∃ a9 b9:Int,v = .tuple #[.agg [.int .i64 a9,.int .i64 b9].toArray,.int .i64 (askdE y l u)]∧(askdE y l u=0→a9=bsum (runB' (y.us.getD u.toNat Unt.zero) (jobF l u.toNat)) y.days.toNat∧b9=bsum (certB (y.us.getD u.toNat Unt.zero) (jobF l u.toNat)) y.days.toNat)∧St w noF [] w')):=by
 have hn3:=hyb.usn
 refine enter Try.func46 rfl Try.ntmps46 rfl (fun a H=>?_)
 have S:=St.start w
 refine aB fun K1 k1=>?_
 refine aP H rfl S G G ?_;clear H a S;intro b3 _ a hb3 hbw3 S H
 refine aM H rfl S jU ?_;clear H a S;intro b6 _ a hb6 hbw6 S H
 refine ls 1 H<|sr 1 rfl<|sE ?_;clear H a;intro a H
 refine k1 _ _ ?_;clear k1 K1
 refine wp_seq_k fun K2 k2=>?_
 refine aB fun K3 k3=>?_
 refine ls 2 H<|sd ((aD bE bA rfl S (i:=1) G G))<|sr 1 rfl<|sE ?_;clear H a;intro a H
 refine aC H G G Try.func36 G G (tY y l LA lc _ (hy.now S) hyb (hl.now S) hln) ?_;clear H a
 rintro _ _ a ⟨rfl,S2⟩ H
 replace S:=S.call S2;clear S2
 refine ls 1 H<|sr 1 rfl<|sE ?_;clear H a;intro a H
 refine k3 _ _ ?_;clear k3 K3
 refine sS H fun K4 k4=>sr 2 rfl<|sE ?_;clear H a;intro a H
 refine k4 _ ?_;clear k4 K4
 refine condN H rfl (fun hc1=>?_) (fun hc1=>?_)
 ·skip
  replace H:=H.keep [6,8] rfl
  refine aB fun K5 k5=>?_
  refine ls 2 H<|sd (aN Jf G G)<|sr 1 rfl<|sE ?_;clear H a;intro a H
  refine aG H S (i:=0) G G G G dZ G G ?_
  clear H a S;intro _ a S H
  refine ls 1 H<|sr 1 rfl<|sE ?_;clear H a;intro a H
  refine k5 _ _ ?_;clear k5 K5
  refine wp_ret ?_
  refine retA1 (fn:=Try.f46) rfl H rfl iA (by exact dZ) (cB S (i:=0) rfl) rfl ?_
  refine ⟨0,0,by rw [vK (by omega)];rfl,fun h=>absurd h (by rw [vK (by omega)];omega),(S.sel [] G G)⟩
 have hte:taskE y l=0:=by omega
 have htk0:=mG hte
 have hok:=jQ htk0.1
 have htk:∀ k,k<l.length→tskI y (l.getD k Tsk.zero):=fun k hk=>xB (htk0.2.2 k hk)
 refine wp_skip ?_
 refine k2 _ _ ?_
 refine wp_seq_k fun K6 k6=>?_
 replace H:=H.keep [1,2,3,6] rfl
 refine sS H fun K7 k7=>sr 1 rfl<|sf cS rfl<|sl S 1 dY G G G<|sL cJ rfl<|sd (aO G G (by unfold i64ok;omega))<|sc rfl Try.func60 G G (bF _ _ _ _)<|sr 1 rfl<|sE ?_;clear H a;intro a H
 refine k7 _ ?_;clear k7 K7
 refine aT H rfl (fun hc2=>?_) (fun hc2=>?_)
 ·skip
  try simp only [o1,o2,o3,o4,o5,o6,o7,o8,o9,oa] at hc2
  replace H:=H.keep [6] rfl
  refine aB fun K8 k8=>?_
  refine ls 1 H<|sd (aN Jf G G)<|sE ?_;clear H a;intro a H
  refine aG H S (i:=0) G G G G dZ G G ?_
  clear H a S;intro _ a S H
  refine ls 1 H<|sr 1 rfl<|sE ?_;clear H a;intro a H
  refine k8 _ _ ?_;clear k8 K8
  refine wp_ret ?_
  refine retA1 (fn:=Try.f46) rfl H rfl iA (by exact dZ) (cB S (i:=0) rfl) rfl ?_
  refine ⟨0,0,by rw [zJ hte (by omega)];rfl,fun h=>absurd h (by rw [zJ hte (by omega)];decide),(S.sel [] G G)⟩
 try simp only [o1,o2,o3,o4,o5,o6,o7,o8,o9,oa] at hc2
 have hu:0≤u∧u≤(y.us.length:Int)-1:=by first|exact hc2|omega
 rw [show u=((u.toNat:Nat):Int) by omega] at H
 refine wp_skip ?_
 refine k6 _ _ ?_
 replace H:=H.keep [1,2,3,6] rfl
 refine aB fun K9 k9=>?_
 refine ls 1 H<|sd ((aD bE bA rfl S (i:=1) G G))<|sE ?_;clear H a;intro a H
 refine aC H G G Try.func37 G G (xG y _) ?_;clear H a
 rintro _ _ a ⟨cb,bl,bs,bk,rfl,S2⟩ H
 replace S:=S.call S2;clear S2
 refine ls 2 H<|sr 2 rfl<|sE ?_;clear H a;intro a H
 refine aC H G G Try.func64 G G (zM y cb bl bs bk u.toNat l LA lc _ _ ((S.sel [0,1,2,3] G G).startR) (hy.nowR (S.sel [0,1,2,3] G G)) hyb hok (by omega) (hl.nowR (S.sel [0,1,2,3] G G)) hln htk) ?_;clear H a
 rintro _ _ a ⟨rfl,S2⟩ H
 replace S:=St.callR (M:=[_,_,_,_]) (S.sel [0,1,2,3,4,5] G G) S2;clear S2
 refine aG H S (i:=4) G G G G dZ G G ?_
 clear H a S;intro _ a S H
 refine ls 1 H<|sr 1 rfl<|sE ?_;clear H a;intro a H
 refine k9 _ _ ?_;clear k9 K9
 refine wp_ret ?_
 refine retA1 (fn:=Try.f46) rfl H rfl iA (by exact dZ) (cB S (i:=4) rfl) rfl ?_
 refine ⟨_,_,by rw [Dz hte hu];rfl,fun h=>⟨rfl,rfl⟩,(S.sel [] G G)⟩
theorem Qx (y:Yr) (l:List Tsk) (LA:Option Addr) (lc:Nat) (u:Int) (w:World) (hy:YIn w noF y) (hyb:YBd y) (hl:InS w noF 3 LA l.length (fH l)) (hln:l.length≤9223372036854775807) :
    Calls Try.prog 17 [.agg [.int .i64 y.days,.int .i64 y.pl,.slice y.PA y.ps.length y.pc,.slice y.XA y.xs.length y.xc,.slice y.BA y.pe.length y.bc,.int .i64 y.limit,.bool y.help,.slice y.QA y.prs.length y.qc,.slice y.VA y.us.length y.vc,.int .i64 y.crew,.slice y.SA y.sps.length y.sc].toArray,.slice LA l.length lc,.int .i64 u].toArray w (Ret (fun v w'=>∃ A c,v = .tuple #[.slice A (runsL y l u).length c,.int .i64 (askdE y l u)]∧St w noF [ownM 3 1 A (runsL y l u).length c (wcl (runsL y l u))] w')):=by
 refine enter Try.func17 rfl Try.ntmps17 rfl (fun a H=>?_)
 have S:=St.start w
 refine aB fun K1 k1=>?_
 refine aP H rfl S G G ?_;clear H a S;intro b3 _ a hb3 hbw3 S H
 refine ls 2 H<|sr 2 rfl<|sE ?_;clear H a;intro a H
 refine k1 _ _ ?_;clear k1 K1
 replace H:=H.keep [1,2,3] rfl
 refine aB fun K2 k2=>?_
 refine ls 3 H<|sd ((aD bE bA rfl S (i:=0) G G))<|sr 2 rfl<|sE ?_;clear H a;intro a H
 refine aC H G G Try.func46 G G (zO y l LA lc u _ (hy.now S) hyb (hl.now S) hln) ?_;clear H a
 rintro _ _ a ⟨a9,b9,rfl,hab,S2⟩ H
 replace S:=S.call S2;clear S2
 refine ls 3 H<|sr 3 rfl<|sE ?_;clear H a;intro a H
 refine aM H rfl S jU ?_;clear H a S;intro b8 _ a hb8 hbw8 S H
 refine aG H S (i:=0) G G G G dZ G G ?_
 clear H a S;intro _ a S H
 refine ls 1 H<|sr 1 rfl<|sE ?_;clear H a;intro a H
 refine k2 _ _ ?_;clear k2 K2
 refine wp_seq_k fun K3 k3=>?_
 replace H:=H.keep [3,8,9] rfl
 refine sS H fun K4 k4=>sr 2 rfl<|sE ?_;clear H a;intro a H
 refine k4 _ ?_;clear k4 K4
 refine condN H rfl (fun hc1=>?_) (fun hc1=>?_)
 ·skip
  refine sS H fun K5 k5=>sr 3 rfl<|sE ?_;clear H a;intro a H
  refine k5 _ ?_;clear k5 K5
  refine wp_ret ?_
  refine ret2 (fn:=Try.f17) rfl H G G ?_
  have he:runsL y l u=[]:=by unfold runsL;rw [if_pos hc1]
  rw [he]
  exact ⟨none,0,rfl,(S.sel [] G G).newNil _ _ _⟩
 have hz:askdE y l u=0:=by omega
 obtain ⟨ha9,hb9⟩:=hab hz
 subst ha9;subst hb9
 have hok:=jQ (mG (vL hz).1).1
 have hdy:=hok.days
 have hD:((y.days.toNat:Nat):Int)=y.days:=by omega
 refine wp_skip ?_
 refine k3 _ _ ?_
 refine sS H fun K6 k6=>sr 1 rfl<|sE ?_;clear H a;intro a H
 refine k6 _ ?_;clear k6 K6
 refine wp_seq_k fun K7 k7=>?_
 refine sS H fun K8 k8=>sf cN rfl<|sl S 1 aA G G G<|sr 1 rfl<|sE ?_;clear H a;intro a H
 refine k8 _ ?_;clear k8 K8
 refine wp_block ?_
 replace S:=S.newNil 3 1 (wcl [])
 refine loop_st (X:=Nat×List Nat×Option Addr×Nat) (R0:=_) [8,23] H rfl (fun ⟨d,wl,A9,c9⟩=>[(10,.slice A9 wl.length c9),(24,.int .i64 (d:Int))]) (fun ⟨d,wl,A9,c9⟩=>[ownM 3 1 A9 wl.length c9 (wcl wl)]) (fun g ⟨d,wl,A9,c9⟩=>d≤y.days.toNat∧g+d=y.days.toNat∧wl=filtN (runsY y l u.toNat) d) (y.days.toNat) (0,[],none,0) ?_ (S.sel [0,1,2] G G) (H.keep [10,24,8,23] rfl) ?_
 · exact ⟨by omega,by omega,rfl⟩
 clear H S a
 intro g1 x1 a w1 hp S H K9 k9
 obtain ⟨d,wl,A9,c9⟩:=x1
 dsimp only at hp S H
 obtain ⟨hdl,hgd,hW⟩:=hp
 have hwn:wl.length≤d:=by rw [hW];exact vM d
 refine sS H fun K10 k10=>sr 1 rfl<|sE ?_;clear H a;intro a H
 refine k10 _ ?_;clear k10 K10
 refine wp_seq_k fun K11 k11=>?_
 refine condL H rfl (fun hc2=>?_) (fun hc2=>?_)
 ·skip
  refine wp_skip ?_
  refine k11 _ _ ?_
  refine wp_seq_k fun K12 k12=>?_
  refine wp_block ?_
  refine sS H fun K13 k13=>sr 2 rfl<|sE ?_;clear H a;intro a H
  refine k13 _ ?_;clear k13 K13
  refine sS H fun K14 k14=>sf oF rfl<|sl S 1 aA G G G<|sr 1 rfl<|sd (iI G G (by omega) (by omega))<|sd (gI G G)<|sr 1 rfl<|sE ?_;clear H a;intro a H
  refine k14 _ ?_;clear k14 K14
  refine condE H rfl (fun hc3=>?_) (fun hc3=>?_)
  ·skip
   replace H:=H.keep [8,10,11,23,24] rfl
   refine cU ?_
   refine ls 2 H<|sr 2 rfl<|sE ?_;clear H a;intro a H
   refine aK H rfl S aR aX fQ G G G G G G G G G ?_;clear H a S;intro A1 _ a hA1 S H
   refine eE H rfl S aR aX fQ yA G G (i:=1) G G G (ownM.inS S (i:=0) rfl) (nA (one rfl)) (by omega) (by omega) ?_;clear H a S;intro A2 c2 _ a S H
   replace S:=S.recell (i:=1) rfl (cell':=wcl (wl++[d])) (fun k j hk hj=>yH rfl k j hk hj)
   rw [show wl.length+1=(wl++[d]).length by simp] at H S
   refine ls 1 H<|sr 1 rfl<|sE ?_;clear H a;intro a H
   refine k12 _ _ ?_
   refine sO H<|sd (aI G G (by unfold i64ok;omega))<|sr 1 rfl<|sE ?_;clear H a;intro a H
   exact k9 (g1-1) (d+1,_,_,_) a _ (by omega) (⟨by omega,by omega,by rw [hW];exact Cd (Uj (show d<y.days.toNat by omega) hc3)⟩) (S.sel [1,2,3] G G) (H.keep [10,24,8,23] rfl)
  refine wp_skip ?_
  refine k12 _ _ ?_
  refine sO H<|sd (aI G G (by unfold i64ok;omega))<|sr 1 rfl<|sE ?_;clear H a;intro a H
  exact k9 (g1-1) (d+1,_,_,_) a _ (by omega) (⟨by omega,by omega,by rw [hW];exact Ce (Uk (show d<y.days.toNat by omega) hc3)⟩) (S.sel [0,1,2] G G) (H.keep [10,24,8,23] rfl)
 refine wp_exit ?_
 refine k7 _ _ ?_
 replace H:=H.keep [10] rfl
 refine sS H fun K18 k18=>sr 3 rfl<|sE ?_;clear H a;intro a H
 refine k18 _ ?_;clear k18 K18
 refine wp_ret ?_
 refine ret2 (fn:=Try.f17) rfl H G G ?_
 obtain rfl:d=y.days.toNat:=by omega
 have he:runsL y l u=wl:=by unfold runsL;rw [if_neg (by omega),hW]
 rw [he,hz]
 exact ⟨A9,c9,rfl,(S.sel [0] G G)⟩
theorem Mg (y:Yr) (l:List Tsk) (LA:Option Addr) (lc:Nat) (u:Int) (w:World) (hy:YIn w noF y) (hyb:YBd y) (hl:InS w noF 3 LA l.length (fH l)) (hln:l.length≤9223372036854775807) :
    Calls Try.prog 18 [.agg [.int .i64 y.days,.int .i64 y.pl,.slice y.PA y.ps.length y.pc,.slice y.XA y.xs.length y.xc,.slice y.BA y.pe.length y.bc,.int .i64 y.limit,.bool y.help,.slice y.QA y.prs.length y.qc,.slice y.VA y.us.length y.vc,.int .i64 y.crew,.slice y.SA y.sps.length y.sc].toArray,.slice LA l.length lc,.int .i64 u].toArray w (Ret (fun v w'=>∃ A c,v = .tuple #[.slice A (termL y l u).length c,.int .i64 (askdE y l u)]∧St w noF [ownM 68 2 A (termL y l u).length c (scell (termL y l u))] w')):=by
 refine enter Try.func18 rfl Try.ntmps18 rfl (fun a H=>?_)
 have S:=St.start w
 refine aB fun K1 k1=>?_
 refine aP H rfl S G G ?_;clear H a S;intro b3 _ a hb3 hbw3 S H
 refine ls 2 H<|sr 2 rfl<|sE ?_;clear H a;intro a H
 refine k1 _ _ ?_;clear k1 K1
 replace H:=H.keep [1,2,3] rfl
 refine aB fun K2 k2=>?_
 refine ls 3 H<|sd ((aD bE bA rfl S (i:=0) G G))<|sr 2 rfl<|sE ?_;clear H a;intro a H
 refine aC H G G Try.func46 G G (zO y l LA lc u _ (hy.now S) hyb (hl.now S) hln) ?_;clear H a
 rintro _ _ a ⟨a9,b9,rfl,hab,S2⟩ H
 replace S:=S.call S2;clear S2
 refine ls 3 H<|sr 3 rfl<|sE ?_;clear H a;intro a H
 refine aM H rfl S jU ?_;clear H a S;intro b8 _ a hb8 hbw8 S H
 refine aG H S (i:=0) G G G G dZ G G ?_
 clear H a S;intro _ a S H
 refine ls 1 H<|sr 1 rfl<|sE ?_;clear H a;intro a H
 refine k2 _ _ ?_;clear k2 K2
 refine wp_seq_k fun K3 k3=>?_
 replace H:=H.keep [3,8,9] rfl
 refine sS H fun K4 k4=>sr 2 rfl<|sE ?_;clear H a;intro a H
 refine k4 _ ?_;clear k4 K4
 refine condN H rfl (fun hc1=>?_) (fun hc1=>?_)
 ·skip
  refine sS H fun K5 k5=>sr 3 rfl<|sE ?_;clear H a;intro a H
  refine k5 _ ?_;clear k5 K5
  refine wp_ret ?_
  refine ret2 (fn:=Try.f18) rfl H G G ?_
  have he:termL y l u=[]:=by unfold termL;rw [if_pos hc1]
  rw [he]
  exact ⟨none,0,rfl,(S.sel [] G G).newNil _ _ _⟩
 have hz:askdE y l u=0:=by omega
 obtain ⟨ha9,hb9⟩:=hab hz
 subst ha9;subst hb9
 have hok:=jQ (mG (vL hz).1).1
 have hdy:=hok.days
 have hD:((y.days.toNat:Nat):Int)=y.days:=by omega
 refine wp_skip ?_
 refine k3 _ _ ?_
 refine sS H fun K6 k6=>sr 1 rfl<|sE ?_;clear H a;intro a H
 refine k6 _ ?_;clear k6 K6
 refine wp_seq_k fun K7 k7=>?_
 refine sS H fun K8 k8=>sf cN rfl<|sl S 1 aA G G G<|sr 1 rfl<|sE ?_;clear H a;intro a H
 refine k8 _ ?_;clear k8 K8
 refine wp_block ?_
 replace S:=S.newNil 68 2 (scell [])
 refine loop_st (X:=Nat×List (Int×Int)×Option Addr×Nat) (R0:=_) [8,24] H rfl (fun ⟨d,s9,A9,c9⟩=>[(10,.slice A9 s9.length c9),(25,.int .i64 (d:Int))]) (fun ⟨d,s9,A9,c9⟩=>[ownM 68 2 A9 s9.length c9 (scell s9)]) (fun g ⟨d,s9,A9,c9⟩=>d≤y.days.toNat∧g+d=y.days.toNat∧s9=spanN (certY y l u.toNat) d) (y.days.toNat) (0,[],none,0) ?_ (S.sel [0,1,2] G G) (H.keep [10,25,8,24] rfl) ?_
 · exact ⟨by omega,by omega,rfl⟩
 clear H S a
 intro g1 x1 a w1 hp S H K9 k9
 obtain ⟨d,s9,A9,c9⟩:=x1
 dsimp only at hp S H
 obtain ⟨hdl,hgd,hW⟩:=hp
 have hwn:s9.length≤d:=by rw [hW];exact Gs d
 refine sS H fun K10 k10=>sr 1 rfl<|sE ?_;clear H a;intro a H
 refine k10 _ ?_;clear k10 K10
 refine wp_seq_k fun K11 k11=>?_
 refine condL H rfl (fun hc2=>?_) (fun hc2=>?_)
 ·skip
  refine wp_skip ?_
  refine k11 _ _ ?_
  refine wp_seq_k fun K12 k12=>?_
  refine wp_block ?_
  refine sS H fun K13 k13=>sr 2 rfl<|sE ?_;clear H a;intro a H
  refine k13 _ ?_;clear k13 K13
  refine wp_seq_k fun K14 k14=>?_
  refine sS H fun K15 k15=>sf rT rfl<|sl S 1 aA G G G<|sr 1 rfl<|sd (iI G G (by omega) (by omega))<|sd (gI G G)<|sr 1 rfl<|sE ?_;clear H a;intro a H
  refine k15 _ ?_;clear k15 K15
  refine condE H rfl (fun hc3=>?_) (fun hc3=>?_)
  ·skip
   refine wp_exit ?_
   refine k12 _ _ ?_
   replace H:=H.keep [8,10,24,25] rfl
   refine sO H<|sd (aI G G (by unfold i64ok;omega))<|sr 1 rfl<|sE ?_;clear H a;intro a H
   exact k9 (g1-1) (d+1,_,_,_) a _ (by omega) (⟨by omega,by omega,by rw [hW];exact Ug (Ul (show d<y.days.toNat by omega) hc3)⟩) (S.sel [0,1,2] G G) (H.keep [10,25,8,24] rfl)
  refine wp_skip ?_
  refine k14 _ _ ?_
  refine sS H fun K17 k17=>sr 1 rfl<|sL cE rfl<|sr 1 rfl<|sE ?_;clear H a;intro a H
  refine k17 _ ?_;clear k17 K17
  replace H:=H.keep [8,10,11,12,24,25] rfl
  refine sS H fun K18 k18=>sr 3 rfl<|sg 9 2 38 47 true G G (fun hg3=>by
      have hq3:=hg3;try simp only [o1,o2,o3,o4,o5,o6,o7,o8,o9,oa] at hq3
      exact sy hg3<|sr 1 rfl<|sy hg3<|sr 1 rfl<|sy hg3<|sd (aO G G (by unfold i64ok;omega))<|sy hg3<|sI cE aV G G (ownM.adr S (i:=0) rfl (by omega)) (by omega) (by omega)<|sy hg3<|sp bM rfl<|sy hg3<|slm aA rfl (ownM.rd S (i:=0) (k:=((s9.length:Int)-1).toNat) (j:=1) rfl (by omega) (by omega))<|sy hg3<|sr 1 rfl<|sy hg3<|sd (aO G G (by unfold i64ok;omega))<|sy hg3<|sr 1 rfl<|sz 9 G G G)<|sa G G G<|sE ?_;clear H a;intro a H
  refine k18 _ ?_;clear k18 K18
  refine aT H rfl (fun hc4=>?_) (fun hc4=>?_)
  ·skip
   try simp only [o1,o2,o3,o4,o5,o6,o7,o8,o9,oa] at hc4
   replace H:=H.keep [8,10,11,12,24,25] rfl
   refine cU ?_
   refine ls 6 H<|sr 2 rfl<|sd (aO G G (by unfold i64ok;omega))<|sr 1 rfl<|sI cE aV G G (ownM.adr S (i:=0) rfl (by omega)) (by omega) (by omega)<|sp bM rfl<|sE ?_;clear H a;intro a H
   refine bN H S (i:=0) (kk:=((s9.length:Int)-1).toNat) (j:=1) G G G (by omega) (by omega) aX rfl ?_
   clear H a S;intro _ a S H
   replace S:=S.recell (i:=0) rfl (cell':=scell (setHi s9 d)) (fun k j hk hj=>by rw [show ((s9.length:Int)-1).toNat=s9.length-1 by omega];exact Lw (by omega) k j hj)
   rw [show s9.length=(setHi s9 d).length from (kE _ _).symm] at H S
   refine k12 _ _ ?_
   refine sO H<|sd (aI G G (by unfold i64ok;omega))<|sr 1 rfl<|sE ?_;clear H a;intro a H
   exact k9 (g1-1) (d+1,_,_,_) a _ (by omega) (⟨by omega,by omega,Uh hW (Lx (show d<y.days.toNat by omega) hc3) (by rw [show ((s9.length:Int)-1).toNat=s9.length-1 by omega] at hc4;exact ⟨by omega,hc4.2⟩)⟩) (S.sel [0,1,2] G G) (H.keep [10,25,8,24] rfl)
  try simp only [o1,o2,o3,o4,o5,o6,o7,o8,o9,oa] at hc4
  replace H:=H.keep [8,10,11,24,25] rfl
  refine cU ?_
  refine ls 4 H<|sr 3 rfl<|sd (aN iQ G G)<|sE ?_;clear H a;intro a H
  refine aK H rfl S cE aV dU G G G G G G G G G ?_;clear H a S;intro A1 _ a hA1 S H
  refine eE H rfl S cE aV dU Da G G (i:=1) G G G (ownM.inS S (i:=0) rfl) (nA (two G G)) (by omega) (by omega) ?_;clear H a S;intro A2 c2 _ a S H
  replace S:=S.recell (i:=1) rfl (cell':=scell (s9++[((d:Int),(d:Int))])) (fun k j hk hj=>Cf k j hk hj)
  rw [show s9.length+1=(s9++[((d:Int),(d:Int))]).length by simp] at H S
  refine ls 1 H<|sr 1 rfl<|sE ?_;clear H a;intro a H
  refine k12 _ _ ?_
  refine sO H<|sd (aI G G (by unfold i64ok;omega))<|sr 1 rfl<|sE ?_;clear H a;intro a H
  exact k9 (g1-1) (d+1,_,_,_) a _ (by omega) (⟨by omega,by omega,Ui hW (Lx (show d<y.days.toNat by omega) hc3) (fun h9=>by rw [show ((s9.length:Int)-1).toNat=s9.length-1 by omega] at hc4;exact hc4.elim (fun h=>by omega) (fun h=>h h9.2))⟩) (S.sel [1,2,3] G G) (H.keep [10,25,8,24] rfl)
 refine wp_exit ?_
 refine k7 _ _ ?_
 replace H:=H.keep [10] rfl
 refine sS H fun K23 k23=>sr 3 rfl<|sE ?_;clear H a;intro a H
 refine k23 _ ?_;clear k23 K23
 refine wp_ret ?_
 refine ret2 (fn:=Try.f18) rfl H G G ?_
 obtain rfl:d=y.days.toNat:=by omega
 have he:termL y l u=s9:=by unfold termL;rw [if_neg (by omega),hW]
 rw [he,hz]
 exact ⟨A9,c9,rfl,(S.sel [0] G G)⟩
end
section
theorem iL {l:List Use} {m k:Nat} (hk:k<m):(l.take m).getD k Use.zero=l.getD k Use.zero:=by
  rw [List.getD_eq_getElem?_getD,List.getD_eq_getElem?_getD,List.getElem?_take_of_lt hk]
theorem oY {p:Part} {l:List Use} {m:Nat}:∀ k,k≤m→fwd p (l.take m) k=fwd p l k:=by
  intro k
  induction k with
  | zero=>intro _;rfl
  | succ k ih=>
    intro hk
    rw [fwd,fwd,iL (show k<m by omega),ih (by omega)]
theorem vO {l:List Use} {m:Nat}:∀ k,k≤m→sumT (l.take m) k=sumT l k:=by
  intro k
  induction k with
  | zero=>intro _;rfl
  | succ k ih=>
    intro hk
    rw [sumT,sumT,iL (show k<m by omega),ih (by omega)]
theorem nH {l:List Use} {m k:Nat} (hk:k≤m):prevD (l.take m) k=prevD l k:=by
  cases k with
  | zero=>rfl
  | succ k=>show ((l.take m).getD k Use.zero).day=_;rw [iL (by omega)];rfl
theorem zP {n:Nat} {l:List Use} {m k:Nat} (hk:k≤m) (h:eB n l k=true):eB n (l.take m) k=true:=by
  unfold eB at *
  rw [List.all_eq_true] at *
  intro i hi
  have hi':=List.mem_range.1 hi
  rw [nH (by omega),iL (by omega)]
  exact h i hi
theorem Ha {n:Nat} {l:List Use} {k j:Nat} (hj:j≤k) (h:eB n l k=true):eB n l j=true:=by
  unfold eB at *
  rw [List.all_eq_true] at *
  intro i hi
  have hi':=List.mem_range.1 hi
  exact h i (List.mem_range.2 (by omega))
theorem Hb {p:Part} {l:List Use} (h:PartOk p l):cA p l=0:=by
  unfold cA
  rw [if_pos h.hdr,if_pos h.rates,if_pos h.len,if_pos h.uses]
theorem Qy {p:Part} {l:List Use} (h:PartOk p l) {m:Nat} (hm:m≤l.length):PartOk p (l.take m):=by
  have e:(l.take m).length=m:=by rw [List.length_take];omega
  refine ⟨h.hdr,h.rates,?_,?_⟩
  · have:=h.len;omega
  · rw [e];exact zP (Nat.le_refl _) (Ha hm h.uses)
theorem Mh {p:Part} {l:List Use} (h:PartOk p l) {k:Nat} (hk:k<l.length):(cI p (l.getD k Use.zero)).1≤(cI p (l.getD k Use.zero)).2:=by
  have hu:=h.use hk
  unfold useOk at hu
  simp only [decide_eq_true_eq] at hu
  have hr:=h.rate (k:=(l.getD k Use.zero).cls.toNat) (by omega)
  unfold gG at hr
  simp only [decide_eq_true_eq] at hr
  unfold cI
  exact Int.mul_le_mul_of_nonneg_left hr.2.1 (by omega)
theorem vP {p:Part} {l:List Use} (h:PartOk p l) {k:Nat} (hk:k<l.length) (hf:∀ j,k<j→j<l.length→(l.getD j Use.zero).meas=false):bH p l k=fwd p l (k+1):=by
  have key:∀ d,d<l.length→(∀ j,l.length-1-d<j→j<l.length→(l.getD j Use.zero).meas=false)→bkw p l d=fwd p l (l.length-d):=by
    intro d
    induction d with
    | zero=>intro _ _;rfl
    | succ d ih=>
      intro hd hf
      have h1:=ih (by omega) fun j h1 h2=>hf j (by omega) h2
      have h2:(l.getD (l.length-1-d) Use.zero).meas=false:=hf _ (by omega) (by omega)
      have h3:=Mh h (show l.length-1-d<l.length by omega)
      have e1:l.length-d=(l.length-1-d)+1:=by omega
      have e2:l.length-(d+1)=l.length-1-d:=by omega
      rw [bkw,h1,e1,e2,qZ h2]
      unfold meetS addS
      refine Prod.ext ?_ ?_
      · dsimp only;omega
      · dsimp only;omega
  unfold bH
  rw [key (l.length-1-k) (by omega) (fun j h1 h2=>hf j (by omega) h2)]
  congr 1
  omega
theorem Hc {p:Part} {l:List Use} (h:PartOk p l) {m:Nat} (hm:m≤l.length) (hf:∀ j,m≤j→j<l.length→(l.getD j Use.zero).meas=false):∀ d k,k+d+1=m→bH p (l.take m) k=bH p l k:=by
  have e:(l.take m).length=m:=by rw [List.length_take];omega
  intro d
  induction d with
  | zero=>
    intro k hk
    rw [vP h (by omega) (fun j h1 h2=>hf j (by omega) h2),vP (Qy h hm) (by omega) (fun j h1 h2=>by omega),oY _ (by omega)]
  | succ d ih=>
    intro k hk
    have h1:=ih (k+1) (by omega)
    rw [eF (l:=l.take m) (by omega),eF (l:=l) (by omega),h1,oY _ (by omega),iL (by omega)]
theorem He {p:Part} {l:List Use} {m k:Nat} (hk:k<m) (a:Int):wornB p (l.take m) k a=wornB p l k a:=by
  unfold wornB
  rw [vO _ (by omega),iL hk]
end
section
def inside (a b:Int×Int):Prop:=b.1≤a.1∧a.2≤b.2
def bC (day turns cls:Int):Use:=⟨day,turns,cls,false,0,0⟩
theorem Qz {p:Part} {l:List Use} (h:PartOk p l):∀ d k,k+d+1=l.length→(bH p l k).2≤(fwd p l l.length).2:=by
  intro d
  induction d with
  | zero=>intro k hk;rw [jP (by omega)];exact Int.le_refl _
  | succ d ih=>
    intro k hk
    have h1:=ih (k+1) (by omega)
    have h2:=kC h (show k+1<l.length by omega)
    rw [eF (by omega)]
    unfold meetS
    dsimp only
    omega
theorem uB (p:Part) (l:List Use):iE p l=(fwd p l l.length).2:=by
  unfold iE
  split
  · rename_i h;rw [h];rfl
  · rfl
theorem Ra {p:Part} {l:List Use} (h:PartOk p l):∀ d k,k+d=l.length→sumT l k≤sumT l l.length:=by
  intro d
  induction d with
  | zero=>intro k hk;rw [show k=l.length by omega];exact Int.le_refl _
  | succ d ih=>
    intro k hk
    have h1:=ih (k+1) (by omega)
    have hu:=h.use (show k<l.length by omega)
    unfold useOk at hu
    simp only [decide_eq_true_eq] at hu
    rw [sumT] at h1
    omega
theorem Um {p:Part} {l:List Use} (h:PartOk p l):∀ d k,k+d+1=l.length→(l.getD k Use.zero).day≤prevD l l.length:=by
  intro d
  induction d with
  | zero=>intro k hk;rw [show l.length=k+1 by omega];exact Int.le_refl _
  | succ d ih=>
    intro k hk
    have h1:=ih (k+1) (by omega)
    have hu:=h.use (show k+1<l.length by omega)
    unfold useOk at hu
    simp only [decide_eq_true_eq] at hu
    have:prevD l (k+1)=(l.getD k Use.zero).day:=rfl
    omega
theorem lU {l:List Use} {u:Use}:(l++[u]).getD l.length Use.zero=u:=by
  rw [List.getD_eq_getElem?_getD,List.getElem?_append_right (Nat.le_refl _)];simp
theorem hY (l:List Use) (u:Use):(l++[u]).take l.length=l:=by simp
theorem Rb {p:Part} {l:List Use} (h:PartOk p l) {day turns cls:Int} (hl:l.length<40) (hd:prevD l l.length≤day∧day≤100000) (ht:0≤turns∧turns≤1000000) (hc:0≤cls∧cls≤(p.rates.length:Int)-1):PartOk p (l++[bC day turns cls]):=by
  refine ⟨h.hdr,h.rates,by simp;omega,?_⟩
  have e:(l++[bC day turns cls]).length=l.length+1:=by simp
  unfold eB
  rw [e,gV (n:=0),Bool.and_eq_true]
  constructor
  · rw [List.all_eq_true]
    intro i hi
    have hi':=List.mem_range.1 hi
    have h1:=h.use hi'
    have e1:prevD (l++[bC day turns cls]) i=prevD l i:=by
      have:=nH (l:=l++[bC day turns cls]) (m:=l.length) (k:=i) (by omega)
      rw [hY] at this;exact this.symm
    have e2:(l++[bC day turns cls]).getD i Use.zero=l.getD i Use.zero:=by
      have:=iL (l:=l++[bC day turns cls]) (m:=l.length) (k:=i) hi'
      rw [hY] at this;exact this.symm
    rw [e1,e2];exact h1
  · have e1:prevD (l++[bC day turns cls]) l.length=prevD l l.length:=by
      have:=nH (l:=l++[bC day turns cls]) (m:=l.length) (k:=l.length) (Nat.le_refl _)
      rw [hY] at this;exact this.symm
    rw [e1,lU]
    unfold useOk bC
    simp only [decide_eq_true_eq]
    refine ⟨by omega,by omega,by omega,by omega,fun _=>by constructor <;> trivial⟩
theorem Rc {p:Part} {l:List Use} {day turns cls:Int} (h:IsAt p l l.length):IsAt p (l++[bC day turns cls]) (l++[bC day turns cls]).length:=by
  have e:(l++[bC day turns cls]).length=l.length+1:=by simp
  rw [e]
  refine ⟨by omega,fun k hk=>?_,fun h=>by omega⟩
  by_cases hk2:k<l.length
  · have h1:=h.good k hk2
    have e2:=iL (l:=l++[bC day turns cls]) (m:=l.length) (k:=k) hk2
    have e3:=oY (p:=p) (l:=l++[bC day turns cls]) (m:=l.length) (k+1) (by omega)
    rw [hY] at e2 e3
    unfold fits at *
    rw [←e2,←e3];exact h1
  · rw [show k=l.length by omega]
    refine oP ?_
    rw [lU];rfl
theorem zQ {p:Part} {l:List Use} (h:PartOk p l) (hA:IsAt p l l.length) {day turns cls:Int} (hl:l.length<40) (hd:prevD l l.length≤day∧day≤100000) (ht:0≤turns∧turns≤1000000) (hc:0≤cls∧cls≤(p.rates.length:Int)-1)
    (h1:day≤p.age) (h2:sumT l l.length≤p.turns) (h3:iE p l≤p.worn*1000000) :
    (dA p (l++[bC day turns cls]) Prod.snd).2=0∧((dA p (l++[bC day turns cls]) Prod.snd).1<0↔sumT l l.length+turns≤p.turns∧iE p l+turns*(p.rates.getD cls.toNat (0,0)).2≤p.worn*1000000):=by
  have hok:=Rb h hl hd ht hc
  have hW:wearE p (l++[bC day turns cls])=0:=lQ (Hb hok) (Rc hA)
  rw [Wn _ hW]
  refine ⟨rfl,?_⟩
  dsimp only
  have e:(l++[bC day turns cls]).length=l.length+1:=by simp
  have early:∀ k,k<l.length→wornB p (l++[bC day turns cls]) k (Prod.snd (bH p (l++[bC day turns cls]) k))=false:=by
    intro k hk
    have t1:=He (p:=p) (l:=l++[bC day turns cls]) (m:=l.length) hk (Prod.snd (bH p (l++[bC day turns cls]) k))
    have t2:=Hc hok (m:=l.length) (by omega) (fun j h4 h5=>by rw [show j=l.length by omega,lU];rfl) (l.length-1-k) k (by omega)
    rw [hY] at t1 t2
    rw [←t1,←t2]
    have b1:=Qz h (l.length-1-k) k (by omega)
    have b2:=Ra h (l.length-1-k) (k+1) (by omega)
    have b3:=Um h (l.length-1-k) k (by omega)
    rw [uB] at h3
    unfold wornB
    simp only [Bool.or_eq_false_iff,decide_eq_false_iff_not]
    omega
  have f1:fwd p (l++[bC day turns cls]) l.length=fwd p l l.length:=by
    have:=oY (p:=p) (l:=l++[bC day turns cls]) (m:=l.length) l.length (Nat.le_refl _)
    rw [hY] at this;exact this.symm
  have s1:sumT (l++[bC day turns cls]) l.length=sumT l l.length:=by
    have:=vO (l:=l++[bC day turns cls]) (m:=l.length) l.length (Nat.le_refl _)
    rw [hY] at this;exact this.symm
  have last:wornB p (l++[bC day turns cls]) l.length (Prod.snd (bH p (l++[bC day turns cls]) l.length))=!(decide (sumT l l.length+turns≤p.turns)&&decide (iE p l+turns*(p.rates.getD cls.toNat (0,0)).2≤p.worn*1000000)):=by
    rw [jP (by omega),e,qZ (by rw [lU];rfl),f1]
    unfold wornB
    rw [sumT,s1,lU,uB]
    rw [Bool.eq_iff_iff]
    simp only [Bool.or_eq_true,decide_eq_true_eq,Bool.not_eq_true',Bool.and_eq_false_iff,decide_eq_false_iff_not]
    unfold addS cI bC
    dsimp only
    omega
  rcases oQ (fun k=>wornB p (l++[bC day turns cls]) k (Prod.snd (bH p (l++[bC day turns cls]) k))) (l++[bC day turns cls]).length with ⟨g1,g2⟩|⟨k,hk,g1,g2,g3⟩
  · rw [g1]
    have g4:=g2 l.length (by omega)
    rw [last] at g4
    simp only [Bool.not_eq_false',Bool.and_eq_true,decide_eq_true_eq] at g4
    exact ⟨fun _=>g4,fun _=>by decide⟩
  · rw [g1]
    constructor
    · intro hlt;omega
    · intro hle
      exfalso
      rcases Nat.lt_or_ge k l.length with h5|h5
      · rw [early k h5] at g2;cases g2
      · rw [show k=l.length by omega,last,decide_eq_true hle.1,decide_eq_true hle.2] at g2
        cases g2
end
section
theorem Mi {p:Part} {l:List Use} (h:PartOk p l) (hA:IsAt p l l.length) {day turns cls:Int} (hl:l.length<40) (hd:prevD l l.length≤day∧day≤100000) (ht:0≤turns∧turns≤1000000) (hc:0≤cls∧cls≤(p.rates.length:Int)-1)
    (h1:day≤p.age) (h2:sumT l l.length≤p.turns) (h3:iE p l≤p.worn*1000000):bydB p (l++[bC day turns cls])=!(decide (sumT l l.length+turns≤p.turns)&&decide (iE p l+turns*(p.rates.getD cls.toNat (0,0)).2≤p.worn*1000000)):=by
  obtain ⟨e1,e2⟩:=zQ h hA hl hd ht hc h1 h2 h3
  unfold bydB
  rw [decide_eq_true e1,Bool.not_true,Bool.false_or]
  by_cases h9:sumT l l.length+turns≤p.turns∧iE p l+turns*(p.rates.getD cls.toNat (0,0)).2≤p.worn*1000000
  · have:=e2.2 h9
    rw [decide_eq_true h9.1,decide_eq_true h9.2,decide_eq_false (by omega)];rfl
  · have h8:¬ (dA p (l++[bC day turns cls]) Prod.snd).1<0:=fun h=>h9 (e2.1 h)
    rw [decide_eq_true (p:=0≤_) (by omega)]
    by_cases h7:sumT l l.length+turns≤p.turns
    · rw [decide_eq_true h7,decide_eq_false (fun h=>h9 ⟨h7,h⟩)];rfl
    · rw [decide_eq_false h7];rfl
theorem pS {p:Part} {l:List Use} (h:∀ k,k<l.length→(l.getD k Use.zero).meas=false):IsAt p l l.length:=
  ⟨Nat.le_refl _,fun k hk=>oP (h k hk),fun h=>absurd h (Nat.lt_irrefl _)⟩
def exPr:List Prm:=[⟨0,2,0,0,false⟩,⟨0,2,2,3,false⟩]
def exPt:Part:=⟨[(1,2)],1,1000000,1000⟩
def exU0 (RA:Option Addr) (rc:Nat):Unt:=⟨0,2,0,[(1,2)],RA,rc,1,1000000,1000,[],none,0,0,400000,0,0⟩
def exU1 (RA:Option Addr) (rc:Nat):Unt:=⟨1,2,0,[(1,2)],RA,rc,1,1000000,1000,[],none,0,0,1000,0,1⟩
def exU (RA:Option Addr) (rc:Nat):List Unt:=[exU0 RA rc,exU1 RA rc]
def exYr (PA:Option Addr) (pc:Nat) (XA:Option Addr) (xc:Nat) (BA:Option Addr) (bc:Nat) (QA:Option Addr) (qc:Nat) (VA:Option Addr) (vc:Nat) (RA:Option Addr) (rc:Nat):Yr:=⟨4,4,w8exW,PA,pc,exX,XA,xc,w8exP,BA,bc,6,false,exPr,QA,qc,exU RA rc,VA,vc,1,[],none,0⟩
section
variable {PA:Option Addr} {pc:Nat} {XA:Option Addr} {xc:Nat} {BA:Option Addr} {bc:Nat} {QA:Option Addr} {qc:Nat} {VA:Option Addr} {vc:Nat} {RA:Option Addr} {rc:Nat}
theorem Mj:keptE 4 w8exW exX [] exPr=0:=by decide +kernel
theorem Mk (k:Nat) (hk:k<2):untB w8exW (exU RA rc) k=true:=by
  rw [jJ]
  match k,hk with
  | 0,_=>exact ⟨pQ.2 ⟨⟨1,by decide,by decide,rfl⟩,fun k hk=>absurd hk (Nat.not_lt_zero k)⟩,(show untI (exU0 none 0) by decide),lQ (show cA exPt []=0 by decide +kernel) (pS fun q hq=>absurd hq (Nat.not_lt_zero q))⟩
  | 1,_=>exact ⟨pQ.2 ⟨⟨2,by decide,by decide,rfl⟩,fun k hk=>by
      have:k=0:=by omega
      subst this
      exact (by decide:(0:Int)≠1)⟩,(show untI (exU1 none 0) by decide),lQ (show cA exPt []=0 by decide +kernel) (pS fun q hq=>absurd hq (Nat.not_lt_zero q))⟩
theorem zR:yearE (exYr PA pc XA xc BA bc QA qc VA vc RA rc)=0:=
  tN Mj (show yrI (exYr none 0 none 0 none 0 none 0 none 0 none 0) by unfold yrI;decide +kernel) (by show ¬ 6<2;decide) (bB.2 fun k hk=>Mk k hk)
end
theorem pT (l:List Use) {day turns:Int} {b:Bool} (h:cA exPt l=0) (hm:∀ k,k<l.length→(l.getD k Use.zero).meas=false) (hl:l.length<40) (hd:prevD l l.length≤day∧day≤1000) (ht:0≤turns∧turns≤1000000)
    (h2:sumT l l.length≤1000000) (h3:iE exPt l≤1000000) (hb:b=(decide (sumT l l.length+turns≤1000000)&&decide (iE exPt l+turns*2≤1000000))):bydB exPt (l++[bC day turns 0])=!b:=by
  rw [Mi (jA h) (pS hm) hl (by omega) ht (by decide) (by show day≤1000;omega) (by show _≤(1000000:Int);omega) (by show _≤(1:Int)*1000000;omega),hb]
  rfl
def us1 (d:Int) (t:Int):Use:=⟨d,t,0,false,0,0⟩
section
variable {RA:Option Addr} {rc:Nat} {J:Nat→Int}
theorem m1 {P:Use→Prop} {u:Use} (h:P u):∀ k,k<[u].length→P ([u].getD k Use.zero):=fun k hk=>by
  have:k=0:=by simp at hk;omega
  subst this
  exact h
theorem m2 {P:Use→Prop} {u v:Use} (h:P u) (h':P v):∀ k,k<[u,v].length→P ([u,v].getD k Use.zero):=fun k hk=>by
  have:k=0∨k=1:=by simp at hk;omega
  rcases this with rfl|rfl
  · exact h
  · exact h'
theorem byd0 (t:Int) (ht:t=400000∨t=1000):bydB exPt [bC 0 t 0]=false:=by
  rcases ht with rfl|rfl
  · exact pT [] (b:=true) (by decide +kernel) (fun q hq=>absurd hq (Nat.not_lt_zero q)) (by decide) (by decide) (by decide) (by decide) (by decide) (by decide +kernel)
  · exact pT [] (b:=true) (by decide +kernel) (fun q hq=>absurd hq (Nat.not_lt_zero q)) (by decide) (by decide) (by decide) (by decide) (by decide) (by decide +kernel)
theorem byd1 (d:Int) (hd:0≤d∧d≤1000):bydB exPt [us1 0 400000,bC d 400000 0]=true:=
  pT [us1 0 400000] (b:=false) (by decide +kernel) (m1 (P:=fun u=>u.meas=false) rfl) (by decide) hd (by decide) (by decide +kernel) (by decide +kernel) (by decide +kernel)
theorem byd2 (d:Int) (hd:0≤d∧d≤1000):bydB exPt [us1 0 1000,bC d 1000 0]=false:=
  pT [us1 0 1000] (b:=true) (by decide +kernel) (m1 (P:=fun u=>u.meas=false) rfl) (by decide) hd (by decide) (by decide +kernel) (by decide +kernel) (by decide +kernel)
theorem byd3:bydB exPt [us1 0 1000,us1 1 1000,bC 2 1000 0]=false:=
  pT [us1 0 1000,us1 1 1000] (b:=true) (by decide +kernel) (m2 (P:=fun u=>u.meas=false) G G) (by decide) (by decide) (by decide) (by decide +kernel) (by decide +kernel) (by decide +kernel)
theorem byd4:bydB exPt [us1 0 1000,us1 2 1000,bC 3 1000 0]=false:=
  pT [us1 0 1000,us1 2 1000] (b:=true) (by decide +kernel) (m2 (P:=fun u=>u.meas=false) G G) (by decide) (by decide) (by decide) (by decide +kernel) (by decide +kernel) (by decide +kernel)
theorem nI {u:Unt} {s:LSt} {j:Int} {d:Nat} {b b':Bool} (h:bydB u.part (s.uses++[useAt u d s.born])=b) (h2:b'=((decide (j=0)&&certN u s j d)&&!b)):runN u s j d=b':=by unfold runN;rw [h,h2]
theorem uD {u:Unt} {s:LSt} {j:Int} {d:Nat} (h:runN u s j d=true) (hr:renw j=false):stepL u s j d=⟨s.uses++[useAt u d s.born],s.born,seenN s j d⟩:=by unfold stepL;rw [hr,h];rfl
theorem Ml {u:Unt} {s:LSt} {j:Int} {d:Nat} (h:runN u s j d=false) (hr:renw j=false):stepL u s j d=⟨s.uses,s.born,seenN s j d⟩:=by unfold stepL;rw [hr,h];rfl
theorem Wu (h:J 0=0):runB' (exU0 RA rc) J 0=true:=by
  show runN (exU0 RA rc) ⟨[],0,0⟩ (J 0) 0=true
  rw [h];exact nI (byd0 400000 (.inl rfl)) rfl
theorem Xh (h:J 0=0):lifeS (exU0 RA rc) J 1=⟨[us1 0 400000],0,0⟩:=by
  show stepL (exU0 RA rc) ⟨[],0,0⟩ (J 0) 0=_
  have h1:runN (exU0 RA rc) ⟨[],0,0⟩ (J 0) 0=true:=Wu (RA:=RA) (rc:=rc) h
  rw [h] at h1 ⊢
  rw [uD h1 (by decide)];rfl
theorem Re {d:Nat} (hd:d≤3) (s j:Int):runN (exU0 RA rc) ⟨[us1 0 400000],0,s⟩ j d=false:=
  nI (b:=true) (by
    show bydB exPt [us1 0 400000,bC ((d:Int)-0) 400000 0]=true
    rw [Int.sub_zero];exact byd1 d (by omega)) (by simp)
theorem Wv {d:Nat} (hd:d≤3) (h1:lifeS (exU0 RA rc) J d=⟨[us1 0 400000],0,0⟩) (h:J d=0):lifeS (exU0 RA rc) J (d+1)=⟨[us1 0 400000],0,0⟩:=by
  show stepL (exU0 RA rc) (lifeS (exU0 RA rc) J d) (J d) d=_
  rw [h1,h,Ml (Re hd 0 0) (by decide)];rfl
theorem z0 (h:∀ d,J d=0) {d:Nat} (hd:d≤3):runB' (exU0 RA rc) J d=decide (d=0):=by
  have h1:=Xh (RA:=RA) (rc:=rc) (h 0)
  have h2:=Wv (by omega) h1 (h 1)
  have h3:=Wv (by omega) h2 (h 2)
  match d,hd with
  | 0,_=>exact Wu (h 0)
  | 1,_=>unfold runB';rw [h1];exact Re (by omega) _ _
  | 2,_=>unfold runB';rw [h2];exact Re (by omega) _ _
  | 3,_=>unfold runB';rw [h3];exact Re (by omega) _ _
theorem Un (h:J 0=0):runB' (exU1 RA rc) J 0=true:=by
  show runN (exU1 RA rc) ⟨[],0,0⟩ (J 0) 0=true
  rw [h];exact nI (byd0 1000 (.inr rfl)) rfl
theorem Ww (h:J 0=0):lifeS (exU1 RA rc) J 1=⟨[us1 0 1000],0,0⟩:=by
  show stepL (exU1 RA rc) ⟨[],0,0⟩ (J 0) 0=_
  have h1:runN (exU1 RA rc) ⟨[],0,0⟩ (J 0) 0=true:=Un (RA:=RA) (rc:=rc) h
  rw [h] at h1 ⊢
  rw [uD h1 (by decide)];rfl
theorem Uo (h:∀ d,J d=0) {d:Nat} (hd:d≤3):runB' (exU1 RA rc) J d=decide (d≠3):=by
  have h1:=Ww (RA:=RA) (rc:=rc) (h 0)
  have r1:runN (exU1 RA rc) ⟨[us1 0 1000],0,0⟩ 0 1=true:=nI (byd2 1 (by decide)) rfl
  have h2:lifeS (exU1 RA rc) J 2=⟨[us1 0 1000,us1 1 1000],0,0⟩:=by
    show stepL (exU1 RA rc) (lifeS (exU1 RA rc) J 1) (J 1) 1=_
    rw [h1,h 1,uD r1 (by decide)];rfl
  have r2:runN (exU1 RA rc) ⟨[us1 0 1000,us1 1 1000],0,0⟩ 0 2=true:=nI byd3 rfl
  have h3:(lifeS (exU1 RA rc) J 3).seen=0:=by
    show (stepL (exU1 RA rc) (lifeS (exU1 RA rc) J 2) (J 2) 2).seen=_
    rw [h2,h 2,uD r2 (by decide)];rfl
  match d,hd with
  | 0,_=>exact Un (h 0)
  | 1,_=>unfold runB';rw [h1,h 1];exact r1
  | 2,_=>unfold runB';rw [h2,h 2];exact r2
  | 3,_=>
    unfold runB' runN
    have:certN (exU1 RA rc) (lifeS (exU1 RA rc) J 3) (J 3) 3=false:=by
      unfold certN seenN
      rw [h3,h 3];rfl
    rw [this,Bool.and_false,Bool.false_and];rfl
theorem Up (h0:J 0=0) (h1':J 1=2) (h2':J 2=0) (h3':J 3=0) {d:Nat} (hd:d≤3):runB' (exU1 RA rc) J d=decide (d≠1):=by
  have h1:=Ww (RA:=RA) (rc:=rc) h0
  have r1:runN (exU1 RA rc) ⟨[us1 0 1000],0,0⟩ 2 1=false:=by unfold runN;rfl
  have h2:lifeS (exU1 RA rc) J 2=⟨[us1 0 1000],0,1⟩:=by
    show stepL (exU1 RA rc) (lifeS (exU1 RA rc) J 1) (J 1) 1=_
    rw [h1,h1',Ml r1 (by decide)];rfl
  have r2:runN (exU1 RA rc) ⟨[us1 0 1000],0,1⟩ 0 2=true:=nI (byd2 2 (by decide)) rfl
  have h3:lifeS (exU1 RA rc) J 3=⟨[us1 0 1000,us1 2 1000],0,1⟩:=by
    show stepL (exU1 RA rc) (lifeS (exU1 RA rc) J 2) (J 2) 2=_
    rw [h2,h2',uD r2 (by decide)];rfl
  match d,hd with
  | 0,_=>exact Un h0
  | 1,_=>unfold runB';rw [h1,h1'];exact r1
  | 2,_=>unfold runB';rw [h2,h2'];exact r2
  | 3,_=>unfold runB';rw [h3,h3'];exact nI byd4 rfl
end
end
section
def ex6 (i:Nat):Int:=[6,1,0,-1].getD i (-1)
def ex3 (i:Nat):Int:=[-1,1,0,-1].getD i (-1)
theorem Mm (out:Int) (h2:oth out false (w8exW.getD 2 Psg.zero) 0=((1:Nat):Int)) (h3:oth out false (w8exW.getD 3 Psg.zero) 1=((2:Nat):Int)) (key:∀ i:Nat,i<4→∀ k:Nat,k<5→(oth out false (w8exW.getD k Psg.zero) i<0∨ex6 (oth out false (w8exW.getD k Psg.zero) i).toNat<0∨(0≤ex6 i∧ex6 i≤ex6 (oth out false (w8exW.getD k Psg.zero) i).toNat+(w8exW.getD k Psg.zero).ticks))):FarOk 4 w8exW out false 2 ex6:=by
  have w2:Wk w8exW out false 2 2 0 []:=Wk.nil 2
  have w1:Wk w8exW out false 1 2 1 [3]:=Wk.cons (k:=3) (by decide) h3 w2
  have w0:Wk w8exW out false 0 2 6 [2,3]:=Wk.cons (k:=2) (by decide) h2 w1
  refine ⟨rfl,fun i=>?_,fun i hi h0=>?_,fun i hi k hk=>lP (key i hi k hk),fun i hi=>?_⟩
  · unfold ex6
    match i with
    | 0=>decide
    | 1=>decide
    | 2=>decide
    | 3=>decide
    | n+4=>exact Int.le_refl _
  · match i,hi with
    | 0,_=>exact ⟨_,w0⟩
    | 1,_=>exact ⟨_,w1⟩
    | 2,_=>exact ⟨_,w2⟩
    | 3,_=>exact absurd h0 (by decide)
  · have key:∀ i:Nat,i<4→ex6 i≤200:=by decide +kernel
    exact key i hi
theorem Uq:FarOk 4 w8exW 3 false 2 ex3:=by
  have w2:Wk w8exW 3 false 2 2 0 []:=Wk.nil 2
  have w1:Wk w8exW 3 false 1 2 1 [3]:=Wk.cons (k:=3) (by decide) (by decide +kernel) w2
  refine ⟨rfl,fun i=>?_,fun i hi h0=>?_,fun i hi k hk=>lP ?_,fun i hi=>?_⟩
  · unfold ex3
    match i with
    | 0=>decide
    | 1=>decide
    | 2=>decide
    | 3=>decide
    | n+4=>exact Int.le_refl _
  · match i,hi with
    | 0,_=>exact absurd h0 (by decide)
    | 1,_=>exact ⟨_,w1⟩
    | 2,_=>exact ⟨_,w2⟩
    | 3,_=>exact absurd h0 (by decide)
  · have key:∀ i:Nat,i<4→∀ k:Nat,k<5→(oth 3 false (w8exW.getD k Psg.zero) i<0∨ex3 (oth 3 false (w8exW.getD k Psg.zero) i).toNat<0∨(0≤ex3 i∧ex3 i≤ex3 (oth 3 false (w8exW.getD k Psg.zero) i).toNat+(w8exW.getD k Psg.zero).ticks)):=by decide +kernel
    exact key i hi k hk
  · have key:∀ i:Nat,i<4→ex3 i≤200:=by decide +kernel
    exact key i hi
theorem exD0:dst 4 w8exW 0 false 2 0=6:=jV exV.psv (Mm 0 (by decide +kernel) (by decide +kernel) (by decide +kernel)) (by decide)
theorem exD1:dst 4 w8exW 1 false 2 0=6:=jV exV.psv (Mm 1 (by decide +kernel) (by decide +kernel) (by decide +kernel)) (by decide)
theorem exD3:dst 4 w8exW 3 false 2 0 = -1:=jV exV.psv Uq (by decide)
def exM0:List Mv:=[⟨0,0,0,2⟩,⟨0,0,1,2⟩,⟨0,0,2,2⟩,⟨1,0,2,2⟩,⟨1,0,3,2⟩,⟨3,1,3,2⟩,⟨3,1,4,4⟩,⟨3,1,5,4⟩]
def exM1:List Mv:=[⟨0,0,0,2⟩,⟨0,0,1,2⟩,⟨0,0,2,2⟩,⟨1,0,0,2⟩,⟨1,0,1,2⟩,⟨3,1,3,2⟩,⟨3,1,4,4⟩,⟨3,1,5,4⟩]
theorem exPe:PeOk w8exP:=by
  have key:∀ k:Nat,k<4→0≤w8exP.getD k 0∧w8exP.getD k 0≤1000:=by decide
  exact key
theorem exAll0:mfv 4 6 w8exP exX (hds 0 exX w8exW)=10:=by
  have h1:=Dm (T:=6) exV (by decide:(0:Int)≤0) exPe (by decide) (show planB w8exW exX 0 w8exP exM0 4=true by decide +kernel)
  have h2:=Dl (T:=6) exV (by decide:(0:Int)≤0) exPe
  have e1:outN w8exW exX 0 w8exP exM0 4 6=10:=by decide +kernel
  have e2:sumI w8exP 4=10:=by decide +kernel
  omega
theorem exAll1:mfv 4 6 w8exP exX (hds 1 exX w8exW)=10:=by
  have h1:=Dm (T:=6) exV (by decide:(0:Int)≤1) exPe (by decide) (show planB w8exW exX 1 w8exP exM1 4=true by decide +kernel)
  have h2:=Dl (T:=6) exV (by decide:(0:Int)≤1) exPe
  have e1:outN w8exW exX 1 w8exP exM1 4 6=10:=by decide +kernel
  have e2:sumI w8exP 4=10:=by decide +kernel
  omega
def exJob:List Tsk:=[⟨1,1,1⟩]
section
variable {PA:Option Addr} {pc:Nat} {XA:Option Addr} {xc:Nat} {BA:Option Addr} {bc:Nat} {QA:Option Addr} {qc:Nat} {VA:Option Addr} {vc:Nat} {RA:Option Addr} {rc:Nat}
theorem Rf:taskE (exYr PA pc XA xc BA bc QA qc VA vc RA rc) []=0:=oV zR (by decide) rfl
theorem Rg:taskE (exYr PA pc XA xc BA bc QA qc VA vc RA rc) exJob=0:=oV zR (by decide) (bB.2 fun k hk=>by
  have:k=0:=by have:exJob.length=1:=rfl;omega
  subst this
  rfl)
theorem zS {l:List Tsk} {d:Nat} {a b:Bool} (ha:runsY (exYr PA pc XA xc BA bc QA qc VA vc RA rc) l 0 d=a) (hb:runsY (exYr PA pc XA xc BA bc QA qc VA vc RA rc) l 1 d=b):outY (exYr PA pc XA xc BA bc QA qc VA vc RA rc) l d 2=(if a=true then 0 else 1)+(if b=true then 0 else 2):=by
  show (0+(if runsY (exYr PA pc XA xc BA bc QA qc VA vc RA rc) l 0 d=true then 0 else 2^0))+(if runsY (exYr PA pc XA xc BA bc QA qc VA vc RA rc) l 1 d=true then 0 else 2^1)=_
  rw [ha,hb]
  cases a <;> cases b <;> rfl
theorem exR0 {l:List Tsk} (h:∀ d,jobF l 0 d=0) {d:Nat} (hd:d≤3):runsY (exYr PA pc XA xc BA bc QA qc VA vc RA rc) l 0 d=decide (d=0):=z0 (RA:=RA) (rc:=rc) h hd
theorem exJ0 (d:Nat):jobF exJob 0 d=0:=by
  unfold jobF jobV hasT exJob
  simp
theorem exR1n {d:Nat} (hd:d≤3):runsY (exYr PA pc XA xc BA bc QA qc VA vc RA rc) [] 1 d=decide (d≠3):=Uo (RA:=RA) (rc:=rc) (J:=jobF [] 1) (fun _=>rfl) hd
theorem exR1o {d:Nat} (hd:d≤3):runsY (exYr PA pc XA xc BA bc QA qc VA vc RA rc) exJob 1 d=decide (d≠1):=Up (RA:=RA) (rc:=rc) (J:=jobF exJob 1) (by decide +kernel) (by decide +kernel) (by decide +kernel) (by decide +kernel) hd
theorem exOn {d:Nat} (hd:d≤3):outY (exYr PA pc XA xc BA bc QA qc VA vc RA rc) [] d (exYr PA pc XA xc BA bc QA qc VA vc RA rc).us.length=[0,1,1,3].getD d 0:=by
  show outY (exYr PA pc XA xc BA bc QA qc VA vc RA rc) [] d 2=_
  rw [zS (exR0 (fun _=>rfl) hd) (exR1n hd)]
  match d,hd with
  | 0,_=>rfl
  | 1,_=>rfl
  | 2,_=>rfl
  | 3,_=>rfl
theorem exOo {d:Nat} (hd:d≤3):outY (exYr PA pc XA xc BA bc QA qc VA vc RA rc) exJob d (exYr PA pc XA xc BA bc QA qc VA vc RA rc).us.length=[0,3,1,1].getD d 0:=by
  show outY (exYr PA pc XA xc BA bc QA qc VA vc RA rc) exJob d 2=_
  rw [zS (exR0 exJ0 hd) (exR1o hd)]
  match d,hd with
  | 0,_=>rfl
  | 1,_=>rfl
  | 2,_=>rfl
  | 3,_=>rfl
theorem rD {d out:Int} {a b:Bool} (ha:prmB (exYr PA pc XA xc BA bc QA qc VA vc RA rc) d out 0=a) (hb:prmB (exYr PA pc XA xc BA bc QA qc VA vc RA rc) d out 1=b):keepB (exYr PA pc XA xc BA bc QA qc VA vc RA rc) d out=((true&&a)&&b):=by rw [←ha,←hb];rfl
theorem Ed {d out x:Int} (h:dst 4 w8exW out false 2 0=x):prmB (exYr PA pc XA xc BA bc QA qc VA vc RA rc) d out 0=(!(decide (0≤d)&&decide (d≤0))||decide (0≤x)):=by rw [←h];rfl
theorem Ee {d out x:Int} (h:dst 4 w8exW out false 2 0=x):prmB (exYr PA pc XA xc BA bc QA qc VA vc RA rc) d out 1=(!(decide (2≤d)&&decide (d≤3))||decide (0≤x)):=by rw [←h];rfl
theorem Wx:keepB (exYr PA pc XA xc BA bc QA qc VA vc RA rc) (0:Nat) 0=true:=rD (Ed exD0) (Ee exD0)
theorem Wy:keepB (exYr PA pc XA xc BA bc QA qc VA vc RA rc) (1:Nat) 1=true:=rD (Ed exD1) (Ee exD1)
theorem Wz:keepB (exYr PA pc XA xc BA bc QA qc VA vc RA rc) (2:Nat) 1=true:=rD (Ed exD1) (Ee exD1)
theorem Xa:keepB (exYr PA pc XA xc BA bc QA qc VA vc RA rc) (3:Nat) 3=false:=rD (Ed exD3) (Ee exD3)
theorem Xb:leavB (exYr PA pc XA xc BA bc QA qc VA vc RA rc) 0=true:=decide_eq_true (show mfv 4 6 w8exP exX (hds 0 exX w8exW)=sumI w8exP 4 from exAll0.trans (by decide +kernel))
theorem Sy:leavB (exYr PA pc XA xc BA bc QA qc VA vc RA rc) 1=true:=decide_eq_true (show mfv 4 6 w8exP exX (hds 1 exX w8exW)=sumI w8exP 4 from exAll1.trans (by decide +kernel))
theorem Ch {d:Nat} (hd:d≤3) {o:Int} (ho:[0,1,1,3].getD d 0=o) (hk:keepB (exYr PA pc XA xc BA bc QA qc VA vc RA rc) d o=true) (hl:leavB (exYr PA pc XA xc BA bc QA qc VA vc RA rc) o=true):dW (exYr PA pc XA xc BA bc QA qc VA vc RA rc) [] d=0:=
  Dy (by show ¬ (1:Int)<0;decide) rfl (by rw [exOn hd,ho];exact hk) (by rw [exOn hd,ho];exact hl)
theorem Mn:kS (exYr PA pc XA xc BA bc QA qc VA vc RA rc) []=(3,3):=by
  have h3:dW (exYr PA pc XA xc BA bc QA qc VA vc RA rc) [] 3=3:=xF (by show ¬ (1:Int)<0;decide) rfl (by rw [exOn (by decide)];exact Xa)
  rw [lS (d:=3) (by show 3<(4:Int).toNat;decide) (fun q hq=>?_) (by rw [h3];decide),h3]
  · rfl
  · match q,hq with
    | 0,_=>exact Ch (by decide) (o:=0) rfl Wx Xb
    | 1,_=>exact Ch (by decide) (o:=1) rfl Wy Sy
    | 2,_=>exact Ch (by decide) (o:=1) rfl Wz Sy
end
end
section
def MList (ps:List Psg) (k:Nat) (ml:List Int):Prop:=ml.length≤k∧∀ m,0≤m→(hasI ml m=true↔¬ cntM ps m k=0)
theorem MList.nil {ps:List Psg}:MList ps 0 []:=⟨Nat.le_refl 0,fun m _=>by
  constructor
  · intro h;cases h
  · intro h;exact absurd rfl h⟩
theorem vQ {ps:List Psg} {m:Int} {k:Nat}:cntM ps m (k+1)=cntM ps m k+(if cC ps k=m then 1 else 0):=rfl
theorem Hf {l:List Int} {x m:Int}:hasI (l++[x]) m=(hasI l m||decide (m=x)):=by unfold hasI;rw [List.any_append];simp
theorem MList.add {ps:List Psg} {k:Nat} {ml:List Int} (h:MList ps k ml):MList ps (k+1) (ml++[cC ps k]):=⟨by rw [List.length_append];have:=h.1;simp;omega,fun m hm=>by
  have h1:=h.2 m hm
  have h2:=Dc (ps:=ps) (m:=m) (k:=k)
  rw [Hf,vQ,Bool.or_eq_true,decide_eq_true_eq,h1]
  by_cases e:cC ps k=m
  · rw [if_pos e];exact ⟨fun _=>by omega,fun _ => .inr e.symm⟩
  · rw [if_neg e,Int.add_zero];exact ⟨fun g=>g.resolve_right (fun g=>e g.symm),.inl⟩⟩
theorem MList.skip {ps:List Psg} {k:Nat} {ml:List Int} (h:MList ps k ml) (hk:cC ps k<0):MList ps (k+1) ml:=⟨by have:=h.1;omega,fun m hm=>by
  rw [vQ,if_neg (by omega),Int.add_zero]
  exact h.2 m hm⟩
theorem MList.fresh {ps:List Psg} {k:Nat} {ml:List Int} (h:MList ps k ml) (h0:0≤(ps.getD k Psg.zero).mach) (hh:hasI ml (ps.getD k Psg.zero).mach=false):cntM ps (cC ps k) k=0:=by
  have h9:=h.2 _ h0
  rw [hh] at h9
  have h8:cC ps k=(ps.getD k Psg.zero).mach:=rfl
  rw [h8]
  simp only [Bool.false_eq_true,false_iff] at h9
  omega
theorem oZ {pl:Int} {ps:List Psg} {k:Nat} (h:psgOk pl (ps.getD k Psg.zero)=true) (hz:cntM ps (cC ps k) k=0):pasOk pl ps k=true:=by unfold pasOk;rw [h,decide_eq_true (.inr hz)];rfl
theorem pA {pl:Int} {ps:List Psg} {k:Nat} (h:psgOk pl (ps.getD k Psg.zero)=true) (hz:(ps.getD k Psg.zero).mach<0):pasOk pl ps k=true:=by unfold pasOk;rw [h,decide_eq_true (.inl hz)];rfl
theorem Rh {pl:Int} {ps:List Psg} {k:Nat} {ml:List Int} (hM:MList ps k ml) (hc:((ps.getD k Psg.zero).mach<0∨11<(ps.getD k Psg.zero).mach)∨hasI ml (ps.getD k Psg.zero).mach=true) (hk:(ps.getD k Psg.zero).kind=3∨(ps.getD k Psg.zero).kind=4):pasOk pl ps k=false:=by
  unfold pasOk
  rw [Bool.and_eq_false_iff]
  by_cases h0:0≤(ps.getD k Psg.zero).mach∧(ps.getD k Psg.zero).mach≤11
  · refine .inr (decide_eq_false ?_)
    have h9:=hM.2 _ h0.1
    have h8:cC ps k=(ps.getD k Psg.zero).mach:=rfl
    rw [h8]
    rcases hc with h7|h7
    · omega
    · rw [h7] at h9
      simp only [true_iff] at h9
      omega
  · exact .inl (fR (by omega))
theorem Ri {pl:Int} {xs:List Int} {k:Nat} (h:(0≤xs.getD k 0∧xs.getD k 0≤pl-1)∧(k=0∨xs.getD (k-1) 0<xs.getD k 0)):exOk pl xs k=true:=by unfold exOk;rw [decide_eq_true_eq];omega
theorem Rj {pl:Int} {xs:List Int} {k:Nat} (h:¬ ((0≤xs.getD k 0∧xs.getD k 0≤pl-1)∧(k=0∨xs.getD (k-1) 0<xs.getD k 0))):exOk pl xs k=false:=by unfold exOk;rw [decide_eq_false_iff_not];omega
theorem Ci {l:List Int} {x:Int} {v:Value} (hv:v = .int .i64 x):∀ k j,k<l.length+1→j<1→capp l.length (icl l) (fun k' j=>([[v]].getD k' []).getD j undef) k j=icl (l++[x]) k j:=by
  intro k j hk hj
  have:j=0:=by omega
  subst this
  subst hv
  unfold capp icl
  by_cases h:k<l.length
  · rw [if_pos h,List.getD_eq_getElem?_getD,List.getD_eq_getElem?_getD,List.getElem?_append_left h]
  · have e:k=l.length:=by omega
    subst e
    rw [if_neg h,Nat.sub_self,List.getD_eq_getElem?_getD,List.getElem?_append_right (Nat.le_refl _),Nat.sub_self]
    rfl
theorem cD (n lo hi:Int) (w:World) :
    Calls Try.prog 71 [.int .i64 n,.int .i64 lo,.int .i64 hi].toArray w (Ret (fun v w'=>v = .bool (decide (lo≤n)&&decide (n≤hi))∧w'=w)):=by
 refine enter Try.func71 rfl Try.ntmps71 rfl (fun a H=>?_)
 have S:=St.start w
 refine sS H fun K1 k1=>sr 1 rfl<|sE ?_;clear H a;intro a H
 refine k1 _ ?_;clear k1 K1
 replace H:=H.keep [0,1,2] rfl
 refine sS H fun K2 k2=>sr 4 rfl<|sg 3 3 10 13 true G G (fun hg4=>sy hg4<|sr 1 rfl<|sy hg4<|sr 1 rfl<|sy hg4<|sr 1 rfl<|sz 3 G G G)<|sa G G G<|sr 1 rfl<|sE ?_;clear H a;intro a H
 refine k2 _ ?_;clear k2 K2
 refine wp_ret ?_
 refine ret1 (fn:=Try.f71) rfl H rfl ?_
 exact ⟨rfl,rfl⟩
theorem xH (n:Int) (w:World) :
    Calls Try.prog 83 [.int .i64 n].toArray w (Ret (fun v w'=>v = .bool (decide (0≤n)&&decide (n≤4095))∧w'=w)):=by
 refine enter Try.func83 rfl Try.ntmps83 rfl (fun a H=>?_)
 have S:=St.start w
 refine sS H fun K1 k1=>sr 1 rfl<|sE ?_;clear H a;intro a H
 refine k1 _ ?_;clear k1 K1
 refine sS H fun K2 k2=>sr 1 rfl<|sc rfl Try.func71 G G (cD _ _ _ _)<|sr 1 rfl<|sE ?_;clear H a;intro a H
 refine k2 _ ?_;clear k2 K2
 refine wp_ret ?_
 refine ret1 (fn:=Try.f83) rfl H rfl ?_
 exact ⟨rfl,rfl⟩
theorem Rk (l:List Int) (A:Option Addr) (cp:Nat) (x:Int) (w:World) (hl:InS w noF 1 A l.length (icl l)) (hn:l.length≤9223372036854775807) :
    Calls Try.prog 72 [.slice A l.length cp,.int .i64 x].toArray w (Ret (fun u w'=>u = .bool (hasI l x)∧St w noF [] w')):=by
 refine enter Try.func72 rfl Try.ntmps72 rfl (fun a H=>?_)
 have S:=St.start w
 refine sS H fun K1 k1=>sr 1 rfl<|sE ?_;clear H a;intro a H
 refine k1 _ ?_;clear k1 K1
 refine wp_seq_k fun K2 k2=>?_
 refine sS H fun K3 k3=>sr 1 rfl<|sE ?_;clear H a;intro a H
 refine k3 _ ?_;clear k3 K3
 refine wp_block ?_
 refine loop_st (X:=Nat) (R0:=_) [0,1] H rfl (fun k=>[(5,.int .i64 (k:Int))]) (fun k=>[]) (fun g k=>k≤l.length∧g+k=l.length∧(l.take k).any (fun y=>decide (x=y))=false) (l.length) 0 ?_ (S.sel [] G G) (H.keep [5,0,1] rfl) ?_
 · exact ⟨by omega,by omega,rfl⟩
 clear H S a
 intro g1 x1 a w1 hp S H K4 k4
 obtain ⟨k,rfl⟩:∃ y,y=x1:=⟨_,rfl⟩
 refine wp_seq_k fun K5 k5=>?_
 refine sS H fun K6 k6=>sr 2 rfl<|sL aR rfl<|sr 1 rfl<|sE ?_;clear H a;intro a H
 refine k6 _ ?_;clear k6 K6
 refine condL H rfl (fun hc1=>?_) (fun hc1=>?_)
 ·skip
  refine wp_skip ?_
  refine k5 _ _ ?_
  refine wp_seq_k fun K7 k7=>?_
  refine wp_block ?_
  replace H:=H.keep [0,1,5] rfl
  refine sS H fun K8 k8=>sr 2 rfl<|si aR aX G G (hl.adr (by omega)) (by omega)<|slm aA rfl (hl.rd S (by omega) (by omega))<|sr 2 rfl<|sE ?_;clear H a;intro a H
  refine k8 _ ?_;clear k8 K8
  refine condE H rfl (fun hc2=>?_) (fun hc2=>?_)
  ·skip
   refine sS H fun K9 k9=>sr 1 rfl<|sE ?_;clear H a;intro a H
   refine k9 _ ?_;clear k9 K9
   refine wp_ret ?_
   refine ret1 (fn:=Try.f72) rfl H rfl ?_
   exact ⟨by rw [Kb (k:=k) (by omega) (by omega)],(S.sel [] G G)⟩
  refine wp_skip ?_
  refine k7 _ _ ?_
  replace H:=H.keep [0,1,5] rfl
  refine sO H<|sr 1 rfl<|sd (aI G G (by unfold i64ok;omega))<|sr 1 rfl<|sE ?_;clear H a;intro a H
  exact k4 (g1-1) (k+1) a _ (by omega) (⟨by omega,by omega,yJ (by omega) hp.2.2 (by omega)⟩) (S.sel [] G G) (H.keep [5,0,1] rfl)
 refine wp_exit ?_
 refine k2 _ _ ?_
 refine sS H fun K11 k11=>sr 1 rfl<|sE ?_;clear H a;intro a H
 refine k11 _ ?_;clear k11 K11
 refine wp_ret ?_
 refine ret1 (fn:=Try.f72) rfl H rfl ?_
 exact ⟨by unfold hasI;rw [←List.take_of_length_le (l:=l) (i:=k) (by omega),hp.2.2],(S.sel [] G G)⟩
theorem lV (pl:Int) (ps:List Psg) (PA:Option Addr) (pc:Nat) (xs:List Int) (XA:Option Addr) (xc:Nat) (w:World) (hps:InS w noF 7 PA ps.length (pcell ps)) (hpn:ps.length≤9223372036854775807) (hxs:InS w noF 1 XA xs.length (icl xs)) (hxn:xs.length≤9223372036854775807) :
    Calls Try.prog 47 [.agg [.int .i64 pl,.slice PA ps.length pc,.slice XA xs.length xc].toArray].toArray w (Ret (fun v w'=>v = .int .i64 (stE pl ps xs)∧St w noF [] w')):=by
 refine enter Try.func47 rfl Try.ntmps47 rfl (fun a H=>?_)
 have S:=St.start w
 refine aB fun K1 k1=>?_
 refine aP H rfl S G G ?_;clear H a S;intro b1 _ a hb1 hbw1 S H
 refine ls 1 H<|sr 1 rfl<|sE ?_;clear H a;intro a H
 refine k1 _ _ ?_;clear k1 K1
 refine wp_seq_k fun K2 k2=>?_
 replace H:=H.keep [1] rfl
 refine sS H fun K3 k3=>sf dX rfl<|sl S 0 aA G G G<|sc rfl Try.func71 G G (cD _ _ _ _)<|sr 2 rfl<|sg 4 4 11 15 false G G (fun hg5=>by
     have hq5:=hg5;try simp only [o1,o2,o3,o4,o5,o6,o7,o8,o9,oa] at hq5
     exact sy hg5<|sf fC rfl<|sy hg5<|sl S 0 gQ G G G<|sy hg5<|sL gJ rfl<|sy hg5<|sr 1 rfl<|sz 4 G G G)<|so G G G<|sE ?_;clear H a;intro a H
 refine k3 _ ?_;clear k3 K3
 refine aT H rfl (fun hc1=>?_) (fun hc1=>?_)
 ·skip
  try simp only [o1,o2,o3,o4,o5,o6,o7,o8,o9,oa] at hc1
  replace H:=H.keep [] rfl
  refine sS H fun K4 k4=>sr 1 rfl<|sE ?_;clear H a;intro a H
  refine k4 _ ?_;clear k4 K4
  refine wp_ret ?_
  refine ret1 (fn:=Try.f47) rfl H rfl ?_
  exact ⟨congrArg _ (Dd (by omega)).symm,(S.sel [] G G)⟩
 try simp only [o1,o2,o3,o4,o5,o6,o7,o8,o9,oa] at hc1
 refine wp_skip ?_
 refine k2 _ _ ?_
 refine sS H fun K5 k5=>sr 1 rfl<|sE ?_;clear H a;intro a H
 refine k5 _ ?_;clear k5 K5
 refine wp_seq_k fun K6 k6=>?_
 refine sS H fun K7 k7=>sr 1 rfl<|sE ?_;clear H a;intro a H
 refine k7 _ ?_;clear k7 K7
 refine wp_block ?_
 replace S:=S.newNil 3 1 (icl [])
 refine loop_st (X:=Nat×List Int×Option Addr×Nat) (R0:=_) [1] H rfl (fun ⟨k,ml,A9,c9⟩=>[(3,.slice A9 ml.length c9),(4,.int .i64 (k:Int))]) (fun ⟨k,ml,A9,c9⟩=>[ownM 3 1 A9 ml.length c9 (icl ml)]) (fun g ⟨k,ml,A9,c9⟩=>k≤ps.length∧g+k=ps.length∧allN (pasOk pl ps) k=true∧MList ps k ml) (ps.length) (0,[],none,0) ?_ (S.sel [0,1] G G) (H.keep [3,4,1] rfl) ?_
 · exact ⟨by omega,by omega,rfl,MList.nil⟩
 clear H S a
 intro g1 x1 a w1 hp S H K8 k8
 obtain ⟨k,ml,A9,c9⟩:=x1
 dsimp only at hp S H
 obtain ⟨hkl,hgk,hA,hM⟩:=hp
 refine wp_seq_k fun K9 k9=>?_
 refine sS H fun K10 k10=>sr 1 rfl<|sf fC rfl<|sl S 1 gQ G G G<|sL gJ rfl<|sr 1 rfl<|sE ?_;clear H a;intro a H
 refine k10 _ ?_;clear k10 K10
 refine condL H rfl (fun hc2=>?_) (fun hc2=>?_)
 ·skip
  refine wp_skip ?_
  refine k9 _ _ ?_
  refine wp_seq_k fun K11 k11=>?_
  refine wp_block ?_
  replace H:=H.keep [1,3,4] rfl
  refine aB fun K12 k12=>?_
  refine ls 5 H<|sf fC rfl<|sl S 1 gQ G G G<|sr 1 rfl<|si gJ dK G G (hps.adr (by omega)) (by omega)<|sd ((aS iB dK rfl S hps (by omega) (by omega)))<|sE ?_;clear H a;intro a H
  refine aM H rfl S kP ?_;clear H a S;intro b5 _ a hb5 hbw5 S H
  refine aG H S (i:=0) G G G G dK G G ?_
  clear H a S;intro _ a S H
  refine k12 _ _ ?_;clear k12 K12
  refine wp_seq_k fun K13 k13=>?_
  replace H:=H.keep [1,3,4,5] rfl
  refine sS H fun K14 k14=>sf fW rfl<|sl S 0 aA G G G<|sf dX rfl<|sl S 2 aA G G G<|sd (aO G G (by unfold i64ok;omega))<|sc rfl Try.func71 G G (cD _ _ _ _)<|sr 2 rfl<|sg 7 7 36 43 false G G (fun hg8=>by
      have hq8:=hg8;try simp only [o1,o2,o3,o4,o5,o6,o7,o8,o9,oa] at hq8
      exact sy hg8<|sf fX rfl<|sy hg8<|sl S 0 aA G G G<|sy hg8<|sf dX rfl<|sy hg8<|sl S 2 aA G G G<|sy hg8<|sd (aO G G (by unfold i64ok;omega))<|sy hg8<|sc rfl Try.func71 G G (cD _ _ _ _)<|sy hg8<|sr 1 rfl<|sz 7 G G G)<|so G G G<|sr 1 rfl<|sg 5 16 45 50 false G G (fun hg17=>by
      have hq17:=hg17;try simp only [o1,o2,o3,o4,o5,o6,o7,o8,o9,oa] at hq17
      exact sy hg17<|sf fW rfl<|sy hg17<|sl S 0 aA G G G<|sy hg17<|sf fX rfl<|sy hg17<|sl S 0 aA G G G<|sy hg17<|sr 1 rfl<|sz 5 G G G)<|so G G G<|sr 1 rfl<|sg 4 23 52 56 false G G (fun hg24=>by
      have hq24:=hg24;try simp only [o1,o2,o3,o4,o5,o6,o7,o8,o9,oa] at hq24
      exact sy hg24<|sf lJ rfl<|sy hg24<|sl S 0 aA G G G<|sy hg24<|sc rfl Try.func71 G G (cD _ _ _ _)<|sy hg24<|sr 1 rfl<|sz 4 G G G)<|so G G G<|sr 1 rfl<|sg 4 29 58 62 false G G (fun hg30=>by
      have hq30:=hg30;try simp only [o1,o2,o3,o4,o5,o6,o7,o8,o9,oa] at hq30
      exact sy hg30<|sf oG rfl<|sy hg30<|sl S 0 aA G G G<|sy hg30<|sc rfl Try.func71 G G (cD _ _ _ _)<|sy hg30<|sr 1 rfl<|sz 4 G G G)<|so G G G<|sr 1 rfl<|sg 4 35 64 68 false G G (fun hg36=>by
      have hq36:=hg36;try simp only [o1,o2,o3,o4,o5,o6,o7,o8,o9,oa] at hq36
      exact sy hg36<|sf eU rfl<|sy hg36<|sl S 0 aA G G G<|sy hg36<|sc rfl Try.func71 G G (cD _ _ _ _)<|sy hg36<|sr 1 rfl<|sz 4 G G G)<|so G G G<|sE ?_;clear H a;intro a H
  refine k14 _ ?_;clear k14 K14
  refine aT H rfl (fun hc3=>?_) (fun hc3=>?_)
  ·skip
   try simp only [o1,o2,o3,o4,o5,o6,o7,o8,o9,oa] at hc3
   replace H:=H.keep [] rfl
   refine sS H fun K15 k15=>sr 1 rfl<|sE ?_;clear H a;intro a H
   refine k15 _ ?_;clear k15 K15
   refine wp_ret ?_
   refine ret1 (fn:=Try.f47) rfl H rfl ?_
   exact ⟨congrArg _ (kQ (k:=k) (by omega) (by unfold pasOk;rw [Bool.and_eq_false_iff];exact .inl (fR (by omega)))).symm,(S.sel [] G G)⟩
  try simp only [o1,o2,o3,o4,o5,o6,o7,o8,o9,oa] at hc3
  refine wp_skip ?_
  refine k13 _ _ ?_
  refine wp_seq_k fun K16 k16=>?_
  refine sS H fun K17 k17=>sf eU rfl<|sl S 0 aA G G G<|sr 2 rfl<|sg 3 3 73 76 false G G (fun hg4=>by
      have hq4:=hg4;try simp only [o1,o2,o3,o4,o5,o6,o7,o8,o9,oa] at hq4
      exact sy hg4<|sf eU rfl<|sy hg4<|sl S 0 aA G G G<|sy hg4<|sr 1 rfl<|sz 3 G G G)<|so G G G<|sE ?_;clear H a;intro a H
  refine k17 _ ?_;clear k17 K17
  refine aT H rfl (fun hc4=>?_) (fun hc4=>?_)
  ·skip
   try simp only [o1,o2,o3,o4,o5,o6,o7,o8,o9,oa] at hc4
   refine wp_seq_k fun K18 k18=>?_
   replace H:=H.keep [1,3,4,5] rfl
   refine aB fun K19 k19=>?_
   refine ls 2 H<|sf dO rfl<|sl S 0 aA G G G<|sE ?_;clear H a;intro a H
   refine aC H G G Try.func71 G G (cD _ _ _ _) ?_;clear H a
   rintro _ _ a ⟨rfl,rfl⟩ H
   refine ls 2 H<|sr 2 rfl<|sE ?_;clear H a;intro a H
   apply dI (i:=4) (g:=82) (t:=86) (b:=false) 4 H S G G (by kernel_rfl) (by kernel_rfl) G G
   case h1=>
    intro hg5
    have hq5:=hg5;try simp only [o1,o2,o3,o4,o5,o6,o7,o8,o9,oa] at hq5
    refine ls 3 H<|sy hg5<|sr 1 rfl<|sy hg5<|sf dO rfl<|sy hg5<|sl S 0 aA G G G<|sE ?_;intro a H
    refine eL H G G (by assumption) ?_
    refine aC H G G Try.func72 G G (Rk ml A9 c9 _ _ (ownM.inS S (i:=1) rfl) (by have:=hM.1;omega)) ?_
    rintro _ _ a ⟨rfl,S2⟩ H
    replace S:=S.call S2;clear S2
    exact wpList_nil ⟨H.strip 4 G G,(S.sel [0,1,2] G G)⟩
   clear H a S;intro a _ H S
   refine ls 1 H<|so G G G<|sE ?_;clear H a;intro a H
   refine k19 _ _ ?_;clear k19 K19
   refine aT H rfl (fun hc5=>?_) (fun hc5=>?_)
   ·skip
    try simp only [o1,o2,o3,o4,o5,o6,o7,o8,o9,oa] at hc5
    replace H:=H.keep [] rfl
    refine sS H fun K20 k20=>sr 1 rfl<|sE ?_;clear H a;intro a H
    refine k20 _ ?_;clear k20 K20
    refine wp_ret ?_
    refine ret1 (fn:=Try.f47) rfl H rfl ?_
    exact ⟨congrArg _ (kQ (k:=k) (by omega) (Rh hM hc5 hc4)).symm,(S.sel [] G G)⟩
   try simp only [o1,o2,o3,o4,o5,o6,o7,o8,o9,oa] at hc5
   have hz:=hM.fresh hc5.1.1 hc5.2
   refine wp_skip ?_
   refine k18 _ _ ?_
   refine cU ?_
   refine ls 3 H<|sr 1 rfl<|sf dO rfl<|sl S 0 aA G G G<|sE ?_;clear H a;intro a H
   refine aK H rfl S aR aX fQ G G G G G G G G G ?_;clear H a S;intro A1 _ a hA1 S H
   refine eE H rfl S aR aX fQ yA G G (i:=2) G G G (ownM.inS S (i:=0) rfl) (oI (w8one rfl)) (by have:=hM.1;omega) (by have:=hM.1;omega) ?_;clear H a S;intro A2 c2 _ a S H
   replace S:=S.recell (i:=2) rfl (cell':=icl (ml++[cC ps k])) (fun q j hq hj=>Ci rfl q j hq hj)
   rw [show ml.length+1=(ml++[cC ps k]).length by simp] at H S
   refine ls 1 H<|sr 1 rfl<|sE ?_;clear H a;intro a H
   refine k16 _ _ ?_
   replace H:=H.keep [1,3,4,5] rfl
   refine sS H fun K22 k22=>sf eU rfl<|sl S 1 aA G G G<|sr 1 rfl<|sE ?_;clear H a;intro a H
   refine k22 _ ?_;clear k22 K22
   refine condE H rfl (fun hc6=>?_) (fun hc6=>?_)
   ·skip
    refine sS H fun K23 k23=>sf iJ rfl<|sl S 1 aA G G G<|sc rfl Try.func71 G G (cD _ _ _ _)<|sr 1 rfl<|sE ?_;clear H a;intro a H
    refine k23 _ ?_;clear k23 K23
    refine aT H rfl (fun hc7=>?_) (fun hc7=>?_)
    ·skip
     try simp only [o1,o2,o3,o4,o5,o6,o7,o8,o9,oa] at hc7
     refine sS H fun K24 k24=>sr 1 rfl<|sE ?_;clear H a;intro a H
     refine k24 _ ?_;clear k24 K24
     refine wp_ret ?_
     refine ret1 (fn:=Try.f47) rfl H rfl ?_
     exact ⟨congrArg _ (kQ (k:=k) (by omega) (by unfold pasOk;rw [Bool.and_eq_false_iff];exact .inl (fR (by omega)))).symm,(S.sel [] G G)⟩
    try simp only [o1,o2,o3,o4,o5,o6,o7,o8,o9,oa] at hc7
    refine wp_skip ?_
    refine k11 _ _ ?_
    replace H:=H.keep [1,3,4] rfl
    refine sO H<|sr 1 rfl<|sd (aI G G (by unfold i64ok;omega))<|sr 1 rfl<|sE ?_;clear H a;intro a H
    exact k8 (g1-1) (k+1,_,_,_) a _ (by omega) (by first|exact ⟨by omega,by omega,cF hA (oZ (bX.2 (by omega)) hz),hM.add⟩|exact ⟨by omega,by omega,cF hA (pA (bX.2 (by omega)) (by omega)),hM.skip (by unfold cC;omega)⟩) (S.sel [2,3] G G) (H.keep [3,4,1] rfl)
   refine sS H fun K26 k26=>sf iJ rfl<|sl S 1 aA G G G<|sr 1 rfl<|sE ?_;clear H a;intro a H
   refine k26 _ ?_;clear k26 K26
   refine condN H rfl (fun hc8=>?_) (fun hc8=>?_)
   ·skip
    refine sS H fun K27 k27=>sr 1 rfl<|sE ?_;clear H a;intro a H
    refine k27 _ ?_;clear k27 K27
    refine wp_ret ?_
    refine ret1 (fn:=Try.f47) rfl H rfl ?_
    exact ⟨congrArg _ (kQ (k:=k) (by omega) (by unfold pasOk;rw [Bool.and_eq_false_iff];exact .inl (fR (by omega)))).symm,(S.sel [] G G)⟩
   refine wp_skip ?_
   refine k11 _ _ ?_
   replace H:=H.keep [1,3,4] rfl
   refine sO H<|sr 1 rfl<|sd (aI G G (by unfold i64ok;omega))<|sr 1 rfl<|sE ?_;clear H a;intro a H
   exact k8 (g1-1) (k+1,_,_,_) a _ (by omega) (by first|exact ⟨by omega,by omega,cF hA (oZ (bX.2 (by omega)) hz),hM.add⟩|exact ⟨by omega,by omega,cF hA (pA (bX.2 (by omega)) (by omega)),hM.skip (by unfold cC;omega)⟩) (S.sel [2,3] G G) (H.keep [3,4,1] rfl)
  try simp only [o1,o2,o3,o4,o5,o6,o7,o8,o9,oa] at hc4
  refine sS H fun K29 k29=>sf dO rfl<|sl S 0 aA G G G<|sr 1 rfl<|sE ?_;clear H a;intro a H
  refine k29 _ ?_;clear k29 K29
  refine condN H rfl (fun hc9=>?_) (fun hc9=>?_)
  ·skip
   refine sS H fun K30 k30=>sr 1 rfl<|sE ?_;clear H a;intro a H
   refine k30 _ ?_;clear k30 K30
   refine wp_ret ?_
   refine ret1 (fn:=Try.f47) rfl H rfl ?_
   exact ⟨congrArg _ (kQ (k:=k) (by omega) (by unfold pasOk;rw [Bool.and_eq_false_iff];exact .inl (fR (by omega)))).symm,(S.sel [] G G)⟩
  refine wp_skip ?_
  refine k16 _ _ ?_
  replace H:=H.keep [1,3,4,5] rfl
  refine sS H fun K31 k31=>sf eU rfl<|sl S 0 aA G G G<|sr 1 rfl<|sE ?_;clear H a;intro a H
  refine k31 _ ?_;clear k31 K31
  refine condE H rfl (fun hc10=>?_) (fun hc10=>?_)
  ·skip
   refine sS H fun K32 k32=>sf iJ rfl<|sl S 0 aA G G G<|sc rfl Try.func71 G G (cD _ _ _ _)<|sr 1 rfl<|sE ?_;clear H a;intro a H
   refine k32 _ ?_;clear k32 K32
   refine aT H rfl (fun hc11=>?_) (fun hc11=>?_)
   ·skip
    try simp only [o1,o2,o3,o4,o5,o6,o7,o8,o9,oa] at hc11
    refine sS H fun K33 k33=>sr 1 rfl<|sE ?_;clear H a;intro a H
    refine k33 _ ?_;clear k33 K33
    refine wp_ret ?_
    refine ret1 (fn:=Try.f47) rfl H rfl ?_
    exact ⟨congrArg _ (kQ (k:=k) (by omega) (by unfold pasOk;rw [Bool.and_eq_false_iff];exact .inl (fR (by omega)))).symm,(S.sel [] G G)⟩
   try simp only [o1,o2,o3,o4,o5,o6,o7,o8,o9,oa] at hc11
   refine wp_skip ?_
   refine k11 _ _ ?_
   replace H:=H.keep [1,3,4] rfl
   refine sO H<|sr 1 rfl<|sd (aI G G (by unfold i64ok;omega))<|sr 1 rfl<|sE ?_;clear H a;intro a H
   exact k8 (g1-1) (k+1,_,_,_) a _ (by omega) (by first|exact ⟨by omega,by omega,cF hA (oZ (bX.2 (by omega)) hz),hM.add⟩|exact ⟨by omega,by omega,cF hA (pA (bX.2 (by omega)) (by omega)),hM.skip (by unfold cC;omega)⟩) (S.sel [1,2] G G) (H.keep [3,4,1] rfl)
  refine sS H fun K35 k35=>sf iJ rfl<|sl S 0 aA G G G<|sr 1 rfl<|sE ?_;clear H a;intro a H
  refine k35 _ ?_;clear k35 K35
  refine condN H rfl (fun hc12=>?_) (fun hc12=>?_)
  ·skip
   refine sS H fun K36 k36=>sr 1 rfl<|sE ?_;clear H a;intro a H
   refine k36 _ ?_;clear k36 K36
   refine wp_ret ?_
   refine ret1 (fn:=Try.f47) rfl H rfl ?_
   exact ⟨congrArg _ (kQ (k:=k) (by omega) (by unfold pasOk;rw [Bool.and_eq_false_iff];exact .inl (fR (by omega)))).symm,(S.sel [] G G)⟩
  refine wp_skip ?_
  refine k11 _ _ ?_
  replace H:=H.keep [1,3,4] rfl
  refine sO H<|sr 1 rfl<|sd (aI G G (by unfold i64ok;omega))<|sr 1 rfl<|sE ?_;clear H a;intro a H
  exact k8 (g1-1) (k+1,_,_,_) a _ (by omega) (by first|exact ⟨by omega,by omega,cF hA (oZ (bX.2 (by omega)) hz),hM.add⟩|exact ⟨by omega,by omega,cF hA (pA (bX.2 (by omega)) (by omega)),hM.skip (by unfold cC;omega)⟩) (S.sel [1,2] G G) (H.keep [3,4,1] rfl)
 refine wp_exit ?_
 refine k6 _ _ ?_
 refine wp_seq_k fun K38 k38=>?_
 refine sS H fun K39 k39=>sr 1 rfl<|sE ?_;clear H a;intro a H
 refine k39 _ ?_;clear k39 K39
 refine wp_block ?_
 refine loop_st (X:=Nat) (R0:=_) [1] H rfl (fun k2=>[(6,.int .i64 (k2:Int))]) (fun k2=>[]) (fun g k2=>k2≤xs.length∧g+k2=xs.length∧allN (exOk pl xs) k2=true) (xs.length) 0 ?_ (S.sel [0,1] G G) (H.keep [6,1] rfl) ?_
 · exact ⟨by omega,by omega,rfl⟩
 clear H S a
 intro g2 x2 a w2 hp S H K40 k40
 obtain ⟨k2,rfl⟩:∃ y,y=x2:=⟨_,rfl⟩
 refine wp_seq_k fun K41 k41=>?_
 refine sS H fun K42 k42=>sr 1 rfl<|sf iC rfl<|sl S 1 dQ G G G<|sL aR rfl<|sr 1 rfl<|sE ?_;clear H a;intro a H
 refine k42 _ ?_;clear k42 K42
 refine condL H rfl (fun hc13=>?_) (fun hc13=>?_)
 ·skip
  refine wp_skip ?_
  refine k41 _ _ ?_
  refine wp_seq_k fun K43 k43=>?_
  refine wp_block ?_
  replace H:=H.keep [1,6] rfl
  replace S:=S.drew
  refine sD H fun K44 k44=>sf iC rfl<|sl S 1 dQ G G G<|sr 1 rfl<|si aR aX G G (hxs.adr (by omega)) (by omega)<|slm aA rfl (hxs.rd S (by omega) (by omega))<|sf dX rfl<|sl S 1 aA G G G<|sd (aO G G (by unfold i64ok;omega))<|sc rfl Try.func71 G G (cD _ _ _ _)<|sr 2 rfl<|sg 16 10 123 139 false G G (fun hg11=>by
      have hq11:=hg11;try simp only [o1,o2,o3,o4,o5,o6,o7,o8,o9,oa] at hq11
      exact sy hg11<|sr 1 rfl<|sy hg11<|sr 1 rfl<|sy hg11<|sr 1 rfl<|sg 12 13 126 138 true G G (fun hg14=>by
           have hq14:=hg14;try simp only [o1,o2,o3,o4,o5,o6,o7,o8,o9,oa] at hq14
           exact sy hg14<|sf iC rfl<|sy hg14<|sl S 1 dQ G G G<|sy hg14<|sr 1 rfl<|sy hg14<|si aR aX G G (hxs.adr (by omega)) (by omega)<|sy hg14<|slm aA rfl (hxs.rd S (by omega) (by omega))<|sy hg14<|sf iC rfl<|sy hg14<|sl S 1 dQ G G G<|sy hg14<|sr 1 rfl<|sy hg14<|sd (aO G G (by unfold i64ok;omega))<|sy hg14<|sI aR aX G G (hxs.adr (by omega)) (by omega) (by omega)<|sy hg14<|slm aA rfl (hxs.rd S (by omega) (by omega))<|sy hg14<|sr 1 rfl<|sz 12 G G G)<|sy hg11<|sa G G G<|sz 5 G G G)<|so G G G<|sE ?_;clear H a;intro a H
  refine k44 _ ?_;clear k44 K44
  refine aT H rfl (fun hc14=>?_) (fun hc14=>?_)
  ·skip
   try simp only [o1,o2,o3,o4,o5,o6,o7,o8,o9,oa] at hc14
   rw [show ((k2:Int)-1).toNat=k2-1 by omega] at hc14
   replace H:=H.keep [] rfl
   refine sS H fun K45 k45=>sr 1 rfl<|sE ?_;clear H a;intro a H
   refine k45 _ ?_;clear k45 K45
   refine wp_ret ?_
   refine ret1 (fn:=Try.f47) rfl H rfl ?_
   exact ⟨congrArg _ (Ss (k:=k2) (by omega) (Rj (by omega))).symm,(S.sel [] G G)⟩
  try simp only [o1,o2,o3,o4,o5,o6,o7,o8,o9,oa] at hc14
  rw [show ((k2:Int)-1).toNat=k2-1 by omega] at hc14
  refine wp_skip ?_
  refine k43 _ _ ?_
  refine sO H<|sr 1 rfl<|sd (aI G G (by unfold i64ok;omega))<|sr 1 rfl<|sE ?_;clear H a;intro a H
  exact k40 (g2-1) (k2+1) a _ (by omega) (⟨by omega,by omega,cF hp.2.2 (Ri (by omega))⟩) (S.sel [0,1] G G) (H.keep [6,1] rfl)
 refine wp_exit ?_
 refine k38 _ _ ?_
 refine sS H fun K47 k47=>sr 1 rfl<|sE ?_;clear H a;intro a H
 refine k47 _ ?_;clear k47 K47
 refine wp_ret ?_
 refine ret1 (fn:=Try.f47) rfl H rfl ?_
 have hk9:k=ps.length:=by omega
 have hk8:k2=xs.length:=by omega
 exact ⟨congrArg _ (Su (by omega) (hk9 ▸ hA) (hk8 ▸ hp.2.2)).symm,(S.sel [] G G)⟩
end
section
def sameI (a b:List Int):Bool:=decide (a=b)
theorem Mo {a b:List Int} (h:a.length≠b.length):sameI a b=false:=decide_eq_false fun e=>h (by rw [e])
theorem Rl {a b:List Int} {k:Nat} (h:¬ a.getD k 0=b.getD k 0):sameI a b=false:=decide_eq_false fun e=>h (by rw [e])
theorem Mp {a b:List Int} (hn:a.length=b.length) (h:∀ k,k<a.length→a.getD k 0=b.getD k 0):sameI a b=true:=decide_eq_true (List.ext_getElem hn fun k h1 h2=>by
  have:=h k h1
  rwa [List.getD_eq_getElem?_getD,List.getD_eq_getElem?_getD,List.getElem?_eq_getElem h1,List.getElem?_eq_getElem h2] at this)
theorem Rm {a b:List Int} {k:Nat} (h:∀ q,q<k→a.getD q 0=b.getD q 0) (hk:a.getD k 0=b.getD k 0):∀ q,q<k+1→a.getD q 0=b.getD q 0:=fun q hq=>by
  by_cases e:q=k
  · subst e;exact hk
  · exact h q (by omega)
end
section
theorem pB (pl:Int) (ps:List Psg) (PA:Option Addr) (pc:Nat) (xs:List Int) (XA:Option Addr) (xc:Nat) (pe:List Int) (BA:Option Addr) (bc:Nat) (w:World) (hpe:InS w noF 1 BA pe.length (icl pe)) (hpen:pe.length≤9223372036854775807) :
    Calls Try.prog 84 [.agg [.int .i64 pl,.slice PA ps.length pc,.slice XA xs.length xc].toArray,.slice BA pe.length bc].toArray w (Ret (fun v w'=>v = .bool (eK pl pe)∧St w noF [] w')):=by
 refine enter Try.func84 rfl Try.ntmps84 rfl (fun a H=>?_)
 have S:=St.start w
 refine aB fun K1 k1=>?_
 refine aP H rfl S G G ?_;clear H a S;intro b2 _ a hb2 hbw2 S H
 refine ls 1 H<|sr 1 rfl<|sE ?_;clear H a;intro a H
 refine k1 _ _ ?_;clear k1 K1
 refine wp_seq_k fun K2 k2=>?_
 refine sS H fun K3 k3=>sr 1 rfl<|sE ?_;clear H a;intro a H
 refine k3 _ ?_;clear k3 K3
 refine wp_block ?_
 refine loop_st (X:=Nat) (R0:=_) [1,2] H rfl (fun k=>[(5,.int .i64 (k:Int))]) (fun k=>[]) (fun g k=>k≤pe.length∧g+k=pe.length∧allN (fun k=>decide (0≤pe.getD k 0∧pe.getD k 0≤1000)) k=true) (pe.length) 0 ?_ (S.sel [0] G G) (H.keep [5,1,2] rfl) ?_
 · exact ⟨by omega,by omega,rfl⟩
 clear H S a
 intro g1 x1 a w1 hp S H K4 k4
 obtain ⟨k,rfl⟩:∃ y,y=x1:=⟨_,rfl⟩
 refine wp_seq_k fun K5 k5=>?_
 refine sS H fun K6 k6=>sr 2 rfl<|sL aR rfl<|sr 1 rfl<|sE ?_;clear H a;intro a H
 refine k6 _ ?_;clear k6 K6
 refine condL H rfl (fun hc1=>?_) (fun hc1=>?_)
 ·skip
  refine wp_skip ?_
  refine k5 _ _ ?_
  refine wp_seq_k fun K7 k7=>?_
  refine wp_block ?_
  replace H:=H.keep [1,2,5] rfl
  refine sS H fun K8 k8=>sr 2 rfl<|si aR aX G G (hpe.adr (by omega)) (by omega)<|slm aA rfl (hpe.rd S (by omega) (by omega))<|sc rfl Try.func71 G G (cD _ _ _ _)<|sr 1 rfl<|sE ?_;clear H a;intro a H
  refine k8 _ ?_;clear k8 K8
  refine aT H rfl (fun hc2=>?_) (fun hc2=>?_)
  ·skip
   try simp only [o1,o2,o3,o4,o5,o6,o7,o8,o9,oa] at hc2
   refine sS H fun K9 k9=>sr 1 rfl<|sE ?_;clear H a;intro a H
   refine k9 _ ?_;clear k9 K9
   refine wp_ret ?_
   refine ret1 (fn:=Try.f84) rfl H rfl ?_
   refine ⟨congrArg Value.bool ?_,(S.sel [] G G)⟩;unfold eK;rw [gF (k:=k) (by omega) (by rw [decide_eq_false_iff_not];omega)];rfl
  try simp only [o1,o2,o3,o4,o5,o6,o7,o8,o9,oa] at hc2
  refine wp_skip ?_
  refine k7 _ _ ?_
  replace H:=H.keep [1,2,5] rfl
  refine sO H<|sr 1 rfl<|sd (aI G G (by unfold i64ok;omega))<|sr 1 rfl<|sE ?_;clear H a;intro a H
  exact k4 (g1-1) (k+1) a _ (by omega) (⟨by omega,by omega,cF hp.2.2 (by rw [decide_eq_true_eq];omega)⟩) (S.sel [0] G G) (H.keep [5,1,2] rfl)
 refine wp_exit ?_
 refine k2 _ _ ?_
 refine sS H fun K11 k11=>sr 1 rfl<|sL aR rfl<|sf dX rfl<|sl S 0 aA G G G<|sr 2 rfl<|sE ?_;clear H a;intro a H
 refine k11 _ ?_;clear k11 K11
 refine wp_ret ?_
 refine ret1 (fn:=Try.f84) rfl H rfl ?_
 refine ⟨congrArg Value.bool ?_,(S.sel [] G G)⟩;unfold eK;rw [show pe.length=k by omega,hp.2.2,Bool.true_and]
theorem xI (pl:Int) (ps:List Psg) (PA:Option Addr) (pc:Nat) (xs:List Int) (XA:Option Addr) (xc:Nat) (day:List Hq) (HA:Option Addr) (hcp:Nat) (DA:Nat→Option Addr) (dc:Nat→Nat) (w:World) (hps:InS w noF 7 PA ps.length (pcell ps)) (hpn:ps.length≤9223372036854775807) (hxs:InS w noF 1 XA xs.length (icl xs)) (hxn:xs.length≤9223372036854775807) (hday:InS w noF 3 HA day.length (hcl day DA dc)) (hdn:day.length≤9223372036854775807) (hdp:∀ k,k<day.length→InS w noF 1 (DA k) (day.getD k Hq.zero).pe.length (icl (day.getD k Hq.zero).pe)) (hdl:∀ k,k<day.length→(day.getD k Hq.zero).pe.length≤9223372036854775807) :
    Calls Try.prog 73 [.agg [.int .i64 pl,.slice PA ps.length pc,.slice XA xs.length xc].toArray,.slice HA day.length hcp].toArray w (Ret (fun v w'=>v = .int .i64 (dayE pl ps xs day)∧St w noF [] w')):=by
 refine enter Try.func73 rfl Try.ntmps73 rfl (fun a H=>?_)
 have S:=St.start w
 refine aB fun K1 k1=>?_
 refine aP H rfl S G G ?_;clear H a S;intro b2 _ a hb2 hbw2 S H
 refine ls 1 H<|sr 1 rfl<|sE ?_;clear H a;intro a H
 refine k1 _ _ ?_;clear k1 K1
 refine aB fun K2 k2=>?_
 refine ls 1 H<|sd ((aD cG dN rfl S (i:=0) G G))<|sE ?_;clear H a;intro a H
 refine aC H G G Try.func47 G G (lV pl ps PA pc xs XA xc _ (hps.now S) hpn (hxs.now S) hxn) ?_;clear H a
 rintro _ _ a ⟨rfl,S2⟩ H
 replace S:=S.call S2;clear S2
 refine ls 1 H<|sr 1 rfl<|sE ?_;clear H a;intro a H
 refine k2 _ _ ?_;clear k2 K2
 refine wp_seq_k fun K3 k3=>?_
 refine sS H fun K4 k4=>sr 2 rfl<|sE ?_;clear H a;intro a H
 refine k4 _ ?_;clear k4 K4
 refine condN H rfl (fun hc1=>?_) (fun hc1=>?_)
 ·skip
  refine sS H fun K5 k5=>sr 2 rfl<|sE ?_;clear H a;intro a H
  refine k5 _ ?_;clear k5 K5
  refine wp_ret ?_
  refine ret1 (fn:=Try.f73) rfl H rfl ?_
  refine ⟨congrArg (Value.int .i64) ?_,(S.sel [] G G)⟩;unfold dayE;rw [if_pos hc1]
 have hst:stE pl ps xs=0:=by omega
 refine wp_skip ?_
 refine k3 _ _ ?_
 refine wp_seq_k fun K6 k6=>?_
 replace H:=H.keep [1,2] rfl
 refine sS H fun K7 k7=>sr 1 rfl<|sL mK rfl<|sr 1 rfl<|sE ?_;clear H a;intro a H
 refine k7 _ ?_;clear k7 K7
 refine condL H rfl (fun hc2=>?_) (fun hc2=>?_)
 ·skip
  refine sS H fun K8 k8=>sr 1 rfl<|sE ?_;clear H a;intro a H
  refine k8 _ ?_;clear k8 K8
  refine wp_ret ?_
  refine ret1 (fn:=Try.f73) rfl H rfl ?_
  refine ⟨congrArg (Value.int .i64) ?_,(S.sel [] G G)⟩;unfold dayE;rw [if_neg (by omega),if_neg];unfold dayOk;rw [decide_eq_false (p:=day.length≤48) (by omega),Bool.and_false];simp
 refine wp_skip ?_
 refine k6 _ _ ?_
 refine wp_seq_k fun K9 k9=>?_
 refine sS H fun K10 k10=>sr 1 rfl<|sE ?_;clear H a;intro a H
 refine k10 _ ?_;clear k10 K10
 refine wp_block ?_
 refine loop_st (X:=Nat) (R0:=_) [1,2] H rfl (fun k=>[(6,.int .i64 (k:Int))]) (fun k=>[]) (fun g k=>k≤day.length∧g+k=day.length∧allN (fun k=>hqOk pl (day.getD k Hq.zero)) k=true) (day.length) 0 ?_ (S.sel [0] G G) (H.keep [6,1,2] rfl) ?_
 · exact ⟨by omega,by omega,rfl⟩
 clear H S a
 intro g1 x1 a w1 hp S H K11 k11
 obtain ⟨k,rfl⟩:∃ y,y=x1:=⟨_,rfl⟩
 refine wp_seq_k fun K12 k12=>?_
 refine sS H fun K13 k13=>sr 2 rfl<|sL mK rfl<|sr 1 rfl<|sE ?_;clear H a;intro a H
 refine k13 _ ?_;clear k13 K13
 refine condL H rfl (fun hc3=>?_) (fun hc3=>?_)
 ·skip
  refine wp_skip ?_
  refine k12 _ _ ?_
  refine wp_seq_k fun K14 k14=>?_
  refine wp_block ?_
  by_cases hB:0≤(day.getD k Hq.zero).out∧(day.getD k Hq.zero).out≤4095
  ·skip
   replace H:=H.keep [1,2,6] rfl
   replace S:=S.drew
   refine dP [(0,true),(1,true),(2,true),(3,true),(4,true),(5,false),(6,true),(7,true),(8,true),(9,true),(10,true),(11,true),(12,true),(13,true),(14,false),(15,true),(16,true)] (by kernel_rfl) (by kernel_rfl) (S.sel [0] G G) fun K15 k15=>?_
   refine qF H<|qr 2 rfl<|qd rfl (fun _ S=>aW mK nU G G (hday.adr (by omega)) (by omega))<|qd rfl (fun _ S=>(bJ qT rfl))<|qd rfl (fun _ S=>aE aA rfl (hday.rd S (by omega) (by omega)))<|qK ?_;clear H a;intro a H
   refine aZ rfl ?_
   refine aC H G G Try.func83 G G (xH _ _) ?_;clear H a
   rintro _ _ a ⟨rfl,rfl⟩ H
   rw [decide_eq_true hB.1,decide_eq_true hB.2,Bool.and_self] at H
   refine wpList_nil (And.intro (S.sel [0] G G) ?_)
   refine qF H<|qr 2 rfl<|qK ?_;clear H a;intro a H
   refine aL H G G G G (fun _ S=>(aD cG dN rfl S (i:=0) G G)) ?_;clear H a;intro a H
   refine aL H G G G G (fun _ S=>aJ rfl) ?_;clear H a;intro a H
   refine aL H G G G G (fun _ S=>aJ rfl) ?_;clear H a;intro a H
   refine aL H G G G G (fun _ S=>aW mK nU G G (hday.adr (by omega)) (by omega)) ?_;clear H a;intro a H
   refine aL H G G G G (fun _ S=>(bJ Cy rfl)) ?_;clear H a;intro a H
   refine aL H G G G G (fun _ S=>aE dQ rfl (hday.rd S (by omega) (by omega))) ?_;clear H a;intro a H
   refine aZ rfl ?_
   refine bT H G G ?_
   refine aC H G G Try.func84 G G (pB pl ps PA pc xs XA xc (day.getD k Hq.zero).pe (DA k) (dc k) _ ((hdp k (by omega)).now S) (hdl k (by omega))) ?_;clear H a
   rintro _ _ a ⟨rfl,S2⟩ H
   replace S:=S.call S2;clear S2
   refine wpList_nil (And.intro (S.sel [0] G G) ?_)
   refine aL H G G G G (fun _ S=>jW rfl) ?_;clear H a;intro a H
   refine qF H<|qd rfl (fun _ S=>(cL G G G))<|qK ?_;clear H a;intro a H
   refine cM ?_
   refine k15 _ _ ?_
   clear k15 K15
   refine aT H rfl (fun hc4=>?_) (fun hc4=>?_)
   ·skip
    try simp only [o1,o2,o3,o4,o5,o6,o7,o8,o9,oa] at hc4
    replace H:=H.keep [] rfl
    refine sS H fun K16 k16=>sr 1 rfl<|sE ?_;clear H a;intro a H
    refine k16 _ ?_;clear k16 K16
    refine wp_ret ?_
    refine ret1 (fn:=Try.f73) rfl H rfl ?_
    refine ⟨congrArg (Value.int .i64) ?_,(S.sel [] G G)⟩;unfold dayE;rw [if_neg (by omega),sZ (k:=k) (by omega) (by unfold hqOk;rw [hc4.resolve_left (by simp),Bool.and_false])];rfl
   try simp only [o1,o2,o3,o4,o5,o6,o7,o8,o9,oa] at hc4
   refine wp_skip ?_
   refine k14 _ _ ?_
   refine sO H<|sr 1 rfl<|sd (aI G G (by unfold i64ok;omega))<|sr 1 rfl<|sE ?_;clear H a;intro a H
   exact k11 (g1-1) (k+1) a _ (by omega) (⟨by omega,by omega,cF hp.2.2 (by unfold hqOk;rw [decide_eq_true hB,hc4.2];rfl)⟩) (S.sel [0] G G) (H.keep [6,1,2] rfl)
  replace H:=H.keep [1,2,6] rfl
  replace S:=S.drew
  refine dP [(0,true),(1,true),(2,true),(3,true),(4,true),(5,false),(6,true),(7,true),(8,true),(9,true),(10,true),(11,true),(12,true),(13,true),(14,true),(15,true),(16,true)] (by kernel_rfl) (by kernel_rfl) (S.sel [0] G G) fun K18 k18=>?_
  refine qF H<|qr 2 rfl<|qd rfl (fun _ S=>aW mK nU G G (hday.adr (by omega)) (by omega))<|qd rfl (fun _ S=>(bJ qT rfl))<|qd rfl (fun _ S=>aE aA rfl (hday.rd S (by omega) (by omega)))<|qK ?_;clear H a;intro a H
  refine aZ rfl ?_
  refine aC H G G Try.func83 G G (xH _ _) ?_;clear H a
  rintro _ _ a ⟨rfl,rfl⟩ H
  rw [Bool.and_eq_false_iff.2 (by simp only [decide_eq_false_iff_not];omega)] at H
  refine wpList_nil (And.intro (S.sel [0] G G) ?_)
  refine qF H<|qr 2 rfl<|qK ?_;clear H a;intro a H
  refine aQ H G G G G G ?_;clear H a;intro a H
  refine aQ H G G G G G ?_;clear H a;intro a H
  refine aQ H G G G G G ?_;clear H a;intro a H
  refine aQ H G G G G G ?_;clear H a;intro a H
  refine aQ H G G G G G ?_;clear H a;intro a H
  refine aQ H G G G G G ?_;clear H a;intro a H
  refine aQ H G G G G G ?_;clear H a;intro a H
  refine aQ H G G G G G ?_;clear H a;intro a H
  refine qF H<|qd rfl (fun _ S=>(bD G G G))<|qK ?_;clear H a;intro a H
  refine cM ?_
  refine k18 _ _ ?_
  clear k18 K18
  refine aT H rfl (fun hc5=>?_) (fun hc5=>?_)
  ·skip
   skip
   replace H:=H.keep [] rfl
   refine sS H fun K19 k19=>sr 1 rfl<|sE ?_;clear H a;intro a H
   refine k19 _ ?_;clear k19 K19
   refine wp_ret ?_
   refine ret1 (fn:=Try.f73) rfl H rfl ?_
   refine ⟨congrArg (Value.int .i64) ?_,(S.sel [] G G)⟩;unfold dayE;rw [if_neg (by omega),sZ (k:=k) (by omega) (by unfold hqOk;rw [decide_eq_false hB];rfl)];rfl
  skip
  cases hc5
 refine wp_exit ?_
 refine k9 _ _ ?_
 refine sS H fun K20 k20=>sr 1 rfl<|sE ?_;clear H a;intro a H
 refine k20 _ ?_;clear k20 K20
 refine wp_ret ?_
 refine ret1 (fn:=Try.f73) rfl H rfl ?_
 obtain rfl:k=day.length:=by omega
 exact ⟨congrArg (Value.int .i64) (uY hst (by rw [yL hp.2.2];exact decide_eq_true (by omega))).symm,(S.sel [] G G)⟩
theorem pD (pl:Int) (ps:List Psg) (PA:Option Addr) (pc:Nat) (xs:List Int) (XA:Option Addr) (xc:Nat) (day:List Hq) (HA:Option Addr) (hcp:Nat) (DA:Nat→Option Addr) (dc:Nat→Nat) (l:List Prm) (LA:Option Addr) (lc:Nat) (w:World) (hps:InS w noF 7 PA ps.length (pcell ps)) (hpn:ps.length≤9223372036854775807) (hxs:InS w noF 1 XA xs.length (icl xs)) (hxn:xs.length≤9223372036854775807) (hday:InS w noF 3 HA day.length (hcl day DA dc)) (hdn:day.length≤9223372036854775807) (hdp:∀ k,k<day.length→InS w noF 1 (DA k) (day.getD k Hq.zero).pe.length (icl (day.getD k Hq.zero).pe)) (hdl:∀ k,k<day.length→(day.getD k Hq.zero).pe.length≤9223372036854775807) (hl:InS w noF 5 LA l.length (dE l)) (hln:l.length≤9223372036854775807) :
    Calls Try.prog 48 [.agg [.int .i64 pl,.slice PA ps.length pc,.slice XA xs.length xc].toArray,.slice HA day.length hcp,.slice LA l.length lc].toArray w (Ret (fun v w'=>v = .int .i64 (keptE pl ps xs day l)∧St w noF [] w')):=by
 refine enter Try.func48 rfl Try.ntmps48 rfl (fun a H=>?_)
 have S:=St.start w
 refine aB fun K1 k1=>?_
 refine aP H rfl S G G ?_;clear H a S;intro b3 _ a hb3 hbw3 S H
 refine ls 1 H<|sr 1 rfl<|sE ?_;clear H a;intro a H
 refine k1 _ _ ?_;clear k1 K1
 refine aB fun K2 k2=>?_
 refine ls 2 H<|sd ((aD cG dN rfl S (i:=0) G G))<|sr 1 rfl<|sE ?_;clear H a;intro a H
 refine aC H G G Try.func73 G G (xI pl ps PA pc xs XA xc day HA hcp DA dc _ (hps.now S) hpn (hxs.now S) hxn (hday.now S) hdn (fun k hk=>(hdp k hk).now S) hdl) ?_;clear H a
 rintro _ _ a ⟨rfl,S2⟩ H
 replace S:=S.call S2;clear S2
 refine ls 1 H<|sr 1 rfl<|sE ?_;clear H a;intro a H
 refine k2 _ _ ?_;clear k2 K2
 refine wp_seq_k fun K3 k3=>?_
 refine sS H fun K4 k4=>sr 2 rfl<|sE ?_;clear H a;intro a H
 refine k4 _ ?_;clear k4 K4
 refine condN H rfl (fun hc1=>?_) (fun hc1=>?_)
 ·skip
  replace H:=H.keep [7] rfl
  refine sS H fun K5 k5=>sr 2 rfl<|sE ?_;clear H a;intro a H
  refine k5 _ ?_;clear k5 K5
  refine wp_ret ?_
  refine ret1 (fn:=Try.f48) rfl H rfl ?_
  refine ⟨congrArg (Value.int .i64) ?_,(S.sel [] G G)⟩;unfold keptE;rw [if_pos hc1]
 have hdE:dayE pl ps xs day=0:=by omega
 have hV:=iK (oL hdE).1
 have hP10:=hV.size
 refine wp_skip ?_
 refine k3 _ _ ?_
 refine wp_seq_k fun K6 k6=>?_
 refine sS H fun K7 k7=>sr 1 rfl<|sL eN rfl<|sr 1 rfl<|sE ?_;clear H a;intro a H
 refine k7 _ ?_;clear k7 K7
 refine condL H rfl (fun hc2=>?_) (fun hc2=>?_)
 ·skip
  refine sS H fun K8 k8=>sr 1 rfl<|sE ?_;clear H a;intro a H
  refine k8 _ ?_;clear k8 K8
  refine wp_ret ?_
  refine ret1 (fn:=Try.f48) rfl H rfl ?_
  exact ⟨congrArg (Value.int .i64) (mE hdE (yM (by omega))).symm,(S.sel [] G G)⟩
 refine wp_skip ?_
 refine k6 _ _ ?_
 refine wp_seq_k fun K9 k9=>?_
 refine sS H fun K10 k10=>sr 1 rfl<|sE ?_;clear H a;intro a H
 refine k10 _ ?_;clear k10 K10
 refine wp_block ?_
 refine loop_st (X:=Nat) (R0:=_) [2,3] H rfl (fun k=>[(8,.int .i64 (k:Int))]) (fun k=>[]) (fun g k=>k≤l.length∧g+k=l.length∧allN (fun k=>prmOk pl (l.getD k Prm.zero)) k=true) (l.length) 0 ?_ (S.sel [0] G G) (H.keep [8,2,3] rfl) ?_
 · exact ⟨by omega,by omega,rfl⟩
 clear H S a
 intro g1 x1 a w1 hp S H K11 k11
 obtain ⟨k,rfl⟩:∃ y,y=x1:=⟨_,rfl⟩
 refine wp_seq_k fun K12 k12=>?_
 refine sS H fun K13 k13=>sr 2 rfl<|sL eN rfl<|sr 1 rfl<|sE ?_;clear H a;intro a H
 refine k13 _ ?_;clear k13 K13
 refine condL H rfl (fun hc3=>?_) (fun hc3=>?_)
 ·skip
  refine wp_skip ?_
  refine k12 _ _ ?_
  refine wp_seq_k fun K14 k14=>?_
  refine wp_block ?_
  replace H:=H.keep [2,3,8] rfl
  refine aB fun K15 k15=>?_
  refine ls 4 H<|sr 2 rfl<|si eN eJ G G (hl.adr (by omega)) (by omega)<|sd ((aS wD eJ rfl S hl (by omega) (by omega)))<|sE ?_;clear H a;intro a H
  refine aM H rfl S fZ ?_;clear H a S;intro b9 _ a hb9 hbw9 S H
  refine aG H S (i:=0) G G G G eJ G G ?_
  clear H a S;intro _ a S H
  refine k15 _ _ ?_;clear k15 K15
  replace H:=H.keep [2,3,8,9] rfl
  refine sS H fun K16 k16=>sf oC rfl<|sl S 0 aA G G G<|sf dX rfl<|sl S 1 aA G G G<|sd (aO G G (by unfold i64ok;omega))<|sc rfl Try.func71 G G (cD _ _ _ _)<|sr 2 rfl<|sg 7 7 36 43 false G G (fun hg8=>by
      have hq8:=hg8;try simp only [o1,o2,o3,o4,o5,o6,o7,o8,o9,oa] at hq8
      exact sy hg8<|sf oD rfl<|sy hg8<|sl S 0 aA G G G<|sy hg8<|sf dX rfl<|sy hg8<|sl S 1 aA G G G<|sy hg8<|sd (aO G G (by unfold i64ok;omega))<|sy hg8<|sc rfl Try.func71 G G (cD _ _ _ _)<|sy hg8<|sr 1 rfl<|sz 7 G G G)<|so G G G<|sr 1 rfl<|sg 6 16 45 51 false G G (fun hg17=>by
      have hq17:=hg17;try simp only [o1,o2,o3,o4,o5,o6,o7,o8,o9,oa] at hq17
      exact sy hg17<|sf oE rfl<|sy hg17<|sl S 0 aA G G G<|sy hg17<|sf mB rfl<|sy hg17<|sl S 0 aA G G G<|sy hg17<|sc rfl Try.func71 G G (cD _ _ _ _)<|sy hg17<|sr 1 rfl<|sz 6 G G G)<|so G G G<|sr 1 rfl<|sg 3 24 53 56 false G G (fun hg25=>by
      have hq25:=hg25;try simp only [o1,o2,o3,o4,o5,o6,o7,o8,o9,oa] at hq25
      exact sy hg25<|sf mB rfl<|sy hg25<|sl S 0 aA G G G<|sy hg25<|sr 1 rfl<|sz 3 G G G)<|so G G G<|sE ?_;clear H a;intro a H
  refine k16 _ ?_;clear k16 K16
  refine aT H rfl (fun hc4=>?_) (fun hc4=>?_)
  ·skip
   try simp only [o1,o2,o3,o4,o5,o6,o7,o8,o9,oa] at hc4
   replace H:=H.keep [] rfl
   refine sS H fun K17 k17=>sr 1 rfl<|sE ?_;clear H a;intro a H
   refine k17 _ ?_;clear k17 K17
   refine wp_ret ?_
   refine ret1 (fn:=Try.f48) rfl H rfl ?_
   exact ⟨congrArg (Value.int .i64) (mE hdE (Di (k:=k) (by omega) (Kl (by omega)))).symm,(S.sel [] G G)⟩
  try simp only [o1,o2,o3,o4,o5,o6,o7,o8,o9,oa] at hc4
  refine wp_skip ?_
  refine k14 _ _ ?_
  refine sO H<|sr 1 rfl<|sd (aI G G (by unfold i64ok;omega))<|sr 1 rfl<|sE ?_;clear H a;intro a H
  exact k11 (g1-1) (k+1) a _ (by omega) (⟨by omega,by omega,cF hp.2.2 (mD.2 (by omega))⟩) (S.sel [1] G G) (H.keep [8,2,3] rfl)
 refine wp_exit ?_
 refine k9 _ _ ?_
 refine sS H fun K19 k19=>sr 1 rfl<|sE ?_;clear H a;intro a H
 refine k19 _ ?_;clear k19 K19
 refine wp_ret ?_
 refine ret1 (fn:=Try.f48) rfl H rfl ?_
 obtain rfl:k=l.length:=by omega
 exact ⟨congrArg (Value.int .i64) (tC hdE (Dj hp.2.2 (by omega))).symm,(S.sel [] G G)⟩
end
section
theorem lW (pl:Int) (ps:List Psg) (PA:Option Addr) (pc:Nat) (xs:List Int) (XA:Option Addr) (xc:Nat) (out:Int) (pe:List Int) (BA:Option Addr) (bc:Nat) (T:Int) (w:World) (hps:InS w noF 7 PA ps.length (pcell ps)) (hpn:ps.length≤9223372036854775807) (hxs:InS w noF 1 XA xs.length (icl xs)) (hxn:xs.length≤9223372036854775807) (hpe:InS w noF 1 BA pe.length (icl pe)) (hpen:pe.length≤9223372036854775807) :
    Calls Try.prog 58 [.agg [.int .i64 pl,.slice PA ps.length pc,.slice XA xs.length xc].toArray,.int .i64 out,.slice BA pe.length bc,.int .i64 T].toArray w (Ret (fun v w'=>v = .int .i64 (dL pl ps xs out pe T)∧St w noF [] w')):=by
 refine enter Try.func58 rfl Try.ntmps58 rfl (fun a H=>?_)
 have S:=St.start w
 refine aB fun K1 k1=>?_
 refine aP H rfl S G G ?_;clear H a S;intro b4 _ a hb4 hbw4 S H
 refine ls 1 H<|sr 1 rfl<|sE ?_;clear H a;intro a H
 refine k1 _ _ ?_;clear k1 K1
 refine aB fun K2 k2=>?_
 refine ls 1 H<|sd ((aD cG dN rfl S (i:=0) G G))<|sE ?_;clear H a;intro a H
 refine aC H G G Try.func47 G G (lV pl ps PA pc xs XA xc _ (hps.now S) hpn (hxs.now S) hxn) ?_;clear H a
 rintro _ _ a ⟨rfl,S2⟩ H
 replace S:=S.call S2;clear S2
 refine ls 1 H<|sr 1 rfl<|sE ?_;clear H a;intro a H
 refine k2 _ _ ?_;clear k2 K2
 refine wp_seq_k fun K3 k3=>?_
 refine sS H fun K4 k4=>sr 2 rfl<|sE ?_;clear H a;intro a H
 refine k4 _ ?_;clear k4 K4
 refine condN H rfl (fun hc1=>?_) (fun hc1=>?_)
 ·skip
  refine sS H fun K5 k5=>sr 2 rfl<|sE ?_;clear H a;intro a H
  refine k5 _ ?_;clear k5 K5
  refine wp_ret ?_
  refine ret1 (fn:=Try.f58) rfl H rfl ?_
  refine ⟨?_,(S.sel [] G G)⟩;unfold dL;rw [if_pos hc1]
 refine wp_skip ?_
 refine k3 _ _ ?_
 refine wp_seq_k fun K6 k6=>?_
 replace H:=H.keep [1,2,3,4] rfl
 refine aB fun K7 k7=>?_
 refine ls 1 H<|sr 1 rfl<|sE ?_;clear H a;intro a H
 refine aC H G G Try.func83 G G (xH _ _) ?_;clear H a
 rintro _ _ a ⟨rfl,rfl⟩ H
 refine ls 2 H<|sr 2 rfl<|sE ?_;clear H a;intro a H
 apply dI (i:=3) (g:=18) (t:=22) (b:=false) 4 H S G G (by kernel_rfl) (by kernel_rfl) G G
 case h1=>
  intro hg4
  have hq4:=hg4;try simp only [o1,o2,o3,o4,o5,o6,o7,o8,o9,oa] at hq4
  refine ls 2 H<|sy hg4<|sd ((aD cG dN rfl S (i:=0) G G))<|sy hg4<|sr 1 rfl<|sE ?_;intro a H
  refine eL H G G (by assumption) ?_
  refine aC H G G Try.func84 G G (pB pl ps PA pc xs XA xc pe BA bc _ (hpe.now S) hpen) ?_
  rintro _ _ a ⟨rfl,S2⟩ H
  replace S:=S.call S2;clear S2
  refine ls 1 H<|sy hg4<|sr 1 rfl<|sE ?_;intro a H
  exact wpList_nil ⟨H.strip 4 G G,(S.sel [0] G G)⟩
 clear H a S;intro a _ H S
 refine ls 6 H<|so G G G<|sr 1 rfl<|sg 3 9 24 27 false G G (fun hg10=>by
     have hq10:=hg10;try simp only [o1,o2,o3,o4,o5,o6,o7,o8,o9,oa] at hq10
     exact sy hg10<|sr 1 rfl<|sy hg10<|sc rfl Try.func71 G G (cD _ _ _ _)<|sy hg10<|sr 1 rfl<|sz 3 G G G)<|so G G G<|sE ?_;clear H a;intro a H
 refine k7 _ _ ?_;clear k7 K7
 refine aT H rfl (fun hc2=>?_) (fun hc2=>?_)
 ·skip
  try simp only [o1,o2,o3,o4,o5,o6,o7,o8,o9,oa] at hc2
  replace H:=H.keep [] rfl
  refine sS H fun K8 k8=>sr 1 rfl<|sE ?_;clear H a;intro a H
  refine k8 _ ?_;clear k8 K8
  refine wp_ret ?_
  refine ret1 (fn:=Try.f58) rfl H rfl ?_
  refine ⟨?_,(S.sel [] rfl rfl)⟩;unfold dL;rw [if_neg (by omega),if_neg (by simp only [Bool.and_eq_true,decide_eq_true_eq];rcases hc2 with (h|h)|h <;> first|(intro h9;omega)|(rw [h];simp))]
 try simp only [o1,o2,o3,o4,o5,o6,o7,o8,o9,oa] at hc2
 refine wp_skip ?_
 refine k6 _ _ ?_
 refine sS H fun K9 k9=>sr 1 rfl<|sE ?_;clear H a;intro a H
 refine k9 _ ?_;clear k9 K9
 refine wp_ret ?_
 refine ret1 (fn:=Try.f58) rfl H rfl ?_
 refine ⟨?_,(S.sel [] G G)⟩;unfold dL;rw [if_neg (by omega),if_pos (by simp only [Bool.and_eq_true,decide_eq_true_eq];exact ⟨⟨by omega,hc2.1.2⟩,by omega⟩)]
end
section
theorem Ur {pe:List Int} (hpp:∀ k,k<pe.length→0≤pe.getD k 0∧pe.getD k 0≤1000) (hl:pe.length≤12) {k:Nat} (hk:k≤pe.length):0≤sumI pe k∧sumI pe k≤12000:=by
  have:=Ea hpp k hk
  omega
end
section
inductive Xt where
  | nil
  | q (i:Nat) (t:Xt)
  | p (i:Nat) (t:Xt)
  | e (i:Nat) (t:Xt)
  | b2 (i:Nat) (t:Xt) (j:Nat) (u:Xt)
  | b3 (i:Nat) (t:Xt) (j:Nat) (u:Xt) (k:Nat) (v:Xt)
  | b4 (i:Nat) (t:Xt) (j:Nat) (u:Xt) (k:Nat) (v:Xt) (m:Nat) (x:Xt)
section
variable {P:Program} {ops:Array Oper} {C:World→Prop} {Qn:Act→World→Prop}
def xt (P:Program) (ops:Array Oper) (C:World→Prop) (z:Nat) (Qn:Act→World→Prop):Xt→Act→World→Prop
  | .nil,a,w=>Qn a w
  | .q i t,a,w=>∃ o v,ops[i]?=some o∧Yd P ops C o v a∧xt P ops C z Qn t (a.put o.dst v) w
  | .p i t,a,w=>∃ o v,ops[i]?=some o∧Yd P ops (fun _=>True) o v a∧xt P ops C z Qn t (a.put o.dst v) w
  | .e i t,a,w=>wpOp P ops NoQ i (fun a' w'=>(i=z∨C w')∧xt P ops C z Qn t a' w') a w
  | .b2 i t j u,a,w=>wpOp P ops NoQ i (fun a' w'=>(i=z∨C w')∧xt P ops C z Qn t a' w') a w∧wpOp P ops NoQ j (fun a' w'=>(j=z∨C w')∧xt P ops C z Qn u a' w') a w
  | .b3 i t j u k v,a,w=>wpOp P ops NoQ i (fun a' w'=>(i=z∨C w')∧xt P ops C z Qn t a' w') a w∧wpOp P ops NoQ j (fun a' w'=>(j=z∨C w')∧xt P ops C z Qn u a' w') a w∧wpOp P ops NoQ k (fun a' w'=>(k=z∨C w')∧xt P ops C z Qn v a' w') a w
  | .b4 i t j u k v m x,a,w=>wpOp P ops NoQ i (fun a' w'=>(i=z∨C w')∧xt P ops C z Qn t a' w') a w∧wpOp P ops NoQ j (fun a' w'=>(j=z∨C w')∧xt P ops C z Qn u a' w') a w∧wpOp P ops NoQ k (fun a' w'=>(k=z∨C w')∧xt P ops C z Qn v a' w') a w∧wpOp P ops NoQ m (fun a' w'=>(m=z∨C w')∧xt P ops C z Qn x a' w') a w
def ckx (ops:Array Oper) (z:Nat):Xt→Bool→Nat→Array Bool→Bool
  | .nil,_,n,listed=>Nat.beq n 0&&(Region.ready .any ops listed).isEmpty
  | .q i t,f,n,listed=>Nat.blt 0 n&&(Region.ready .any ops listed).contains i&&Region.free .any ops listed i&&qP ops z i&&!Nat.beq i z&&!f&&ckx ops z t f (n-1) (listed.setIfInBounds i true)
  | .p i t,f,n,listed=>Nat.blt 0 n&&(Region.ready .any ops listed).contains i&&Region.free .any ops listed i&&!Nat.beq i z&&ckx ops z t f (n-1) (listed.setIfInBounds i true)
  | .e i t,f,n,listed=>Nat.blt 0 n&&eqL (Region.ready .any ops listed) [i]&&ckx ops z t (f||Nat.beq i z) (n-1) (listed.setIfInBounds i true)
  | .b2 i t j u,f,n,listed=>Nat.blt 0 n&&eqL (Region.ready .any ops listed) [i,j]&&ckx ops z t (f||Nat.beq i z) (n-1) (listed.setIfInBounds i true)&&ckx ops z u (f||Nat.beq j z) (n-1) (listed.setIfInBounds j true)
  | .b3 i t j u k v,f,n,listed=>Nat.blt 0 n&&eqL (Region.ready .any ops listed) [i,j,k]&&ckx ops z t (f||Nat.beq i z) (n-1) (listed.setIfInBounds i true)&&ckx ops z u (f||Nat.beq j z) (n-1) (listed.setIfInBounds j true)&&ckx ops z v (f||Nat.beq k z) (n-1) (listed.setIfInBounds k true)
  | .b4 i t j u k v m x,f,n,listed=>Nat.blt 0 n&&eqL (Region.ready .any ops listed) [i,j,k,m]&&ckx ops z t (f||Nat.beq i z) (n-1) (listed.setIfInBounds i true)&&ckx ops z u (f||Nat.beq j z) (n-1) (listed.setIfInBounds j true)&&ckx ops z v (f||Nat.beq k z) (n-1) (listed.setIfInBounds k true)&&ckx ops z x (f||Nat.beq m z) (n-1) (listed.setIfInBounds m true)
theorem Cj {z:Nat} (hs:Region.noSelect ops=true):∀ (π:Xt) (f:Bool) (n:Nat) (listed:Array Bool) (a:Act) (w:World),ckx ops z π f n listed=true→(f=true∨C w)→xt P ops C z Qn π a w→anyZ P ops C z Qn f n listed a w:=by
  intro π
  induction π with
  | nil=>
    intro f n listed a w hc _ h
    simp only [ckx,Bool.and_eq_true] at hc
    have:n=0:=Nat.eq_of_beq_eq_true hc.1
    subst this
    exact ⟨by simpa using hc.2,h⟩
  | q i t ih=>
    intro f n listed a w hc hC h
    simp only [ckx,Bool.and_eq_true] at hc
    obtain ⟨⟨⟨⟨⟨⟨hn,hr⟩,hf⟩,hb⟩,hiz⟩,hff⟩,hc'⟩:=hc
    obtain ⟨m,rfl⟩:∃ m,n=m+1:=fG hn
    obtain ⟨o,v,ho,hy,h'⟩:=h
    have hf0:f=false:=by simpa using hff
    subst hf0
    have hC2:C w:=by
      rcases hC with h|h
      · cases h
      · exact h
    exact rL ho (by simpa using hiz) (nS hb) (Region.noSelect_spec hs) m listed a w (Region.free_spec ho hf) (by simpa using hr) hy hC2 (ih _ _ _ _ _ hc' (.inr hC2) h')
  | p i t ih=>
    intro f n listed a w hc hC h
    simp only [ckx,Bool.and_eq_true] at hc
    obtain ⟨⟨⟨⟨hn,hr⟩,hf⟩,hiz⟩,hc'⟩:=hc
    obtain ⟨m,rfl⟩:∃ m,n=m+1:=fG hn
    obtain ⟨o,v,ho,hy,h'⟩:=h
    exact uM ho (by simpa using hiz) (Region.noSelect_spec hs) m f listed a w (Region.free_spec ho hf) (by simpa using hr) hy hC (ih _ _ _ _ _ hc' hC h')
  | e i t ih=>
    intro f n listed a w hc hC h
    simp only [ckx,Bool.and_eq_true] at hc
    obtain ⟨⟨hn,hr⟩,hc'⟩:=hc
    obtain ⟨m,rfl⟩:∃ m,n=m+1:=fG hn
    have hri:=mP hr
    refine ⟨fun h0=>(by rw [hri] at h0;cases h0),fun j hj=>?_⟩
    rw [hri] at hj
    simp only [List.mem_cons,List.not_mem_nil,or_false] at hj
    subst hj
    exact wpOp_mono (fun a' w' h'=>⟨flag h'.1,ih _ _ _ _ _ hc' (flag h'.1) h'.2⟩) h
  | b2 i t j u ih1 ih2=>
    intro f n listed a w hc hC h
    simp only [ckx,Bool.and_eq_true] at hc
    obtain ⟨⟨⟨hn,hr⟩,hc1⟩,hc2⟩:=hc
    obtain ⟨m,rfl⟩:∃ m,n=m+1:=fG hn
    have hri:=mP hr
    refine ⟨fun h0=>(by rw [hri] at h0;cases h0),fun j hj=>?_⟩
    rw [hri] at hj
    simp only [List.mem_cons,List.not_mem_nil,or_false] at hj
    rcases hj with rfl|rfl
    · exact wpOp_mono (fun a' w' h'=>⟨flag h'.1,ih1 _ _ _ _ _ hc1 (flag h'.1) h'.2⟩) h.1
    · exact wpOp_mono (fun a' w' h'=>⟨flag h'.1,ih2 _ _ _ _ _ hc2 (flag h'.1) h'.2⟩) h.2
  | b3 i t j u k v ih1 ih2 ih3=>
    intro f n listed a w hc hC h
    simp only [ckx,Bool.and_eq_true] at hc
    obtain ⟨⟨⟨⟨hn,hr⟩,hc1⟩,hc2⟩,hc3⟩:=hc
    obtain ⟨m,rfl⟩:∃ m,n=m+1:=fG hn
    have hri:=mP hr
    refine ⟨fun h0=>(by rw [hri] at h0;cases h0),fun j hj=>?_⟩
    rw [hri] at hj
    simp only [List.mem_cons,List.not_mem_nil,or_false] at hj
    rcases hj with rfl|rfl|rfl
    · exact wpOp_mono (fun a' w' h'=>⟨flag h'.1,ih1 _ _ _ _ _ hc1 (flag h'.1) h'.2⟩) h.1
    · exact wpOp_mono (fun a' w' h'=>⟨flag h'.1,ih2 _ _ _ _ _ hc2 (flag h'.1) h'.2⟩) h.2.1
    · exact wpOp_mono (fun a' w' h'=>⟨flag h'.1,ih3 _ _ _ _ _ hc3 (flag h'.1) h'.2⟩) h.2.2
  | b4 i t j u k v m x ih1 ih2 ih3 ih4=>
    intro f n listed a w hc hC h
    simp only [ckx,Bool.and_eq_true] at hc
    obtain ⟨⟨⟨⟨⟨hn,hr⟩,hc1⟩,hc2⟩,hc3⟩,hc4⟩:=hc
    obtain ⟨m',rfl⟩:∃ m',n=m'+1:=fG hn
    have hri:=mP hr
    refine ⟨fun h0=>(by rw [hri] at h0;cases h0),fun j hj=>?_⟩
    rw [hri] at hj
    simp only [List.mem_cons,List.not_mem_nil,or_false] at hj
    rcases hj with rfl|rfl|rfl|rfl
    · exact wpOp_mono (fun a' w' h'=>⟨flag h'.1,ih1 _ _ _ _ _ hc1 (flag h'.1) h'.2⟩) h.1
    · exact wpOp_mono (fun a' w' h'=>⟨flag h'.1,ih2 _ _ _ _ _ hc2 (flag h'.1) h'.2⟩) h.2.1
    · exact wpOp_mono (fun a' w' h'=>⟨flag h'.1,ih3 _ _ _ _ _ hc3 (flag h'.1) h'.2⟩) h.2.2.1
    · exact wpOp_mono (fun a' w' h'=>⟨flag h'.1,ih4 _ _ _ _ _ hc4 (flag h'.1) h'.2⟩) h.2.2.2
def Ck (ops:Array Oper) (z:Nat) (π:Xt):Bool:=Region.noSelect ops&&ckx ops z π false ops.size (Array.replicate ops.size false)
theorem Hg {z:Nat} {id:Nat} {Q:Exit→Act→World→Prop} {a:Act} {w:World} (π:Xt) (hm:P.follows .mixedOrders=true) (hck:Ck ops z π=true) (hC:C w.drew)
    (h:xt P ops C z (fun a w=>Q .normal a w) π a w.drew):(Code.region id ops true).wp P Q a w:=by
  simp only [Ck,Bool.and_eq_true] at hck
  exact wp_region_any hm (lA (C:=C) (z:=z) (Qn:=fun a w=>Q .normal a w) (fun _ _ h=>h) _ _ _ _ _ (Cj hck.1 π false _ _ a _ hck.2 (.inr hC) h))
end
section
variable {P:Program} {w w0:World} {F0:Nat→Prop} {R RE:List Mem} {Q:Exit→Act→World→Prop} {Qn:Act→World→Prop} {l:List Oper} {N:FN} {L:List (Nat×Value)} {a:Act} {ty:TypeId} {pos:String} {af:Array Edge} {op:Op} {y:Code} {id z:Nat} {ops:Array Oper} {π t u v3:Xt}
theorem Us (z:Nat) (π:Xt) (hm:P.follows .mixedOrders=true) (hck:Ck l.toArray z π=true) (SE:St w0 F0 RE w.drew)
    (h:∀ K:Act→World→Prop,(∀ a w,y.wp P Q a w→K a w)→xt P l.toArray (fun w'=>St w0 F0 RE w') z K π a w.drew):(Code.seq (.region id l.toArray true) y).wp P Q a w:=
  wp_seq (Hg π hm hck SE (h _ (fun _ _ h=>h)))
theorem dS {C:World→Prop} (h:Qn a w):xt P ops C z Qn .nil a w:=h
theorem bW {C:World→Prop} {i d:Nat} {v:Value} (H:Fr N L a) (hi:ops[i]?=some ⟨some d,op,ty,pos,af,none⟩) (hd:Nat.blt d N.n=true) (h:∀ w',C w'→Does P L ⟨some d,op,ty,pos,af,none⟩ w' v)
    (k:∀ a',Fr N ((d,v)::L) a'→xt P ops C z Qn π a' w):xt P ops C z Qn (.q i π) a w:=
  ⟨_,v,hi,.inl ⟨rfl,fun w' hC=>h w' hC a.eval (fun x u hx=>H.eval hx)⟩,k _ (H.put v hd)⟩
theorem iG {C:World→Prop} {i:Nat} {o:Oper} (hi:ops[i]?=some o) (h:wpList P ops (onlyN fun a' w'=>(i=z∨C w')∧xt P ops C z Qn π a' w') [o] a w):wpOp P ops NoQ i (fun a' w'=>(i=z∨C w')∧xt P ops C z Qn π a' w') a w:=by
  unfold wpOp
  simp only [hi]
  unfold wpList at h
  split
  · rename_i hw
    rw [if_pos hw] at h
    rcases h with h|⟨_,_,_,h⟩
    · exact .inl (lX h)
    · exact h.elim
  · rename_i hw
    rw [if_neg hw] at h
    exact h
theorem bG {C:World→Prop} {i:Nat} {o:Oper} (hi:ops[i]?=some o) (h:wpList P ops (onlyN fun a' w'=>(i=z∨C w')∧xt P ops C z Qn π a' w') [o] a w):xt P ops C z Qn (.e i π) a w:=iG hi h
theorem kT {C:World→Prop} {i j:Nat} {o o':Oper} (hi:ops[i]?=some o) (hj:ops[j]?=some o') (h:wpList P ops (onlyN fun a' w'=>(i=z∨C w')∧xt P ops C z Qn t a' w') [o] a w) (h':wpList P ops (onlyN fun a' w'=>(j=z∨C w')∧xt P ops C z Qn u a' w') [o'] a w):xt P ops C z Qn (.b2 i t j u) a w:=⟨iG hi h,iG hj h'⟩
theorem Ef {C:World→Prop} {i j k:Nat} {o o' o'':Oper} (hi:ops[i]?=some o) (hj:ops[j]?=some o') (hk:ops[k]?=some o'') (h:wpList P ops (onlyN fun a' w'=>(i=z∨C w')∧xt P ops C z Qn t a' w') [o] a w) (h':wpList P ops (onlyN fun a' w'=>(j=z∨C w')∧xt P ops C z Qn u a' w') [o'] a w) (h'':wpList P ops (onlyN fun a' w'=>(k=z∨C w')∧xt P ops C z Qn v3 a' w') [o''] a w):xt P ops C z Qn (.b3 i t j u k v3) a w:=⟨iG hi h,iG hj h',iG hk h''⟩
theorem Xc {C:World→Prop} {i j k m:Nat} {o1 o2 o3 o4:Oper} {v4:Xt} (hi:ops[i]?=some o1) (hj:ops[j]?=some o2) (hk:ops[k]?=some o3) (hm:ops[m]?=some o4) (h1:wpList P ops (onlyN fun a' w'=>(i=z∨C w')∧xt P ops C z Qn t a' w') [o1] a w) (h2:wpList P ops (onlyN fun a' w'=>(j=z∨C w')∧xt P ops C z Qn u a' w') [o2] a w) (h3:wpList P ops (onlyN fun a' w'=>(k=z∨C w')∧xt P ops C z Qn v3 a' w') [o3] a w) (h4:wpList P ops (onlyN fun a' w'=>(m=z∨C w')∧xt P ops C z Qn v4 a' w') [o4] a w):xt P ops C z Qn (.b4 i t j u k v3 m v4) a w:=⟨iG hi h1,iG hj h2,iG hk h3,iG hm h4⟩
end
end
section
theorem Ut {x1 x2 x3 x4 x5:List Value} (h:[x1,x2,x3,x4,x5]=w8exW.map fun p=>[.int .i64 p.a,.int .i64 p.b,.int .i64 p.kind,.int .i64 p.ticks,.int .i64 p.wide,.int .i64 p.mach,.int .i64 p.still]):∀ k j,k<5→j<7→([x1,x2,x3,x4,x5].getD k []).getD j undef=pcell w8exW k j:=by
  rw [h]
  intro k j hk hj
  match k,hk with
  | 0,_=>exact seven (p:=fun j=>((w8exW.map fun p=>[Value.int .i64 p.a,.int .i64 p.b,.int .i64 p.kind,.int .i64 p.ticks,.int .i64 p.wide,.int .i64 p.mach,.int .i64 p.still]).getD 0 []).getD j undef=pcell w8exW 0 j) G G G G G G G j hj
  | 1,_=>exact seven (p:=fun j=>((w8exW.map fun p=>[Value.int .i64 p.a,.int .i64 p.b,.int .i64 p.kind,.int .i64 p.ticks,.int .i64 p.wide,.int .i64 p.mach,.int .i64 p.still]).getD 1 []).getD j undef=pcell w8exW 1 j) G G G G G G G j hj
  | 2,_=>exact seven (p:=fun j=>((w8exW.map fun p=>[Value.int .i64 p.a,.int .i64 p.b,.int .i64 p.kind,.int .i64 p.ticks,.int .i64 p.wide,.int .i64 p.mach,.int .i64 p.still]).getD 2 []).getD j undef=pcell w8exW 2 j) G G G G G G G j hj
  | 3,_=>exact seven (p:=fun j=>((w8exW.map fun p=>[Value.int .i64 p.a,.int .i64 p.b,.int .i64 p.kind,.int .i64 p.ticks,.int .i64 p.wide,.int .i64 p.mach,.int .i64 p.still]).getD 3 []).getD j undef=pcell w8exW 3 j) G G G G G G G j hj
  | 4,_=>exact seven (p:=fun j=>((w8exW.map fun p=>[Value.int .i64 p.a,.int .i64 p.b,.int .i64 p.kind,.int .i64 p.ticks,.int .i64 p.wide,.int .i64 p.mach,.int .i64 p.still]).getD 4 []).getD j undef=pcell w8exW 4 j) G G G G G G G j hj
theorem Uu {x:Int}:∀ k j,k<1→j<1→([[Value.int .i64 x]].getD k []).getD j undef=icl [x] k j:=fun k j hk hj=>by
  have e:k=0:=by omega
  have e2:j=0:=by omega
  subst e;subst e2;rfl
theorem fI {x y z t:Int}:∀ k j,k<4→j<1→([[Value.int .i64 x],[.int .i64 y],[.int .i64 z],[.int .i64 t]].getD k []).getD j undef=icl [x,y,z,t] k j:=fun k j hk hj=>by
  have e2:j=0:=by omega
  subst e2
  match k,hk with
  | 0,_=>rfl
  | 1,_=>rfl
  | 2,_=>rfl
  | 3,_=>rfl
theorem fT {x1 x2:List Value} (h:[x1,x2]=exPr.map fun p=>[.int .i64 p.fr,.int .i64 p.to,.int .i64 p.first,.int .i64 p.last,.bool p.helped]):∀ k j,k<2→j<5→([x1,x2].getD k []).getD j undef=dE exPr k j:=by
  rw [h]
  intro k j hk hj
  have hj':j=0∨j=1∨j=2∨j=3∨j=4:=by omega
  have hk':k=0∨k=1:=by omega
  rcases hk' with rfl|rfl <;> rcases hj' with rfl|rfl|rfl|rfl|rfl <;> rfl
theorem iR {x1 x2:List Value} {RA:Option Addr} {rc:Nat} (h:[x1,x2]=(exU RA rc).map fun u=>[.int .i64 u.mach,.int .i64 u.every,.int .i64 u.seen,.slice u.RA u.rates.length u.rc,.int .i64 u.worn,.int .i64 u.turns,.int .i64 u.age,.slice u.UA u.uses.length u.uc,.int .i64 u.old,.int .i64 u.tn,.int .i64 u.cl,.int .i64 u.kind]):∀ k j,k<2→j<12→([x1,x2].getD k []).getD j undef=vcell (exU RA rc) k j:=by
  rw [h]
  intro k j hk hj
  have hj':j=0∨j=1∨j=2∨j=3∨j=4∨j=5∨j=6∨j=7∨j=8∨j=9∨j=10∨j=11:=by omega
  have hk':k=0∨k=1:=by omega
  rcases hk' with rfl|rfl <;> rcases hj' with rfl|rfl|rfl|rfl|rfl|rfl|rfl|rfl|rfl|rfl|rfl|rfl <;> rfl
theorem Xd:∀ k j,k<1→j<2→([[Value.int .i64 1,.int .i64 2]].getD k []).getD j undef=scell [(1,2)] k j:=fun k j hk hj=>by
  have hk':k=0:=by omega
  have hj':j=0∨j=1:=by omega
  subst hk'
  rcases hj' with rfl|rfl <;> rfl
theorem Xe:∀ k j,k<1→j<3→([[Value.int .i64 1,.int .i64 1,.int .i64 1]].getD k []).getD j undef=fH exJob k j:=fun k j hk hj=>by
  have hk':k=0:=by omega
  have hj':j=0∨j=1∨j=2:=by omega
  subst hk'
  rcases hj' with rfl|rfl|rfl <;> rfl
section
variable {w:World} {F:Nat→Prop} {PA:Option Addr} {pc:Nat} {XA:Option Addr} {xc:Nat} {BA:Option Addr} {bc:Nat} {QA:Option Addr} {qc:Nat} {VA:Option Addr} {vc:Nat} {RA:Option Addr} {rc:Nat}
theorem Mq (h1:InS w F 7 PA 5 (pcell w8exW)) (h2:InS w F 1 XA 1 (icl exX)) (h3:InS w F 1 BA 4 (icl w8exP)) (h4:InS w F 5 QA 2 (dE exPr)) (h5:InS w F 12 VA 2 (vcell (exU RA rc))) (h6:InS w F 2 RA 1 (scell [(1,2)])):YIn w F (exYr PA pc XA xc BA bc QA qc VA vc RA rc):=
  ⟨h1,h2,h3,h4,h5,InS.nil,fun k hk=>by
    have hk':k=0∨k=1:=by have:k<2:=hk;omega
    rcases hk' with rfl|rfl <;> exact h6,fun k hk=>by
    have hk':k=0∨k=1:=by have:k<2:=hk;omega
    rcases hk' with rfl|rfl <;> exact InS.nil⟩
theorem Mr:YBd (exYr PA pc XA xc BA bc QA qc VA vc RA rc):=by
  have two:∀ {p:Nat→Prop},p 0→p 1→∀ k,k<2→p k:=fun h0 h1 k hk=>by
    have hk':k=0∨k=1:=by omega
    rcases hk' with rfl|rfl
    · exact h0
    · exact h1
  exact ⟨by show 5*56≤_;decide,by show 1*8≤_;decide,by show 4*8≤_;decide,by show 2*40≤_;decide,by show 2*120≤_;decide,by show 0*24≤_;decide,two (by show 1*16≤_;decide) (by show 1*16≤_;decide),two (by show 0*48≤_;decide) (by show 0*48≤_;decide),two (by show 0≤0;decide) (by show 0≤0;decide)⟩
theorem Rn:∀ k j,k<4→j<1→setsV (exYr PA pc XA xc BA bc QA qc VA vc RA rc) exJob (exYr PA pc XA xc BA bc QA qc VA vc RA rc).us.length k j=icl [0,3,1,1] k j:=fun k j hk hj=>by
  unfold setsV icl
  rw [exOo (by omega)]
theorem Hh (hy:YIn w noF (exYr PA pc XA xc BA bc QA qc VA vc RA rc)) {TA:Option Addr} {tc:Nat} (hl:InS w noF 3 TA 1 (fH exJob)) :
    Calls Try.prog 13 [.agg [.int .i64 4,.int .i64 4,.slice PA 5 pc,.slice XA 1 xc,.slice BA 4 bc,.int .i64 6,.bool false,.slice QA 2 qc,.slice VA 2 vc,.int .i64 1,.slice none 0 0].toArray,.slice TA 1 tc].toArray w (Ret fun v w'=>∃ A c,v = .tuple #[.slice A 4 c,.int .i64 0]∧St w noF [ownM 3 1 A 4 c (icl [0,3,1,1])] w'):=by
  have hh:=Me (exYr PA pc XA xc BA bc QA qc VA vc RA rc) exJob TA tc w hy Mr hl (by decide)
  refine eS hh fun v w' h=>?_
  rcases h with ⟨h0,_⟩|⟨_,A,c,h1,h2⟩
  · exact absurd Rg h0
  · exact ⟨A,c,h1,h2.recell (i:=0) rfl Rn⟩
theorem zT (hy:YIn w noF (exYr PA pc XA xc BA bc QA qc VA vc RA rc)) :
    Calls Try.prog 12 [.agg [.int .i64 4,.int .i64 4,.slice PA 5 pc,.slice XA 1 xc,.slice BA 4 bc,.int .i64 6,.bool false,.slice QA 2 qc,.slice VA 2 vc,.int .i64 1,.slice none 0 0].toArray,.slice none 0 0].toArray w (Ret fun v w'=>v = .tuple #[.int .i64 3,.int .i64 3,.int .i64 0]∧St w noF [] w'):=by
  have hh:=Mf (exYr PA pc XA xc BA bc QA qc VA vc RA rc) [] none 0 w hy Mr InS.nil (by decide)
  refine eS hh fun v w' h=>?_
  rcases h with ⟨h0,_⟩|⟨_,h1,h2⟩
  · exact absurd Rf h0
  · rw [Mn] at h1
    exact ⟨h1,h2⟩
end
theorem bR (w:World) :
    Calls Try.prog 59 [].toArray w (Ret (fun u w'=>∃ A c B d,u = .agg [.int .i64 4,.slice A 5 c,.slice B 1 d].toArray∧St w noF [ownM 128 7 A 5 c (pcell w8exW),ownM 3 1 B 1 d (icl exX)] w')):=by
 refine enter Try.func59 rfl Try.ntmps59 rfl (fun a H=>?_)
 have S:=St.start w
 refine aB fun K1 k1=>?_
 refine aM H rfl S Si ?_;clear H a S;intro b0 _ a hb0 hbw0 S H
 refine k1 _ _ ?_;clear k1 K1
 replace H:=H.keep [0] rfl
 refine aB fun K2 k2=>?_
 refine aK H rfl S aR aX fQ G G G G G G G G G ?_;clear H a S;intro A1 _ a hA1 S H
 replace S:=S.recell (i:=0) rfl (cell':=icl exX) (fun k j hk hj=>Uu k j hk hj)
 refine ls 5 H<|sd (aN sC G G)<|sd (aN sC G G)<|sd (aN sC G G)<|sd (aN sC G G)<|sd (aN sC G G)<|sE ?_;clear H a;intro a H
 refine aK H rfl S gJ dK kP G G G G G G G G G ?_;clear H a S;intro A2 _ a hA2 S H
 replace S:=S.recell (i:=0) rfl (cell':=pcell w8exW) (fun k j hk hj=>Ut rfl k j hk hj)
 refine ls 1 H<|sd (aN Wg G G)<|sE ?_;clear H a;intro a H
 refine aG H S (i:=2) G G G G dN G G ?_
 clear H a S;intro _ a S H
 refine k2 _ _ ?_;clear k2 K2
 refine wp_ret ?_
 refine retA (fn:=Try.f59) rfl H rfl cG (by exact dN) (cB S (i:=2) rfl) ?_
 exact ⟨_,_,_,_,rfl,(S.sel [0,1] G G)⟩
theorem uK (w:World) :
    Calls Try.prog 35 [].toArray w (Ret (fun u w'=>∃ PA pc XA xc BA bc QA qc VA vc RA rc,u = .agg [.int .i64 4,.int .i64 4,.slice PA 5 pc,.slice XA 1 xc,.slice BA 4 bc,.int .i64 6,.bool false,.slice QA 2 qc,.slice VA 2 vc,.int .i64 1,.slice none 0 0].toArray∧St w noF [ownM 128 7 PA 5 pc (pcell w8exW),ownM 3 1 XA 1 xc (icl exX),ownM 3 1 BA 4 bc (icl w8exP),ownM 95 5 QA 2 qc (dE exPr),ownM 65 12 VA 2 vc (vcell (exU RA rc)),ownM 68 2 RA 1 rc (scell [(1,2)])] w')):=by
 refine enter Try.func35 rfl Try.ntmps35 rfl (fun a H=>?_)
 have S:=St.start w
 refine aB fun K1 k1=>?_
 refine aM H rfl S Iy ?_;clear H a S;intro b0 _ a hb0 hbw0 S H
 refine k1 _ _ ?_;clear k1 K1
 refine aB fun K2 k2=>?_
 refine ls 1 H<|sd (aN iQ G G)<|sE ?_;clear H a;intro a H
 refine aK H rfl S cE aV dU G G G G G G G G G ?_;clear H a S;intro A1 _ a hA1 S H
 replace S:=S.recell (i:=0) rfl (cell':=scell [(1,2)]) (fun k j hk hj=>Xd k j hk hj)
 refine ls 1 H<|sd (aN Wi G G)<|sE ?_;clear H a;intro a H
 refine aM H rfl S Sk ?_;clear H a S;intro b1 _ a hb1 hbw1 S H
 refine aG H S (i:=0) G G G G fV G G ?_
 clear H a S;intro _ a S H
 refine k2 _ _ ?_;clear k2 K2
 replace H:=H.keep [0,1] rfl
 replace S:=S.drew
 refine Us 11 (.q 2 (.q 3 (.q 5 (.q 6 (.q 7 (.q 8 (.b4 0 (.b3 1 (.b2 4 (.e 9 (.q 10 (.e 11 .nil))) 9 (.e 4 (.q 10 (.e 11 .nil)))) 4 (.b2 1 (.e 9 (.q 10 (.e 11 .nil))) 9 (.e 1 (.q 10 (.e 11 .nil)))) 9 (.b2 1 (.e 4 (.q 10 (.e 11 .nil))) 4 (.e 1 (.q 10 (.e 11 .nil))))) 1 (.b3 0 (.b2 4 (.e 9 (.q 10 (.e 11 .nil))) 9 (.e 4 (.q 10 (.e 11 .nil)))) 4 (.b2 0 (.e 9 (.q 10 (.e 11 .nil))) 9 (.e 0 (.q 10 (.e 11 .nil)))) 9 (.b2 0 (.e 4 (.q 10 (.e 11 .nil))) 4 (.e 0 (.q 10 (.e 11 .nil))))) 4 (.b3 0 (.b2 1 (.e 9 (.q 10 (.e 11 .nil))) 9 (.e 1 (.q 10 (.e 11 .nil)))) 1 (.b2 0 (.e 9 (.q 10 (.e 11 .nil))) 9 (.e 0 (.q 10 (.e 11 .nil)))) 9 (.b2 0 (.e 1 (.q 10 (.e 11 .nil))) 1 (.e 0 (.q 10 (.e 11 .nil))))) 9 (.b3 0 (.b2 1 (.e 4 (.q 10 (.e 11 .nil))) 4 (.e 1 (.q 10 (.e 11 .nil)))) 1 (.b2 0 (.e 4 (.q 10 (.e 11 .nil))) 4 (.e 0 (.q 10 (.e 11 .nil)))) 4 (.b2 0 (.e 1 (.q 10 (.e 11 .nil))) 1 (.e 0 (.q 10 (.e 11 .nil)))))))))))) (by kernel_rfl) (by kernel_rfl) (S.sel [0,1] G G) fun K3 k3=>?_
 refine bW H G G (fun _ S=>aN Sp G G) ?_;clear H a;intro a H
 refine bW H G G (fun _ S=>aN Sp G G) ?_;clear H a;intro a H
 refine bW H G G (fun _ S=>(aD eM fV rfl S (i:=0) G G)) ?_;clear H a;intro a H
 refine bW H G G (fun _ S=>aN Sn G G) ?_;clear H a;intro a H
 refine bW H G G (fun _ S=>(aD eM fV rfl S (i:=0) G G)) ?_;clear H a;intro a H
 refine bW H G G (fun _ S=>aN Sn G G) ?_;clear H a;intro a H
 refine Xc G G G G ?_ ?_ ?_ ?_
 ·skip
  refine aC H G G Try.func59 G G (bR _) ?_;clear H a
  rintro _ _ a ⟨A5,c5,B5,d5,rfl,S2⟩ H
  replace S:=S.call S2;clear S2
  refine wpList_nil (And.intro (Or.inr (S.sel [2,3] G G)) ?_)
  refine Ef G G G ?_ ?_ ?_
  ·skip
   refine aK H rfl S aR aX fQ G G G G G G G G G ?_;clear H a S;intro A2 _ a hA2 S H
   replace S:=S.recell (i:=0) rfl (cell':=icl w8exP) (fun k j hk hj=>fI k j hk hj)
   refine wpList_nil (And.intro (Or.inr (S.sel [3,4] G G)) ?_)
   refine kT G G ?_ ?_
   ·skip
    refine aK H rfl S eN eJ fZ G G G G G G G G G ?_;clear H a S;intro A3 _ a hA3 S H
    replace S:=S.recell (i:=0) rfl (cell':=dE exPr) (fun k j hk hj=>fT rfl k j hk hj)
    refine wpList_nil (And.intro (Or.inr (S.sel [4,5] G G)) ?_)
    refine bG rfl ?_
    refine aK H rfl S cJ dG fY G G G G G G G G G ?_;clear H a S;intro A4 _ a hA4 S H
    replace S:=S.recell (i:=0) rfl (cell':=vcell (exU _ _)) (fun k j hk hj=>iR rfl k j hk hj)
    refine wpList_nil (And.intro (Or.inr (S.sel [5,6] G G)) ?_)
    refine bW H G G (fun _ S=>aN fE G G) ?_;clear H a;intro a H
    refine bG rfl ?_
    refine aG H S (i:=7) G G G G bA G G ?_
    clear H a S;intro _ a S H
    refine wpList_nil (And.intro (Or.inl rfl) ?_)
    refine dS ?_
    refine k3 _ _ ?_
    clear k3 K3
    refine wp_ret ?_
    refine retA (fn:=Try.f35) rfl H rfl bE (by exact bA) (cB S (i:=7) rfl) ?_
    exact ⟨_,_,_,_,_,_,_,_,_,_,_,_,rfl,(S.sel [3,4,2,1,0,6] G G)⟩
   ·skip
    refine aK H rfl S cJ dG fY G G G G G G G G G ?_;clear H a S;intro A5 _ a hA5 S H
    replace S:=S.recell (i:=0) rfl (cell':=vcell (exU _ _)) (fun k j hk hj=>iR rfl k j hk hj)
    refine wpList_nil (And.intro (Or.inr (S.sel [4,5] G G)) ?_)
    refine bG rfl ?_
    refine aK H rfl S eN eJ fZ G G G G G G G G G ?_;clear H a S;intro A6 _ a hA6 S H
    replace S:=S.recell (i:=0) rfl (cell':=dE exPr) (fun k j hk hj=>fT rfl k j hk hj)
    refine wpList_nil (And.intro (Or.inr (S.sel [5,6] G G)) ?_)
    refine bW H G G (fun _ S=>aN fE G G) ?_;clear H a;intro a H
    refine bG rfl ?_
    refine aG H S (i:=7) G G G G bA G G ?_
    clear H a S;intro _ a S H
    refine wpList_nil (And.intro (Or.inl rfl) ?_)
    refine dS ?_
    refine k3 _ _ ?_
    clear k3 K3
    refine wp_ret ?_
    refine retA (fn:=Try.f35) rfl H rfl bE (by exact bA) (cB S (i:=7) rfl) ?_
    exact ⟨_,_,_,_,_,_,_,_,_,_,_,_,rfl,(S.sel [3,4,2,0,1,6] G G)⟩
  ·skip
   refine aK H rfl S eN eJ fZ G G G G G G G G G ?_;clear H a S;intro A7 _ a hA7 S H
   replace S:=S.recell (i:=0) rfl (cell':=dE exPr) (fun k j hk hj=>fT rfl k j hk hj)
   refine wpList_nil (And.intro (Or.inr (S.sel [3,4] G G)) ?_)
   refine kT G G ?_ ?_
   ·skip
    refine aK H rfl S aR aX fQ G G G G G G G G G ?_;clear H a S;intro A8 _ a hA8 S H
    replace S:=S.recell (i:=0) rfl (cell':=icl w8exP) (fun k j hk hj=>fI k j hk hj)
    refine wpList_nil (And.intro (Or.inr (S.sel [4,5] G G)) ?_)
    refine bG rfl ?_
    refine aK H rfl S cJ dG fY G G G G G G G G G ?_;clear H a S;intro A9 _ a hA9 S H
    replace S:=S.recell (i:=0) rfl (cell':=vcell (exU _ _)) (fun k j hk hj=>iR rfl k j hk hj)
    refine wpList_nil (And.intro (Or.inr (S.sel [5,6] G G)) ?_)
    refine bW H G G (fun _ S=>aN fE G G) ?_;clear H a;intro a H
    refine bG rfl ?_
    refine aG H S (i:=7) G G G G bA G G ?_
    clear H a S;intro _ a S H
    refine wpList_nil (And.intro (Or.inl rfl) ?_)
    refine dS ?_
    refine k3 _ _ ?_
    clear k3 K3
    refine wp_ret ?_
    refine retA (fn:=Try.f35) rfl H rfl bE (by exact bA) (cB S (i:=7) rfl) ?_
    exact ⟨_,_,_,_,_,_,_,_,_,_,_,_,rfl,(S.sel [3,4,1,2,0,6] G G)⟩
   ·skip
    refine aK H rfl S cJ dG fY G G G G G G G G G ?_;clear H a S;intro A10 _ a hA10 S H
    replace S:=S.recell (i:=0) rfl (cell':=vcell (exU _ _)) (fun k j hk hj=>iR rfl k j hk hj)
    refine wpList_nil (And.intro (Or.inr (S.sel [4,5] G G)) ?_)
    refine bG rfl ?_
    refine aK H rfl S aR aX fQ G G G G G G G G G ?_;clear H a S;intro A11 _ a hA11 S H
    replace S:=S.recell (i:=0) rfl (cell':=icl w8exP) (fun k j hk hj=>fI k j hk hj)
    refine wpList_nil (And.intro (Or.inr (S.sel [5,6] G G)) ?_)
    refine bW H G G (fun _ S=>aN fE G G) ?_;clear H a;intro a H
    refine bG rfl ?_
    refine aG H S (i:=7) G G G G bA G G ?_
    clear H a S;intro _ a S H
    refine wpList_nil (And.intro (Or.inl rfl) ?_)
    refine dS ?_
    refine k3 _ _ ?_
    clear k3 K3
    refine wp_ret ?_
    refine retA (fn:=Try.f35) rfl H rfl bE (by exact bA) (cB S (i:=7) rfl) ?_
    exact ⟨_,_,_,_,_,_,_,_,_,_,_,_,rfl,(S.sel [3,4,0,2,1,6] G G)⟩
  ·skip
   refine aK H rfl S cJ dG fY G G G G G G G G G ?_;clear H a S;intro A12 _ a hA12 S H
   replace S:=S.recell (i:=0) rfl (cell':=vcell (exU _ _)) (fun k j hk hj=>iR rfl k j hk hj)
   refine wpList_nil (And.intro (Or.inr (S.sel [3,4] G G)) ?_)
   refine kT G G ?_ ?_
   ·skip
    refine aK H rfl S aR aX fQ G G G G G G G G G ?_;clear H a S;intro A13 _ a hA13 S H
    replace S:=S.recell (i:=0) rfl (cell':=icl w8exP) (fun k j hk hj=>fI k j hk hj)
    refine wpList_nil (And.intro (Or.inr (S.sel [4,5] G G)) ?_)
    refine bG rfl ?_
    refine aK H rfl S eN eJ fZ G G G G G G G G G ?_;clear H a S;intro A14 _ a hA14 S H
    replace S:=S.recell (i:=0) rfl (cell':=dE exPr) (fun k j hk hj=>fT rfl k j hk hj)
    refine wpList_nil (And.intro (Or.inr (S.sel [5,6] G G)) ?_)
    refine bW H G G (fun _ S=>aN fE G G) ?_;clear H a;intro a H
    refine bG rfl ?_
    refine aG H S (i:=7) G G G G bA G G ?_
    clear H a S;intro _ a S H
    refine wpList_nil (And.intro (Or.inl rfl) ?_)
    refine dS ?_
    refine k3 _ _ ?_
    clear k3 K3
    refine wp_ret ?_
    refine retA (fn:=Try.f35) rfl H rfl bE (by exact bA) (cB S (i:=7) rfl) ?_
    exact ⟨_,_,_,_,_,_,_,_,_,_,_,_,rfl,(S.sel [3,4,1,0,2,6] G G)⟩
   ·skip
    refine aK H rfl S eN eJ fZ G G G G G G G G G ?_;clear H a S;intro A15 _ a hA15 S H
    replace S:=S.recell (i:=0) rfl (cell':=dE exPr) (fun k j hk hj=>fT rfl k j hk hj)
    refine wpList_nil (And.intro (Or.inr (S.sel [4,5] G G)) ?_)
    refine bG rfl ?_
    refine aK H rfl S aR aX fQ G G G G G G G G G ?_;clear H a S;intro A16 _ a hA16 S H
    replace S:=S.recell (i:=0) rfl (cell':=icl w8exP) (fun k j hk hj=>fI k j hk hj)
    refine wpList_nil (And.intro (Or.inr (S.sel [5,6] G G)) ?_)
    refine bW H G G (fun _ S=>aN fE G G) ?_;clear H a;intro a H
    refine bG rfl ?_
    refine aG H S (i:=7) G G G G bA G G ?_
    clear H a S;intro _ a S H
    refine wpList_nil (And.intro (Or.inl rfl) ?_)
    refine dS ?_
    refine k3 _ _ ?_
    clear k3 K3
    refine wp_ret ?_
    refine retA (fn:=Try.f35) rfl H rfl bE (by exact bA) (cB S (i:=7) rfl) ?_
    exact ⟨_,_,_,_,_,_,_,_,_,_,_,_,rfl,(S.sel [3,4,0,1,2,6] G G)⟩
 ·skip
  refine aK H rfl S aR aX fQ G G G G G G G G G ?_;clear H a S;intro A17 _ a hA17 S H
  replace S:=S.recell (i:=0) rfl (cell':=icl w8exP) (fun k j hk hj=>fI k j hk hj)
  refine wpList_nil (And.intro (Or.inr (S.sel [1,2] G G)) ?_)
  refine Ef G G G ?_ ?_ ?_
  ·skip
   refine aC H G G Try.func59 G G (bR _) ?_;clear H a
   rintro _ _ a ⟨A5,c5,B5,d5,rfl,S2⟩ H
   replace S:=S.call S2;clear S2
   refine wpList_nil (And.intro (Or.inr (S.sel [3,4] G G)) ?_)
   refine kT G G ?_ ?_
   ·skip
    refine aK H rfl S eN eJ fZ G G G G G G G G G ?_;clear H a S;intro A18 _ a hA18 S H
    replace S:=S.recell (i:=0) rfl (cell':=dE exPr) (fun k j hk hj=>fT rfl k j hk hj)
    refine wpList_nil (And.intro (Or.inr (S.sel [4,5] G G)) ?_)
    refine bG rfl ?_
    refine aK H rfl S cJ dG fY G G G G G G G G G ?_;clear H a S;intro A19 _ a hA19 S H
    replace S:=S.recell (i:=0) rfl (cell':=vcell (exU _ _)) (fun k j hk hj=>iR rfl k j hk hj)
    refine wpList_nil (And.intro (Or.inr (S.sel [5,6] G G)) ?_)
    refine bW H G G (fun _ S=>aN fE G G) ?_;clear H a;intro a H
    refine bG rfl ?_
    refine aG H S (i:=7) G G G G bA G G ?_
    clear H a S;intro _ a S H
    refine wpList_nil (And.intro (Or.inl rfl) ?_)
    refine dS ?_
    refine k3 _ _ ?_
    clear k3 K3
    refine wp_ret ?_
    refine retA (fn:=Try.f35) rfl H rfl bE (by exact bA) (cB S (i:=7) rfl) ?_
    exact ⟨_,_,_,_,_,_,_,_,_,_,_,_,rfl,(S.sel [2,3,4,1,0,6] G G)⟩
   ·skip
    refine aK H rfl S cJ dG fY G G G G G G G G G ?_;clear H a S;intro A20 _ a hA20 S H
    replace S:=S.recell (i:=0) rfl (cell':=vcell (exU _ _)) (fun k j hk hj=>iR rfl k j hk hj)
    refine wpList_nil (And.intro (Or.inr (S.sel [4,5] G G)) ?_)
    refine bG rfl ?_
    refine aK H rfl S eN eJ fZ G G G G G G G G G ?_;clear H a S;intro A21 _ a hA21 S H
    replace S:=S.recell (i:=0) rfl (cell':=dE exPr) (fun k j hk hj=>fT rfl k j hk hj)
    refine wpList_nil (And.intro (Or.inr (S.sel [5,6] G G)) ?_)
    refine bW H G G (fun _ S=>aN fE G G) ?_;clear H a;intro a H
    refine bG rfl ?_
    refine aG H S (i:=7) G G G G bA G G ?_
    clear H a S;intro _ a S H
    refine wpList_nil (And.intro (Or.inl rfl) ?_)
    refine dS ?_
    refine k3 _ _ ?_
    clear k3 K3
    refine wp_ret ?_
    refine retA (fn:=Try.f35) rfl H rfl bE (by exact bA) (cB S (i:=7) rfl) ?_
    exact ⟨_,_,_,_,_,_,_,_,_,_,_,_,rfl,(S.sel [2,3,4,0,1,6] G G)⟩
  ·skip
   refine aK H rfl S eN eJ fZ G G G G G G G G G ?_;clear H a S;intro A22 _ a hA22 S H
   replace S:=S.recell (i:=0) rfl (cell':=dE exPr) (fun k j hk hj=>fT rfl k j hk hj)
   refine wpList_nil (And.intro (Or.inr (S.sel [2,3] G G)) ?_)
   refine kT G G ?_ ?_
   ·skip
    refine aC H G G Try.func59 G G (bR _) ?_;clear H a
    rintro _ _ a ⟨A5,c5,B5,d5,rfl,S2⟩ H
    replace S:=S.call S2;clear S2
    refine wpList_nil (And.intro (Or.inr (S.sel [4,5] G G)) ?_)
    refine bG rfl ?_
    refine aK H rfl S cJ dG fY G G G G G G G G G ?_;clear H a S;intro A23 _ a hA23 S H
    replace S:=S.recell (i:=0) rfl (cell':=vcell (exU _ _)) (fun k j hk hj=>iR rfl k j hk hj)
    refine wpList_nil (And.intro (Or.inr (S.sel [5,6] G G)) ?_)
    refine bW H G G (fun _ S=>aN fE G G) ?_;clear H a;intro a H
    refine bG rfl ?_
    refine aG H S (i:=7) G G G G bA G G ?_
    clear H a S;intro _ a S H
    refine wpList_nil (And.intro (Or.inl rfl) ?_)
    refine dS ?_
    refine k3 _ _ ?_
    clear k3 K3
    refine wp_ret ?_
    refine retA (fn:=Try.f35) rfl H rfl bE (by exact bA) (cB S (i:=7) rfl) ?_
    exact ⟨_,_,_,_,_,_,_,_,_,_,_,_,rfl,(S.sel [1,2,4,3,0,6] G G)⟩
   ·skip
    refine aK H rfl S cJ dG fY G G G G G G G G G ?_;clear H a S;intro A24 _ a hA24 S H
    replace S:=S.recell (i:=0) rfl (cell':=vcell (exU _ _)) (fun k j hk hj=>iR rfl k j hk hj)
    refine wpList_nil (And.intro (Or.inr (S.sel [3,4] G G)) ?_)
    refine bG rfl ?_
    refine aC H G G Try.func59 G G (bR _) ?_;clear H a
    rintro _ _ a ⟨A5,c5,B5,d5,rfl,S2⟩ H
    replace S:=S.call S2;clear S2
    refine wpList_nil (And.intro (Or.inr (S.sel [5,6] G G)) ?_)
    refine bW H G G (fun _ S=>aN fE G G) ?_;clear H a;intro a H
    refine bG rfl ?_
    refine aG H S (i:=7) G G G G bA G G ?_
    clear H a S;intro _ a S H
    refine wpList_nil (And.intro (Or.inl rfl) ?_)
    refine dS ?_
    refine k3 _ _ ?_
    clear k3 K3
    refine wp_ret ?_
    refine retA (fn:=Try.f35) rfl H rfl bE (by exact bA) (cB S (i:=7) rfl) ?_
    exact ⟨_,_,_,_,_,_,_,_,_,_,_,_,rfl,(S.sel [0,1,4,3,2,6] G G)⟩
  ·skip
   refine aK H rfl S cJ dG fY G G G G G G G G G ?_;clear H a S;intro A25 _ a hA25 S H
   replace S:=S.recell (i:=0) rfl (cell':=vcell (exU _ _)) (fun k j hk hj=>iR rfl k j hk hj)
   refine wpList_nil (And.intro (Or.inr (S.sel [2,3] G G)) ?_)
   refine kT G G ?_ ?_
   ·skip
    refine aC H G G Try.func59 G G (bR _) ?_;clear H a
    rintro _ _ a ⟨A5,c5,B5,d5,rfl,S2⟩ H
    replace S:=S.call S2;clear S2
    refine wpList_nil (And.intro (Or.inr (S.sel [4,5] G G)) ?_)
    refine bG rfl ?_
    refine aK H rfl S eN eJ fZ G G G G G G G G G ?_;clear H a S;intro A26 _ a hA26 S H
    replace S:=S.recell (i:=0) rfl (cell':=dE exPr) (fun k j hk hj=>fT rfl k j hk hj)
    refine wpList_nil (And.intro (Or.inr (S.sel [5,6] G G)) ?_)
    refine bW H G G (fun _ S=>aN fE G G) ?_;clear H a;intro a H
    refine bG rfl ?_
    refine aG H S (i:=7) G G G G bA G G ?_
    clear H a S;intro _ a S H
    refine wpList_nil (And.intro (Or.inl rfl) ?_)
    refine dS ?_
    refine k3 _ _ ?_
    clear k3 K3
    refine wp_ret ?_
    refine retA (fn:=Try.f35) rfl H rfl bE (by exact bA) (cB S (i:=7) rfl) ?_
    exact ⟨_,_,_,_,_,_,_,_,_,_,_,_,rfl,(S.sel [1,2,4,0,3,6] G G)⟩
   ·skip
    refine aK H rfl S eN eJ fZ G G G G G G G G G ?_;clear H a S;intro A27 _ a hA27 S H
    replace S:=S.recell (i:=0) rfl (cell':=dE exPr) (fun k j hk hj=>fT rfl k j hk hj)
    refine wpList_nil (And.intro (Or.inr (S.sel [3,4] G G)) ?_)
    refine bG rfl ?_
    refine aC H G G Try.func59 G G (bR _) ?_;clear H a
    rintro _ _ a ⟨A5,c5,B5,d5,rfl,S2⟩ H
    replace S:=S.call S2;clear S2
    refine wpList_nil (And.intro (Or.inr (S.sel [5,6] G G)) ?_)
    refine bW H G G (fun _ S=>aN fE G G) ?_;clear H a;intro a H
    refine bG rfl ?_
    refine aG H S (i:=7) G G G G bA G G ?_
    clear H a S;intro _ a S H
    refine wpList_nil (And.intro (Or.inl rfl) ?_)
    refine dS ?_
    refine k3 _ _ ?_
    clear k3 K3
    refine wp_ret ?_
    refine retA (fn:=Try.f35) rfl H rfl bE (by exact bA) (cB S (i:=7) rfl) ?_
    exact ⟨_,_,_,_,_,_,_,_,_,_,_,_,rfl,(S.sel [0,1,4,2,3,6] G G)⟩
 ·skip
  refine aK H rfl S eN eJ fZ G G G G G G G G G ?_;clear H a S;intro A28 _ a hA28 S H
  replace S:=S.recell (i:=0) rfl (cell':=dE exPr) (fun k j hk hj=>fT rfl k j hk hj)
  refine wpList_nil (And.intro (Or.inr (S.sel [1,2] G G)) ?_)
  refine Ef G G G ?_ ?_ ?_
  ·skip
   refine aC H G G Try.func59 G G (bR _) ?_;clear H a
   rintro _ _ a ⟨A5,c5,B5,d5,rfl,S2⟩ H
   replace S:=S.call S2;clear S2
   refine wpList_nil (And.intro (Or.inr (S.sel [3,4] G G)) ?_)
   refine kT G G ?_ ?_
   ·skip
    refine aK H rfl S aR aX fQ G G G G G G G G G ?_;clear H a S;intro A29 _ a hA29 S H
    replace S:=S.recell (i:=0) rfl (cell':=icl w8exP) (fun k j hk hj=>fI k j hk hj)
    refine wpList_nil (And.intro (Or.inr (S.sel [4,5] G G)) ?_)
    refine bG rfl ?_
    refine aK H rfl S cJ dG fY G G G G G G G G G ?_;clear H a S;intro A30 _ a hA30 S H
    replace S:=S.recell (i:=0) rfl (cell':=vcell (exU _ _)) (fun k j hk hj=>iR rfl k j hk hj)
    refine wpList_nil (And.intro (Or.inr (S.sel [5,6] G G)) ?_)
    refine bW H G G (fun _ S=>aN fE G G) ?_;clear H a;intro a H
    refine bG rfl ?_
    refine aG H S (i:=7) G G G G bA G G ?_
    clear H a S;intro _ a S H
    refine wpList_nil (And.intro (Or.inl rfl) ?_)
    refine dS ?_
    refine k3 _ _ ?_
    clear k3 K3
    refine wp_ret ?_
    refine retA (fn:=Try.f35) rfl H rfl bE (by exact bA) (cB S (i:=7) rfl) ?_
    exact ⟨_,_,_,_,_,_,_,_,_,_,_,_,rfl,(S.sel [2,3,1,4,0,6] G G)⟩
   ·skip
    refine aK H rfl S cJ dG fY G G G G G G G G G ?_;clear H a S;intro A31 _ a hA31 S H
    replace S:=S.recell (i:=0) rfl (cell':=vcell (exU _ _)) (fun k j hk hj=>iR rfl k j hk hj)
    refine wpList_nil (And.intro (Or.inr (S.sel [4,5] G G)) ?_)
    refine bG rfl ?_
    refine aK H rfl S aR aX fQ G G G G G G G G G ?_;clear H a S;intro A32 _ a hA32 S H
    replace S:=S.recell (i:=0) rfl (cell':=icl w8exP) (fun k j hk hj=>fI k j hk hj)
    refine wpList_nil (And.intro (Or.inr (S.sel [5,6] G G)) ?_)
    refine bW H G G (fun _ S=>aN fE G G) ?_;clear H a;intro a H
    refine bG rfl ?_
    refine aG H S (i:=7) G G G G bA G G ?_
    clear H a S;intro _ a S H
    refine wpList_nil (And.intro (Or.inl rfl) ?_)
    refine dS ?_
    refine k3 _ _ ?_
    clear k3 K3
    refine wp_ret ?_
    refine retA (fn:=Try.f35) rfl H rfl bE (by exact bA) (cB S (i:=7) rfl) ?_
    exact ⟨_,_,_,_,_,_,_,_,_,_,_,_,rfl,(S.sel [2,3,0,4,1,6] G G)⟩
  ·skip
   refine aK H rfl S aR aX fQ G G G G G G G G G ?_;clear H a S;intro A33 _ a hA33 S H
   replace S:=S.recell (i:=0) rfl (cell':=icl w8exP) (fun k j hk hj=>fI k j hk hj)
   refine wpList_nil (And.intro (Or.inr (S.sel [2,3] G G)) ?_)
   refine kT G G ?_ ?_
   ·skip
    refine aC H G G Try.func59 G G (bR _) ?_;clear H a
    rintro _ _ a ⟨A5,c5,B5,d5,rfl,S2⟩ H
    replace S:=S.call S2;clear S2
    refine wpList_nil (And.intro (Or.inr (S.sel [4,5] G G)) ?_)
    refine bG rfl ?_
    refine aK H rfl S cJ dG fY G G G G G G G G G ?_;clear H a S;intro A34 _ a hA34 S H
    replace S:=S.recell (i:=0) rfl (cell':=vcell (exU _ _)) (fun k j hk hj=>iR rfl k j hk hj)
    refine wpList_nil (And.intro (Or.inr (S.sel [5,6] G G)) ?_)
    refine bW H G G (fun _ S=>aN fE G G) ?_;clear H a;intro a H
    refine bG rfl ?_
    refine aG H S (i:=7) G G G G bA G G ?_
    clear H a S;intro _ a S H
    refine wpList_nil (And.intro (Or.inl rfl) ?_)
    refine dS ?_
    refine k3 _ _ ?_
    clear k3 K3
    refine wp_ret ?_
    refine retA (fn:=Try.f35) rfl H rfl bE (by exact bA) (cB S (i:=7) rfl) ?_
    exact ⟨_,_,_,_,_,_,_,_,_,_,_,_,rfl,(S.sel [1,2,3,4,0,6] G G)⟩
   ·skip
    refine aK H rfl S cJ dG fY G G G G G G G G G ?_;clear H a S;intro A35 _ a hA35 S H
    replace S:=S.recell (i:=0) rfl (cell':=vcell (exU _ _)) (fun k j hk hj=>iR rfl k j hk hj)
    refine wpList_nil (And.intro (Or.inr (S.sel [3,4] G G)) ?_)
    refine bG rfl ?_
    refine aC H G G Try.func59 G G (bR _) ?_;clear H a
    rintro _ _ a ⟨A5,c5,B5,d5,rfl,S2⟩ H
    replace S:=S.call S2;clear S2
    refine wpList_nil (And.intro (Or.inr (S.sel [5,6] G G)) ?_)
    refine bW H G G (fun _ S=>aN fE G G) ?_;clear H a;intro a H
    refine bG rfl ?_
    refine aG H S (i:=7) G G G G bA G G ?_
    clear H a S;intro _ a S H
    refine wpList_nil (And.intro (Or.inl rfl) ?_)
    refine dS ?_
    refine k3 _ _ ?_
    clear k3 K3
    refine wp_ret ?_
    refine retA (fn:=Try.f35) rfl H rfl bE (by exact bA) (cB S (i:=7) rfl) ?_
    exact ⟨_,_,_,_,_,_,_,_,_,_,_,_,rfl,(S.sel [0,1,3,4,2,6] G G)⟩
  ·skip
   refine aK H rfl S cJ dG fY G G G G G G G G G ?_;clear H a S;intro A36 _ a hA36 S H
   replace S:=S.recell (i:=0) rfl (cell':=vcell (exU _ _)) (fun k j hk hj=>iR rfl k j hk hj)
   refine wpList_nil (And.intro (Or.inr (S.sel [2,3] G G)) ?_)
   refine kT G G ?_ ?_
   ·skip
    refine aC H G G Try.func59 G G (bR _) ?_;clear H a
    rintro _ _ a ⟨A5,c5,B5,d5,rfl,S2⟩ H
    replace S:=S.call S2;clear S2
    refine wpList_nil (And.intro (Or.inr (S.sel [4,5] G G)) ?_)
    refine bG rfl ?_
    refine aK H rfl S aR aX fQ G G G G G G G G G ?_;clear H a S;intro A37 _ a hA37 S H
    replace S:=S.recell (i:=0) rfl (cell':=icl w8exP) (fun k j hk hj=>fI k j hk hj)
    refine wpList_nil (And.intro (Or.inr (S.sel [5,6] G G)) ?_)
    refine bW H G G (fun _ S=>aN fE G G) ?_;clear H a;intro a H
    refine bG rfl ?_
    refine aG H S (i:=7) G G G G bA G G ?_
    clear H a S;intro _ a S H
    refine wpList_nil (And.intro (Or.inl rfl) ?_)
    refine dS ?_
    refine k3 _ _ ?_
    clear k3 K3
    refine wp_ret ?_
    refine retA (fn:=Try.f35) rfl H rfl bE (by exact bA) (cB S (i:=7) rfl) ?_
    exact ⟨_,_,_,_,_,_,_,_,_,_,_,_,rfl,(S.sel [1,2,0,4,3,6] G G)⟩
   ·skip
    refine aK H rfl S aR aX fQ G G G G G G G G G ?_;clear H a S;intro A38 _ a hA38 S H
    replace S:=S.recell (i:=0) rfl (cell':=icl w8exP) (fun k j hk hj=>fI k j hk hj)
    refine wpList_nil (And.intro (Or.inr (S.sel [3,4] G G)) ?_)
    refine bG rfl ?_
    refine aC H G G Try.func59 G G (bR _) ?_;clear H a
    rintro _ _ a ⟨A5,c5,B5,d5,rfl,S2⟩ H
    replace S:=S.call S2;clear S2
    refine wpList_nil (And.intro (Or.inr (S.sel [5,6] G G)) ?_)
    refine bW H G G (fun _ S=>aN fE G G) ?_;clear H a;intro a H
    refine bG rfl ?_
    refine aG H S (i:=7) G G G G bA G G ?_
    clear H a S;intro _ a S H
    refine wpList_nil (And.intro (Or.inl rfl) ?_)
    refine dS ?_
    refine k3 _ _ ?_
    clear k3 K3
    refine wp_ret ?_
    refine retA (fn:=Try.f35) rfl H rfl bE (by exact bA) (cB S (i:=7) rfl) ?_
    exact ⟨_,_,_,_,_,_,_,_,_,_,_,_,rfl,(S.sel [0,1,2,4,3,6] G G)⟩
 ·skip
  refine aK H rfl S cJ dG fY G G G G G G G G G ?_;clear H a S;intro A39 _ a hA39 S H
  replace S:=S.recell (i:=0) rfl (cell':=vcell (exU _ _)) (fun k j hk hj=>iR rfl k j hk hj)
  refine wpList_nil (And.intro (Or.inr (S.sel [1,2] G G)) ?_)
  refine Ef G G G ?_ ?_ ?_
  ·skip
   refine aC H G G Try.func59 G G (bR _) ?_;clear H a
   rintro _ _ a ⟨A5,c5,B5,d5,rfl,S2⟩ H
   replace S:=S.call S2;clear S2
   refine wpList_nil (And.intro (Or.inr (S.sel [3,4] G G)) ?_)
   refine kT G G ?_ ?_
   ·skip
    refine aK H rfl S aR aX fQ G G G G G G G G G ?_;clear H a S;intro A40 _ a hA40 S H
    replace S:=S.recell (i:=0) rfl (cell':=icl w8exP) (fun k j hk hj=>fI k j hk hj)
    refine wpList_nil (And.intro (Or.inr (S.sel [4,5] G G)) ?_)
    refine bG rfl ?_
    refine aK H rfl S eN eJ fZ G G G G G G G G G ?_;clear H a S;intro A41 _ a hA41 S H
    replace S:=S.recell (i:=0) rfl (cell':=dE exPr) (fun k j hk hj=>fT rfl k j hk hj)
    refine wpList_nil (And.intro (Or.inr (S.sel [5,6] G G)) ?_)
    refine bW H G G (fun _ S=>aN fE G G) ?_;clear H a;intro a H
    refine bG rfl ?_
    refine aG H S (i:=7) G G G G bA G G ?_
    clear H a S;intro _ a S H
    refine wpList_nil (And.intro (Or.inl rfl) ?_)
    refine dS ?_
    refine k3 _ _ ?_
    clear k3 K3
    refine wp_ret ?_
    refine retA (fn:=Try.f35) rfl H rfl bE (by exact bA) (cB S (i:=7) rfl) ?_
    exact ⟨_,_,_,_,_,_,_,_,_,_,_,_,rfl,(S.sel [2,3,1,0,4,6] G G)⟩
   ·skip
    refine aK H rfl S eN eJ fZ G G G G G G G G G ?_;clear H a S;intro A42 _ a hA42 S H
    replace S:=S.recell (i:=0) rfl (cell':=dE exPr) (fun k j hk hj=>fT rfl k j hk hj)
    refine wpList_nil (And.intro (Or.inr (S.sel [4,5] G G)) ?_)
    refine bG rfl ?_
    refine aK H rfl S aR aX fQ G G G G G G G G G ?_;clear H a S;intro A43 _ a hA43 S H
    replace S:=S.recell (i:=0) rfl (cell':=icl w8exP) (fun k j hk hj=>fI k j hk hj)
    refine wpList_nil (And.intro (Or.inr (S.sel [5,6] G G)) ?_)
    refine bW H G G (fun _ S=>aN fE G G) ?_;clear H a;intro a H
    refine bG rfl ?_
    refine aG H S (i:=7) G G G G bA G G ?_
    clear H a S;intro _ a S H
    refine wpList_nil (And.intro (Or.inl rfl) ?_)
    refine dS ?_
    refine k3 _ _ ?_
    clear k3 K3
    refine wp_ret ?_
    refine retA (fn:=Try.f35) rfl H rfl bE (by exact bA) (cB S (i:=7) rfl) ?_
    exact ⟨_,_,_,_,_,_,_,_,_,_,_,_,rfl,(S.sel [2,3,0,1,4,6] G G)⟩
  ·skip
   refine aK H rfl S aR aX fQ G G G G G G G G G ?_;clear H a S;intro A44 _ a hA44 S H
   replace S:=S.recell (i:=0) rfl (cell':=icl w8exP) (fun k j hk hj=>fI k j hk hj)
   refine wpList_nil (And.intro (Or.inr (S.sel [2,3] G G)) ?_)
   refine kT G G ?_ ?_
   ·skip
    refine aC H G G Try.func59 G G (bR _) ?_;clear H a
    rintro _ _ a ⟨A5,c5,B5,d5,rfl,S2⟩ H
    replace S:=S.call S2;clear S2
    refine wpList_nil (And.intro (Or.inr (S.sel [4,5] G G)) ?_)
    refine bG rfl ?_
    refine aK H rfl S eN eJ fZ G G G G G G G G G ?_;clear H a S;intro A45 _ a hA45 S H
    replace S:=S.recell (i:=0) rfl (cell':=dE exPr) (fun k j hk hj=>fT rfl k j hk hj)
    refine wpList_nil (And.intro (Or.inr (S.sel [5,6] G G)) ?_)
    refine bW H G G (fun _ S=>aN fE G G) ?_;clear H a;intro a H
    refine bG rfl ?_
    refine aG H S (i:=7) G G G G bA G G ?_
    clear H a S;intro _ a S H
    refine wpList_nil (And.intro (Or.inl rfl) ?_)
    refine dS ?_
    refine k3 _ _ ?_
    clear k3 K3
    refine wp_ret ?_
    refine retA (fn:=Try.f35) rfl H rfl bE (by exact bA) (cB S (i:=7) rfl) ?_
    exact ⟨_,_,_,_,_,_,_,_,_,_,_,_,rfl,(S.sel [1,2,3,0,4,6] G G)⟩
   ·skip
    refine aK H rfl S eN eJ fZ G G G G G G G G G ?_;clear H a S;intro A46 _ a hA46 S H
    replace S:=S.recell (i:=0) rfl (cell':=dE exPr) (fun k j hk hj=>fT rfl k j hk hj)
    refine wpList_nil (And.intro (Or.inr (S.sel [3,4] G G)) ?_)
    refine bG rfl ?_
    refine aC H G G Try.func59 G G (bR _) ?_;clear H a
    rintro _ _ a ⟨A5,c5,B5,d5,rfl,S2⟩ H
    replace S:=S.call S2;clear S2
    refine wpList_nil (And.intro (Or.inr (S.sel [5,6] G G)) ?_)
    refine bW H G G (fun _ S=>aN fE G G) ?_;clear H a;intro a H
    refine bG rfl ?_
    refine aG H S (i:=7) G G G G bA G G ?_
    clear H a S;intro _ a S H
    refine wpList_nil (And.intro (Or.inl rfl) ?_)
    refine dS ?_
    refine k3 _ _ ?_
    clear k3 K3
    refine wp_ret ?_
    refine retA (fn:=Try.f35) rfl H rfl bE (by exact bA) (cB S (i:=7) rfl) ?_
    exact ⟨_,_,_,_,_,_,_,_,_,_,_,_,rfl,(S.sel [0,1,3,2,4,6] G G)⟩
  ·skip
   refine aK H rfl S eN eJ fZ G G G G G G G G G ?_;clear H a S;intro A47 _ a hA47 S H
   replace S:=S.recell (i:=0) rfl (cell':=dE exPr) (fun k j hk hj=>fT rfl k j hk hj)
   refine wpList_nil (And.intro (Or.inr (S.sel [2,3] G G)) ?_)
   refine kT G G ?_ ?_
   ·skip
    refine aC H G G Try.func59 G G (bR _) ?_;clear H a
    rintro _ _ a ⟨A5,c5,B5,d5,rfl,S2⟩ H
    replace S:=S.call S2;clear S2
    refine wpList_nil (And.intro (Or.inr (S.sel [4,5] G G)) ?_)
    refine bG rfl ?_
    refine aK H rfl S aR aX fQ G G G G G G G G G ?_;clear H a S;intro A48 _ a hA48 S H
    replace S:=S.recell (i:=0) rfl (cell':=icl w8exP) (fun k j hk hj=>fI k j hk hj)
    refine wpList_nil (And.intro (Or.inr (S.sel [5,6] G G)) ?_)
    refine bW H G G (fun _ S=>aN fE G G) ?_;clear H a;intro a H
    refine bG rfl ?_
    refine aG H S (i:=7) G G G G bA G G ?_
    clear H a S;intro _ a S H
    refine wpList_nil (And.intro (Or.inl rfl) ?_)
    refine dS ?_
    refine k3 _ _ ?_
    clear k3 K3
    refine wp_ret ?_
    refine retA (fn:=Try.f35) rfl H rfl bE (by exact bA) (cB S (i:=7) rfl) ?_
    exact ⟨_,_,_,_,_,_,_,_,_,_,_,_,rfl,(S.sel [1,2,0,3,4,6] G G)⟩
   ·skip
    refine aK H rfl S aR aX fQ G G G G G G G G G ?_;clear H a S;intro A49 _ a hA49 S H
    replace S:=S.recell (i:=0) rfl (cell':=icl w8exP) (fun k j hk hj=>fI k j hk hj)
    refine wpList_nil (And.intro (Or.inr (S.sel [3,4] G G)) ?_)
    refine bG rfl ?_
    refine aC H G G Try.func59 G G (bR _) ?_;clear H a
    rintro _ _ a ⟨A5,c5,B5,d5,rfl,S2⟩ H
    replace S:=S.call S2;clear S2
    refine wpList_nil (And.intro (Or.inr (S.sel [5,6] G G)) ?_)
    refine bW H G G (fun _ S=>aN fE G G) ?_;clear H a;intro a H
    refine bG rfl ?_
    refine aG H S (i:=7) G G G G bA G G ?_
    clear H a S;intro _ a S H
    refine wpList_nil (And.intro (Or.inl rfl) ?_)
    refine dS ?_
    refine k3 _ _ ?_
    clear k3 K3
    refine wp_ret ?_
    refine retA (fn:=Try.f35) rfl H rfl bE (by exact bA) (cB S (i:=7) rfl) ?_
    exact ⟨_,_,_,_,_,_,_,_,_,_,_,_,rfl,(S.sel [0,1,2,3,4,6] G G)⟩
theorem Cl (x y:List Int) (AA BA:Option Addr) (ac bc:Nat) (w:World) (ha:InS w noF 1 AA x.length (icl x)) (hb:InS w noF 1 BA y.length (icl y)) (han:x.length≤9223372036854775807) (hbn:y.length≤9223372036854775807) :
    Calls Try.prog 25 [.slice AA x.length ac,.slice BA y.length bc].toArray w (Ret (fun u w'=>u = .bool (sameI x y)∧St w noF [] w')):=by
 refine enter Try.func25 rfl Try.ntmps25 rfl (fun a H=>?_)
 have S:=St.start w
 refine sS H fun K1 k1=>sr 1 rfl<|sE ?_;clear H a;intro a H
 refine k1 _ ?_;clear k1 K1
 refine wp_seq_k fun K2 k2=>?_
 refine sS H fun K3 k3=>sr 1 rfl<|sL aR rfl<|sr 1 rfl<|sL aR rfl<|sr 1 rfl<|sE ?_;clear H a;intro a H
 refine k3 _ ?_;clear k3 K3
 refine condN H rfl (fun hc1=>?_) (fun hc1=>?_)
 ·skip
  refine sS H fun K4 k4=>sr 1 rfl<|sE ?_;clear H a;intro a H
  refine k4 _ ?_;clear k4 K4
  refine wp_ret ?_
  refine ret1 (fn:=Try.f25) rfl H rfl ?_
  exact ⟨by rw [Mo (by omega)],(S.sel [] G G)⟩
 refine wp_skip ?_
 refine k2 _ _ ?_
 refine wp_seq_k fun K5 k5=>?_
 refine sS H fun K6 k6=>sr 1 rfl<|sE ?_;clear H a;intro a H
 refine k6 _ ?_;clear k6 K6
 refine wp_block ?_
 refine loop_st (X:=Nat) (R0:=_) [0,1] H rfl (fun k=>[(5,.int .i64 (k:Int))]) (fun k=>[]) (fun g k=>k≤x.length∧g+k=x.length∧∀ q,q<k→x.getD q 0=y.getD q 0) (x.length) 0 ?_ (S.sel [] G G) (H.keep [5,0,1] rfl) ?_
 · exact ⟨by omega,by omega,fun q hq=>absurd hq (Nat.not_lt_zero q)⟩
 clear H S a
 intro g1 x1 a w1 hp S H K7 k7
 obtain ⟨k,rfl⟩:∃ y,y=x1:=⟨_,rfl⟩
 refine wp_seq_k fun K8 k8=>?_
 refine sS H fun K9 k9=>sr 2 rfl<|sL aR rfl<|sr 1 rfl<|sE ?_;clear H a;intro a H
 refine k9 _ ?_;clear k9 K9
 refine condL H rfl (fun hc2=>?_) (fun hc2=>?_)
 ·skip
  refine wp_skip ?_
  refine k8 _ _ ?_
  refine wp_seq_k fun K10 k10=>?_
  refine wp_block ?_
  replace H:=H.keep [0,1,5] rfl
  replace S:=S.drew
  refine sD H fun K11 k11=>sr 2 rfl<|si aR aX G G (ha.adr (by omega)) (by omega)<|slm aA rfl (ha.rd S (by omega) (by omega))<|sr 2 rfl<|si aR aX G G (hb.adr (by omega)) (by omega)<|slm aA rfl (hb.rd S (by omega) (by omega))<|sr 1 rfl<|sE ?_;clear H a;intro a H
  refine k11 _ ?_;clear k11 K11
  refine condN H rfl (fun hc3=>?_) (fun hc3=>?_)
  ·skip
   replace H:=H.keep [] rfl
   refine sS H fun K12 k12=>sr 1 rfl<|sE ?_;clear H a;intro a H
   refine k12 _ ?_;clear k12 K12
   refine wp_ret ?_
   refine ret1 (fn:=Try.f25) rfl H rfl ?_
   exact ⟨by rw [Rl (k:=k) (by omega)],(S.sel [] G G)⟩
  refine wp_skip ?_
  refine k10 _ _ ?_
  refine sO H<|sr 1 rfl<|sd (aI G G (by unfold i64ok;omega))<|sr 1 rfl<|sE ?_;clear H a;intro a H
  exact k7 (g1-1) (k+1) a _ (by omega) (⟨by omega,by omega,Rm hp.2.2 (by omega)⟩) (S.sel [] G G) (H.keep [5,0,1] rfl)
 refine wp_exit ?_
 refine k5 _ _ ?_
 refine sS H fun K14 k14=>sr 1 rfl<|sE ?_;clear H a;intro a H
 refine k14 _ ?_;clear k14 K14
 refine wp_ret ?_
 refine ret1 (fn:=Try.f25) rfl H rfl ?_
 exact ⟨by rw [Mp (by omega) (fun q hq=>hp.2.2 q (by omega))],(S.sel [] G G)⟩
theorem qM (w:World) :
    Calls Try.prog 11 [].toArray w (Ret (fun u w'=>u = .bool true∧St w noF [] w')):=by
 refine enter Try.func11 rfl Try.ntmps11 rfl (fun a H=>?_)
 have S:=St.start w
 refine sS H fun K1 k1=>sr 1 rfl<|sE ?_;clear H a;intro a H
 refine k1 _ ?_;clear k1 K1
 refine aB fun K2 k2=>?_
 refine aC H G G Try.func35 G G (uK _) ?_;clear H a
 rintro _ _ a ⟨PA,pc,XA,xc,BA,bc,QA,qc,VA,vc,RA,rc,rfl,S2⟩ H
 replace S:=S.call S2;clear S2
 refine aM H rfl S Iy ?_;clear H a S;intro b1 _ a hb1 hbw1 S H
 refine aG H S (i:=0) G G G G bA G G ?_
 clear H a S;intro _ a S H
 refine k2 _ _ ?_;clear k2 K2
 replace H:=H.keep [1] rfl
 refine aB fun K3 k3=>?_
 refine ls 2 H<|sd ((aD bE bA rfl S (i:=0) G G))<|sd (aN Wh G G)<|sE ?_;clear H a;intro a H
 refine aK H rfl S dT dF yB G G G G G G G G G ?_;clear H a S;intro A1 _ a hA1 S H
 have hcl9:=Hh (PA:=PA) (pc:=pc) (XA:=XA) (xc:=xc) (BA:=BA) (bc:=bc) (QA:=QA) (qc:=qc) (VA:=VA) (vc:=vc) (RA:=RA) (rc:=rc) (tc:=1) (Mq (ownM.inS S (i:=2) rfl) (ownM.inS S (i:=3) rfl) (ownM.inS S (i:=4) rfl) (ownM.inS S (i:=5) rfl) (ownM.inS S (i:=6) rfl) (ownM.inS S (i:=7) rfl)) ((ownM.inS S (i:=0) rfl).congr (fun k j hk hj=>Xe k j hk hj))
 refine aC H G G Try.func13 G G hcl9 ?_;clear H a hcl9
 rintro _ _ a ⟨A6,c6,rfl,S2⟩ H
 replace S:=S.call S2;clear S2
 refine ls 5 H<|sr 5 rfl<|sE ?_;clear H a;intro a H
 refine k3 _ _ ?_;clear k3 K3
 replace H:=H.keep [1,2,3] rfl
 refine aB fun K4 k4=>?_
 refine ls 1 H<|sd ((aD bE bA rfl S (i:=2) G G))<|sE ?_;clear H a;intro a H
 have hcl9:=zT (PA:=PA) (pc:=pc) (XA:=XA) (xc:=xc) (BA:=BA) (bc:=bc) (QA:=QA) (qc:=qc) (VA:=VA) (vc:=vc) (RA:=RA) (rc:=rc) (Mq (ownM.inS S (i:=3) rfl) (ownM.inS S (i:=4) rfl) (ownM.inS S (i:=5) rfl) (ownM.inS S (i:=6) rfl) (ownM.inS S (i:=7) rfl) (ownM.inS S (i:=8) rfl))
 refine aC H G G Try.func12 G G hcl9 ?_;clear H a hcl9
 rintro _ _ a ⟨rfl,S2⟩ H
 replace S:=S.call S2;clear S2
 refine ls 7 H<|sr 7 rfl<|sE ?_;clear H a;intro a H
 refine k4 _ _ ?_;clear k4 K4
 replace H:=H.keep [2,3,4,5,6] rfl
 refine aB fun K5 k5=>?_
 refine ls 8 H<|sr 3 rfl<|sy rfl<|sr 1 rfl<|sy rfl<|sr 1 rfl<|sa G G G<|sr 1 rfl<|sy rfl<|sr 1 rfl<|sE ?_;clear H a;intro a H
 refine bT H G G ?_
 refine aK H rfl S aR aX fQ G G G G G G G G G ?_;clear H a S;intro A2 _ a hA2 S H
 refine bT H G G ?_
 refine aC H G G Try.func25 G G (Cl [0,3,1,1] [0,3,1,1] A6 _ c6 _ _ (ownM.inS S (i:=1) rfl) ((ownM.inS S (i:=0) rfl).congr (fun k j hk hj=>fI k j hk hj)) (by decide) (by decide)) ?_;clear H a
 rintro _ _ a ⟨rfl,S2⟩ H
 replace S:=S.call S2;clear S2
 refine ls 10 H<|sa G G G<|sr 1 rfl<|sy rfl<|sr 1 rfl<|sy rfl<|sr 1 rfl<|sa G G G<|sr 1 rfl<|sy rfl<|sr 1 rfl<|sy rfl<|sr 1 rfl<|sa G G G<|sr 1 rfl<|sE ?_;clear H a;intro a H
 refine k5 _ _ ?_;clear k5 K5
 refine wp_ret ?_
 refine ret1 (fn:=Try.f11) rfl H rfl ?_
 exact ⟨rfl,(S.sel [] G G)⟩
end
section
open Classical in
noncomputable def yrB (y:Yr):Bool:=if yrI y then true else false
theorem Mt {y:Yr} (h:yrI y):yrB y=true:=by unfold yrB;rw [if_pos h]
theorem Mu {y:Yr} (h:¬ yrI y):yrB y=false:=by unfold yrB;rw [if_neg h]
theorem Ro {y:Yr}:yrB y=true↔yrI y:=⟨fun h=>Classical.byContradiction (fun h2=>by rw [Mu h2] at h;cases h),Mt⟩
theorem Rp {pl:Int} {ps:List Psg} {xs pe:List Int} {T:Int} (h:stE pl ps xs=0):dL pl ps xs 0 pe T=0↔((pe.length:Int)=pl∧∀ k,k<pe.length→0≤pe.getD k 0∧pe.getD k 0≤1000)∧(0≤T∧T≤60):=by
  constructor
  · intro h1
    obtain ⟨_,_,h2,h3⟩:=pO h1
    have h4:=sH h2
    exact ⟨⟨h4.2,h4.1⟩,h3⟩
  · rintro ⟨⟨h1,h2⟩,h3⟩
    unfold dL
    rw [if_neg (by omega),if_pos]
    have h4:eK pl pe=true:=by unfold eK;rw [decide_eq_true h1,Bool.and_true,bB];exact fun k hk=>decide_eq_true (h2 k hk)
    rw [h4,decide_eq_true h3]
    rfl
theorem Mw {ps:List Psg} {us:List Unt} {n i:Nat} {m:Int}:freeN ps us n (i+1) m=(freeN ps us n i m&&!decide ((us.getD i Unt.zero).mach=m)):=by
  unfold freeN
  simp only [allN,Bool.and_assoc]
theorem Hi {p:Part} {l:List Use} (h:cA p l=0):wearE p l=0↔(refO p l).2.1=false:=by
  unfold refO
  rw [if_neg (by omega)]
  constructor
  · intro h1
    rw [if_neg (by rw [wX (jI h1).2];omega)]
  · intro h1
    split at h1
    · cases h1
    · exact lQ h (Pj.2 (by have:=(wW p l).le;omega))
theorem Hj {l:List Use} {o:Int} (h0:0≤o) (h:¬ (0<l.length∧o<(l.getD ((l.length:Int)-1).toNat Use.zero).day)):prevD l l.length≤o:=by
  rcases Nat.eq_zero_or_pos l.length with e|e
  · rw [e];exact h0
  · have h1:=nG (l:=l) (k:=((l.length:Int)-1).toNat) (by omega)
    omega
theorem Hk {l:List Use} {o:Int} (e:0<l.length) (h:o<(l.getD ((l.length:Int)-1).toNat Use.zero).day):o<prevD l l.length:=by
  have h1:=nG (l:=l) (k:=((l.length:Int)-1).toNat) (by omega)
  omega
theorem cO (n lo hi:Int) (w:World) :
    Calls Try.prog 33 [.int .i64 n,.int .i64 lo,.int .i64 hi].toArray w (Ret (fun v w'=>v = .bool (decide (lo≤n)&&decide (n≤hi))∧w'=w)):=by
 refine enter Try.func33 rfl Try.ntmps33 rfl (fun a H=>?_)
 have S:=St.start w
 refine sS H fun K1 k1=>sr 1 rfl<|sE ?_;clear H a;intro a H
 refine k1 _ ?_;clear k1 K1
 replace H:=H.keep [0,1,2] rfl
 refine sS H fun K2 k2=>sr 4 rfl<|sg 3 3 10 13 true G G (fun hg4=>sy hg4<|sr 1 rfl<|sy hg4<|sr 1 rfl<|sy hg4<|sr 1 rfl<|sz 3 G G G)<|sa G G G<|sr 1 rfl<|sE ?_;clear H a;intro a H
 refine k2 _ ?_;clear k2 K2
 refine wp_ret ?_
 refine ret1 (fn:=Try.f33) rfl H rfl ?_
 exact ⟨rfl,rfl⟩
theorem Hl (a b:Tsk) (w:World) :
    Calls Try.prog 34 [.agg [.int .i64 a.day,.int .i64 a.unit,.int .i64 a.kind].toArray,.agg [.int .i64 b.day,.int .i64 b.unit,.int .i64 b.kind].toArray].toArray w (Ret (fun v w'=>v = .bool (befB a b)∧St w noF [] w')):=by
 refine enter Try.func34 rfl Try.ntmps34 rfl (fun a H=>?_)
 have S:=St.start w
 refine aB fun K1 k1=>?_
 refine aP H rfl S G G ?_;clear H a S;intro b2 _ a hb2 hbw2 S H
 refine aP H rfl S G G ?_;clear H a S;intro b3 _ a hb3 hbw3 S H
 refine ls 1 H<|sr 1 rfl<|sE ?_;clear H a;intro a H
 refine k1 _ _ ?_;clear k1 K1
 refine wp_seq_k fun K2 k2=>?_
 refine sS H fun K3 k3=>sf cT rfl<|sl S 1 aA G G G<|sf cT rfl<|sl S 0 aA G G G<|sr 1 rfl<|sE ?_;clear H a;intro a H
 refine k3 _ ?_;clear k3 K3
 refine condN H rfl (fun hc1=>?_) (fun hc1=>?_)
 ·skip
  replace H:=H.keep [2,3] rfl
  refine sS H fun K4 k4=>sf cT rfl<|sl S 1 aA G G G<|sf cT rfl<|sl S 0 aA G G G<|sr 2 rfl<|sE ?_;clear H a;intro a H
  refine k4 _ ?_;clear k4 K4
  refine wp_ret ?_
  refine ret1 (fn:=Try.f34) rfl H rfl ?_
  refine ⟨?_,(S.sel [] G G)⟩;unfold befB;rw [if_pos hc1]
 refine wp_skip ?_
 refine k2 _ _ ?_
 refine wp_seq_k fun K5 k5=>?_
 replace H:=H.keep [2,3] rfl
 refine sS H fun K6 k6=>sf dH rfl<|sl S 1 aA G G G<|sf dH rfl<|sl S 0 aA G G G<|sr 1 rfl<|sE ?_;clear H a;intro a H
 refine k6 _ ?_;clear k6 K6
 refine condN H rfl (fun hc2=>?_) (fun hc2=>?_)
 ·skip
  replace H:=H.keep [2,3] rfl
  refine sS H fun K7 k7=>sf dH rfl<|sl S 1 aA G G G<|sf dH rfl<|sl S 0 aA G G G<|sr 2 rfl<|sE ?_;clear H a;intro a H
  refine k7 _ ?_;clear k7 K7
  refine wp_ret ?_
  refine ret1 (fn:=Try.f34) rfl H rfl ?_
  refine ⟨?_,(S.sel [] G G)⟩;unfold befB;rw [if_neg (fun h=>h (by omega)),if_pos hc2]
 refine wp_skip ?_
 refine k5 _ _ ?_
 replace H:=H.keep [2,3] rfl
 refine sS H fun K8 k8=>sf fO rfl<|sl S 1 aA G G G<|sf fO rfl<|sl S 0 aA G G G<|sr 2 rfl<|sE ?_;clear H a;intro a H
 refine k8 _ ?_;clear k8 K8
 refine wp_ret ?_
 refine ret1 (fn:=Try.f34) rfl H rfl ?_
 refine ⟨?_,(S.sel [] G G)⟩;unfold befB;rw [if_neg (fun h=>h (by omega)),if_neg (fun h=>h (by omega))]
theorem Hm (y:Yr) (w:World) (hy:YIn w noF y) (hyb:YBd y) (hst:stE y.pl y.ps y.xs=0) :
    Calls Try.prog 49 [.agg [.int .i64 y.days,.int .i64 y.pl,.slice y.PA y.ps.length y.pc,.slice y.XA y.xs.length y.xc,.slice y.BA y.pe.length y.bc,.int .i64 y.limit,.bool y.help,.slice y.QA y.prs.length y.qc,.slice y.VA y.us.length y.vc,.int .i64 y.crew,.slice y.SA y.sps.length y.sc].toArray].toArray w (Ret (fun v w'=>v = .bool (yrB y)∧St w noF [] w')):=by
 have hlv:=Rp (pe:=y.pe) (T:=y.limit) hst;have hn4:=hyb.spn
 refine enter Try.func49 rfl Try.ntmps49 rfl (fun a H=>?_)
 have S:=St.start w
 refine aB fun K1 k1=>?_
 refine aP H rfl S G G ?_;clear H a S;intro b1 _ a hb1 hbw1 S H
 refine ls 1 H<|sr 1 rfl<|sE ?_;clear H a;intro a H
 refine k1 _ _ ?_;clear k1 K1
 refine wp_seq_k fun K2 k2=>?_
 replace H:=H.keep [1] rfl
 refine aB fun K3 k3=>?_
 refine ls 2 H<|sf cN rfl<|sl S 0 aA G G G<|sE ?_;clear H a;intro a H
 refine aC H G G Try.func33 G G (cO _ _ _ _) ?_;clear H a
 rintro _ _ a ⟨rfl,rfl⟩ H
 refine ls 2 H<|sr 2 rfl<|sE ?_;clear H a;intro a H
 apply dI (i:=4) (g:=9) (t:=17) (b:=false) 8 H S G G (by kernel_rfl) (by kernel_rfl) G G
 case h1=>
  intro hg5
  refine ls 6 H<|sy hg5<|sf eQ rfl<|sy hg5<|sd ((aD cG dN rfl S (i:=0) G G))<|sy hg5<|sf jO rfl<|sy hg5<|sl S 0 dQ G G G<|sy hg5<|sf lZ rfl<|sy hg5<|sl S 0 aA G G G<|sE ?_;intro a H
  refine eL H G G (by assumption) ?_
  refine aC H G G Try.func58 G G (lW y.pl y.ps y.PA y.pc y.xs y.XA y.xc 0 y.pe y.BA y.bc y.limit _ (hy.ps.now S) hyb.psn (hy.xs.now S) hyb.xsn (hy.pe.now S) hyb.pen) ?_
  rintro _ _ a ⟨rfl,S2⟩ H
  replace S:=S.call S2;clear S2
  refine ls 1 H<|sy hg5<|sr 1 rfl<|sE ?_;intro a H
  exact wpList_nil ⟨H.strip 8 G G,(S.sel [0] G G)⟩
 clear H a S;intro a _ H S
 refine ls 13 H<|so G G G<|sr 1 rfl<|sg 4 14 19 23 false G G (fun hg15=>sy hg15<|sf wK rfl<|sy hg15<|sl S 0 aA G G G<|sy hg15<|sc rfl Try.func33 G G (cO _ _ _ _)<|sy hg15<|sr 1 rfl<|sz 4 G G G)<|so G G G<|sr 1 rfl<|sg 4 20 25 29 false G G (fun hg21=>sy hg21<|sf kK rfl<|sy hg21<|sl S 0 mV G G G<|sy hg21<|sL nV rfl<|sy hg21<|sr 1 rfl<|sz 4 G G G)<|so G G G<|sE ?_;clear H a;intro a H
 refine k3 _ _ ?_;clear k3 K3
 refine aT H rfl (fun hc1=>?_) (fun hc1=>?_)
 ·skip
  try simp only [o1,o2,o3,o4,o5,o6,o7,o8,o9,oa] at hc1
  replace H:=H.keep [] rfl
  refine sS H fun K4 k4=>sr 1 rfl<|sE ?_;clear H a;intro a H
  refine k4 _ ?_;clear k4 K4
  refine wp_ret ?_
  refine ret1 (fn:=Try.f49) rfl H rfl ?_
  rw [Mu (fun h=>by unfold yrI at h;have h9:=hlv.2 ⟨h.2.1,h.2.2.1⟩;omega)];exact ⟨rfl,(S.sel [] G G)⟩
 try simp only [o1,o2,o3,o4,o5,o6,o7,o8,o9,oa] at hc1
 refine wp_skip ?_
 refine k2 _ _ ?_
 refine wp_seq_k fun K5 k5=>?_
 refine sS H fun K6 k6=>sr 1 rfl<|sE ?_;clear H a;intro a H
 refine k6 _ ?_;clear k6 K6
 refine wp_block ?_
 refine loop_st (X:=Nat) (R0:=_) [1] H rfl (fun k=>[(3,.int .i64 (k:Int))]) (fun k=>[]) (fun g k=>k≤y.sps.length∧g+k=y.sps.length∧∀ q,q<k→sprB y.days (y.sps.getD q Spr.zero)=true) (y.sps.length) 0 ?_ (S.sel [0] G G) (H.keep [3,1] rfl) ?_
 · exact ⟨by omega,by omega,fun q hq=>absurd hq (Nat.not_lt_zero q)⟩
 clear H S a
 intro g1 x1 a w1 hp S H K7 k7
 obtain ⟨k,rfl⟩:∃ y,y=x1:=⟨_,rfl⟩
 refine wp_seq_k fun K8 k8=>?_
 refine sS H fun K9 k9=>sr 1 rfl<|sf kK rfl<|sl S 0 mV G G G<|sL nV rfl<|sr 1 rfl<|sE ?_;clear H a;intro a H
 refine k9 _ ?_;clear k9 K9
 refine condL H rfl (fun hc2=>?_) (fun hc2=>?_)
 ·skip
  refine wp_skip ?_
  refine k8 _ _ ?_
  refine wp_seq_k fun K10 k10=>?_
  refine wp_block ?_
  replace H:=H.keep [1,3] rfl
  refine aB fun K11 k11=>?_
  refine ls 5 H<|sf kK rfl<|sl S 0 mV G G G<|sr 1 rfl<|si nV kJ G G (hy.sps.adr (by omega)) (by omega)<|sd ((aS wI kJ rfl S hy.sps (by omega) (by omega)))<|sE ?_;clear H a;intro a H
  refine aM H rfl S Ar ?_;clear H a S;intro b4 _ a hb4 hbw4 S H
  refine aG H S (i:=0) G G G G kJ G G ?_
  clear H a S;intro _ a S H
  refine k11 _ _ ?_;clear k11 K11
  replace H:=H.keep [1,3,4] rfl
  refine sS H fun K12 k12=>sf rX rfl<|sl S 0 aA G G G<|sf cN rfl<|sl S 1 aA G G G<|sd (aO G G (by unfold i64ok;omega))<|sc rfl Try.func33 G G (cO _ _ _ _)<|sr 2 rfl<|sg 4 7 50 54 false G G (fun hg8=>sy hg8<|sf rY rfl<|sy hg8<|sl S 0 aA G G G<|sy hg8<|sc rfl Try.func33 G G (cO _ _ _ _)<|sy hg8<|sr 1 rfl<|sz 4 G G G)<|so G G G<|sr 1 rfl<|sg 4 13 56 60 false G G (fun hg14=>sy hg14<|sf rZ rfl<|sy hg14<|sl S 0 aA G G G<|sy hg14<|sc rfl Try.func33 G G (cO _ _ _ _)<|sy hg14<|sr 1 rfl<|sz 4 G G G)<|so G G G<|sE ?_;clear H a;intro a H
  refine k12 _ ?_;clear k12 K12
  refine aT H rfl (fun hc3=>?_) (fun hc3=>?_)
  ·skip
   try simp only [o1,o2,o3,o4,o5,o6,o7,o8,o9,oa] at hc3
   replace H:=H.keep [] rfl
   refine sS H fun K13 k13=>sr 1 rfl<|sE ?_;clear H a;intro a H
   refine k13 _ ?_;clear k13 K13
   refine wp_ret ?_
   refine ret1 (fn:=Try.f49) rfl H rfl ?_
   rw [Mu (fun h=>by have h9:=lT.1 (h.2.2.2.2.2 k (by omega));omega)];exact ⟨rfl,(S.sel [] G G)⟩
  try simp only [o1,o2,o3,o4,o5,o6,o7,o8,o9,oa] at hc3
  refine wp_skip ?_
  refine k10 _ _ ?_
  refine sO H<|sr 1 rfl<|sd (aI G G (by unfold i64ok;omega))<|sr 1 rfl<|sE ?_;clear H a;intro a H
  exact k7 (g1-1) (k+1) a _ (by omega) (⟨by omega,by omega,eY (f:=fun q=>sprB y.days (y.sps.getD q Spr.zero)) hp.2.2 (lT.2 (by omega))⟩) (S.sel [1] G G) (H.keep [3,1] rfl)
 refine wp_exit ?_
 refine k5 _ _ ?_
 refine sS H fun K15 k15=>sr 1 rfl<|sE ?_;clear H a;intro a H
 refine k15 _ ?_;clear k15 K15
 refine wp_ret ?_
 refine ret1 (fn:=Try.f49) rfl H rfl ?_
 have h9:=hlv.1 (by omega)
 have h8:=hp.2.2
 rw [Mt (by unfold yrI;exact ⟨by omega,h9.1,h9.2,by omega,by omega,fun q hq=>h8 q (by omega)⟩)];exact ⟨rfl,(S.sel [] G G)⟩
theorem Hn (y:Yr) (i:Nat) (w:World) (hy:YIn w noF y) (hyb:YBd y) (hi:i<y.us.length) :
    Calls Try.prog 50 [.agg [.int .i64 y.days,.int .i64 y.pl,.slice y.PA y.ps.length y.pc,.slice y.XA y.xs.length y.xc,.slice y.BA y.pe.length y.bc,.int .i64 y.limit,.bool y.help,.slice y.QA y.prs.length y.qc,.slice y.VA y.us.length y.vc,.int .i64 y.crew,.slice y.SA y.sps.length y.sc].toArray,.int .i64 (i:Int)].toArray w (Ret (fun v w'=>v = .bool (untB y.ps y.us i)∧St w noF [] w')):=by
 have hn1:=hyb.psn;have hn3:=hyb.usn;have hn5:(y.us.getD i Unt.zero).uses.length≤9223372036854775807:=hyb.uln hi;have hn6:(y.us.getD i Unt.zero).rates.length≤9223372036854775807:=hyb.rtn hi
 refine enter Try.func50 rfl Try.ntmps50 rfl (fun a H=>?_)
 have S:=St.start w
 refine aB fun K1 k1=>?_
 refine aP H rfl S G G ?_;clear H a S;intro b2 _ a hb2 hbw2 S H
 refine ls 1 H<|sr 1 rfl<|sE ?_;clear H a;intro a H
 refine k1 _ _ ?_;clear k1 K1
 refine aB fun K2 k2=>?_
 refine ls 5 H<|sf cS rfl<|sl S 0 dY G G G<|sr 1 rfl<|si cJ dG G G (hy.us.adr (by omega)) (by omega)<|sd ((aS mX dG rfl S hy.us (by omega) (by omega)))<|sE ?_;clear H a;intro a H
 refine aM H rfl S fY ?_;clear H a S;intro b5 _ a hb5 hbw5 S H
 refine aG H S (i:=0) G G G G dG G G ?_
 clear H a S;intro _ a S H
 refine k2 _ _ ?_;clear k2 K2
 replace H:=H.keep [1,2,5] rfl
 refine sS H fun K3 k3=>sr 1 rfl<|sE ?_;clear H a;intro a H
 refine k3 _ ?_;clear k3 K3
 refine wp_seq_k fun K4 k4=>?_
 refine sS H fun K5 k5=>sr 1 rfl<|sE ?_;clear H a;intro a H
 refine k5 _ ?_;clear k5 K5
 refine wp_block ?_
 refine loop_st (X:=Nat) (R0:=_) [1,2,5] H rfl (fun k=>[(6,.bool (freeN y.ps y.us k 0 (y.us.getD i Unt.zero).mach)),(7,.int .i64 (k:Int))]) (fun k=>[]) (fun g k=>k≤y.ps.length∧g+k=y.ps.length) (y.ps.length) 0 ?_ (S.sel [0,1] G G) (H.keep [6,7,1,2,5] rfl) ?_
 · exact ⟨by omega,by omega⟩
 clear H S a
 intro g1 x1 a w1 hp S H K6 k6
 obtain ⟨k,rfl⟩:∃ y,y=x1:=⟨_,rfl⟩
 refine wp_seq_k fun K7 k7=>?_
 refine sS H fun K8 k8=>sr 1 rfl<|sf eQ rfl<|sf fC rfl<|sl S 1 gQ G G G<|sL gJ rfl<|sr 1 rfl<|sE ?_;clear H a;intro a H
 refine k8 _ ?_;clear k8 K8
 refine condL H rfl (fun hc1=>?_) (fun hc1=>?_)
 ·skip
  refine wp_skip ?_
  refine k7 _ _ ?_
  refine wp_seq_k fun K9 k9=>?_
  refine wp_block ?_
  replace H:=H.keep [1,2,5,6,7] rfl
  refine aB fun K10 k10=>?_
  refine ls 6 H<|sf eQ rfl<|sf fC rfl<|sl S 1 gQ G G G<|sr 1 rfl<|si gJ dK G G (hy.ps.adr (by omega)) (by omega)<|sd ((aS iB dK rfl S hy.ps (by omega) (by omega)))<|sE ?_;clear H a;intro a H
  refine aM H rfl S kP ?_;clear H a S;intro b8 _ a hb8 hbw8 S H
  refine aG H S (i:=0) G G G G dK G G ?_
  clear H a S;intro _ a S H
  refine k10 _ _ ?_;clear k10 K10
  replace H:=H.keep [1,2,5,6,7,8] rfl
  refine sO H<|sr 2 rfl<|sg 10 1 33 43 false G G (fun hg2=>by
      have hq2:=hg2;try simp only [o1,o2,o3,o4,o5,o6,o7,o8,o9,oa] at hq2
      exact sy hg2<|sf dO rfl<|sy hg2<|sl S 0 aA G G G<|sy hg2<|sr 1 rfl<|sy hg2<|sr 1 rfl<|sg 5 5 37 42 true G G (fun hg6=>by
           have hq6:=hg6;try simp only [o1,o2,o3,o4,o5,o6,o7,o8,o9,oa] at hq6
           exact sy hg6<|sf dO rfl<|sy hg6<|sl S 0 aA G G G<|sy hg6<|sf kM rfl<|sy hg6<|sl S 1 aA G G G<|sy hg6<|sr 1 rfl<|sz 5 G G G)<|sy hg2<|sa G G G<|sz 6 G G G)<|so G G G<|sr 1 rfl<|sE ?_;clear H a;intro a H
  refine k9 _ _ ?_
  replace H:=H.keep [1,2,5,6,7] rfl
  refine sO H<|sr 1 rfl<|sd (aI G G (by unfold i64ok;omega))<|sr 1 rfl<|sE ?_;clear H a;intro a H
  rw [←yZ (ps:=y.ps) (us:=y.us)] at H
  exact k6 (g1-1) (k+1) a _ (by omega) (⟨by omega,by omega⟩) (S.sel [1,2] G G) (H.keep [6,7,1,2,5] rfl)
 refine wp_exit ?_
 refine k4 _ _ ?_
 refine wp_seq_k fun K13 k13=>?_
 refine sS H fun K14 k14=>sr 1 rfl<|sE ?_;clear H a;intro a H
 refine k14 _ ?_;clear k14 K14
 refine wp_block ?_
 obtain rfl:k=y.ps.length:=by omega
 refine loop_st (X:=Nat) (R0:=_) [1,2,5] H rfl (fun k=>[(6,.bool (freeN y.ps y.us y.ps.length k (y.us.getD i Unt.zero).mach)),(9,.int .i64 (k:Int))]) (fun k=>[]) (fun g k=>k≤i∧g+k=i) (i) 0 ?_ (S.sel [0,1] G G) (H.keep [6,9,1,2,5] rfl) ?_
 · exact ⟨by omega,by omega⟩
 clear H S a
 intro g2 x2 a w2 hp S H K15 k15
 obtain ⟨k,rfl⟩:∃ y,y=x2:=⟨_,rfl⟩
 refine wp_seq_k fun K16 k16=>?_
 refine sS H fun K17 k17=>sr 3 rfl<|sE ?_;clear H a;intro a H
 refine k17 _ ?_;clear k17 K17
 refine condL H rfl (fun hc2=>?_) (fun hc2=>?_)
 ·skip
  refine wp_skip ?_
  refine k16 _ _ ?_
  refine wp_seq_k fun K18 k18=>?_
  refine wp_block ?_
  replace H:=H.keep [1,2,5,6,9] rfl
  replace S:=S.drew
  refine sP H<|sr 2 rfl<|sg 9 1 51 60 true G G (fun hg2=>by
      have hq2:=hg2;try simp only [o1,o2,o3,o4,o5,o6,o7,o8,o9,oa] at hq2
      exact sy hg2<|sf cS rfl<|sy hg2<|sl S 1 dY G G G<|sy hg2<|sr 1 rfl<|sy hg2<|si cJ dG G G (hy.us.adr (by omega)) (by omega)<|sy hg2<|sp kM rfl<|sy hg2<|slm aA rfl (hy.us.rd S (by omega) (by omega))<|sy hg2<|sf kM rfl<|sy hg2<|sl S 0 aA G G G<|sy hg2<|sr 1 rfl<|sz 9 G G G)<|sa G G G<|sr 1 rfl<|sE ?_;clear H a;intro a H
  refine k18 _ _ ?_
  replace H:=H.keep [1,2,5,6,9] rfl
  refine sO H<|sr 1 rfl<|sd (aI G G (by unfold i64ok;omega))<|sr 1 rfl<|sE ?_;clear H a;intro a H
  rw [←Mw (ps:=y.ps) (us:=y.us)] at H
  exact k15 (g2-1) (k+1) a _ (by omega) (⟨by omega,by omega⟩) (S.sel [0,1] G G) (H.keep [6,9,1,2,5] rfl)
 refine wp_exit ?_
 refine k13 _ _ ?_
 refine wp_seq_k fun K21 k21=>?_
 obtain rfl:i=k:=by omega
 replace H:=H.keep [5,6] rfl
 refine aB fun K22 k22=>?_
 refine ls 21 H<|sr 3 rfl<|sg 4 2 64 68 false G G (fun hg3=>by
     have hq3:=hg3;try simp only [o1,o2,o3,o4,o5,o6,o7,o8,o9,oa] at hq3
     exact sy hg3<|sf qW rfl<|sy hg3<|sl S 0 aA G G G<|sy hg3<|sc rfl Try.func33 G G (cO _ _ _ _)<|sy hg3<|sr 1 rfl<|sz 4 G G G)<|so G G G<|sr 1 rfl<|sg 4 8 70 74 false G G (fun hg9=>by
     have hq9:=hg9;try simp only [o1,o2,o3,o4,o5,o6,o7,o8,o9,oa] at hq9
     exact sy hg9<|sf wL rfl<|sy hg9<|sl S 0 aA G G G<|sy hg9<|sc rfl Try.func33 G G (cO _ _ _ _)<|sy hg9<|sr 1 rfl<|sz 4 G G G)<|so G G G<|sr 1 rfl<|sg 4 14 76 80 false G G (fun hg15=>by
     have hq15:=hg15;try simp only [o1,o2,o3,o4,o5,o6,o7,o8,o9,oa] at hq15
     exact sy hg15<|sf wM rfl<|sy hg15<|sl S 0 aA G G G<|sy hg15<|sc rfl Try.func33 G G (cO _ _ _ _)<|sy hg15<|sr 1 rfl<|sz 4 G G G)<|so G G G<|sr 1 rfl<|sE ?_;clear H a;intro a H
 apply dI (i:=20) (g:=82) (t:=88) (b:=false) 6 H S G G (by kernel_rfl) (by kernel_rfl) G G
 case h1=>
  intro hg21
  have hq21:=hg21;try simp only [o1,o2,o3,o4,o5,o6,o7,o8,o9,oa] at hq21
  refine ls 4 H<|sy hg21<|sf iD rfl<|sy hg21<|sd ((aD eM fV rfl S (i:=0) G G))<|sy hg21<|sf fP rfl<|sy hg21<|sl S 0 iM G G G<|sE ?_;intro a H
  refine eL H G G (by assumption) ?_
  refine aC H G G Try.func74 G G (mN (y.us.getD i Unt.zero).rates (y.us.getD i Unt.zero).worn (y.us.getD i Unt.zero).turns (y.us.getD i Unt.zero).age (y.us.getD i Unt.zero).RA (y.us.getD i Unt.zero).rc (y.us.getD i Unt.zero).uses (y.us.getD i Unt.zero).UA (y.us.getD i Unt.zero).uc _ ((hy.rt i hi).now S) (hyb.rtn hi) ((hy.ul i hi).now S) (hyb.uln hi)) ?_
  rintro _ _ a ⟨rfl,S2⟩ H
  replace S:=S.call S2;clear S2
  refine ls 1 H<|sy hg21<|sr 1 rfl<|sE ?_;intro a H
  exact wpList_nil ⟨H.strip 6 G G,(S.sel [0,1] G G)⟩
 clear H a S;intro a _ H S
 refine ls 7 H<|so G G G<|sr 1 rfl<|sg 4 28 90 94 false G G (fun hg29=>by
     have hq29:=hg29;try simp only [o1,o2,o3,o4,o5,o6,o7,o8,o9,oa] at hq29
     exact sy hg29<|sf fP rfl<|sy hg29<|sl S 0 iM G G G<|sy hg29<|sL cW rfl<|sy hg29<|sr 1 rfl<|sz 4 G G G)<|so G G G<|sE ?_;clear H a;intro a H
 refine k22 _ _ ?_;clear k22 K22
 refine aT H rfl (fun hc3=>?_) (fun hc3=>?_)
 ·skip
  try simp only [o1,o2,o3,o4,o5,o6,o7,o8,o9,oa] at hc3
  replace H:=H.keep [] rfl
  refine sS H fun K23 k23=>sr 1 rfl<|sE ?_;clear H a;intro a H
  refine k23 _ ?_;clear k23 K23
  refine wp_ret ?_
  refine ret1 (fn:=Try.f50) rfl H rfl ?_
  rw [zA (fun h=>by have h1:freeN y.ps y.us y.ps.length i (y.us.getD i Unt.zero).mach=true:=h.free;have h2:=h.i;have h3:cA ⟨(y.us.getD i Unt.zero).rates,(y.us.getD i Unt.zero).worn,(y.us.getD i Unt.zero).turns,(y.us.getD i Unt.zero).age⟩ (y.us.getD i Unt.zero).uses=0:=(jI h.wear).1;unfold untI at h2;rw [h1] at hc3;simp only [Bool.true_eq_false,Bool.not_true,Bool.false_eq_true,not_true_eq_false,false_or] at hc3;omega)];exact ⟨rfl,(S.sel [] G G)⟩
 try simp only [o1,o2,o3,o4,o5,o6,o7,o8,o9,oa] at hc3
 have hcp:cA (y.us.getD i Unt.zero).part (y.us.getD i Unt.zero).uses=0:=by show cA ⟨_,_,_,_⟩ _=0;omega
 have hrw:=Hi hcp
 refine wp_skip ?_
 refine k21 _ _ ?_
 replace H:=H.keep [5] rfl
 refine aB fun K24 k24=>?_
 refine ls 4 H<|sf iD rfl<|sd ((aD eM fV rfl S (i:=0) G G))<|sf fP rfl<|sl S 0 iM G G G<|sE ?_;clear H a;intro a H
 refine aC H G G Try.func75 G G (yQ (y.us.getD i Unt.zero).rates (y.us.getD i Unt.zero).worn (y.us.getD i Unt.zero).turns (y.us.getD i Unt.zero).age (y.us.getD i Unt.zero).RA (y.us.getD i Unt.zero).rc (y.us.getD i Unt.zero).uses (y.us.getD i Unt.zero).UA (y.us.getD i Unt.zero).uc _ ((hy.rt i hi).now S) (hyb.rtn hi) ((hy.ul i hi).now S) (hyb.uln hi)) ?_;clear H a
 rintro _ _ a ⟨rfl,S2⟩ H
 replace S:=S.call S2;clear S2
 refine ls 7 H<|sr 7 rfl<|sE ?_;clear H a;intro a H
 refine k24 _ _ ?_;clear k24 K24
 refine wp_seq_k fun K25 k25=>?_
 replace H:=H.keep [5,11] rfl
 replace S:=S.drew
 refine sD H fun K26 k26=>sr 2 rfl<|sg 4 1 106 110 false G G (fun hg2=>by
     have hq2:=hg2;try simp only [o1,o2,o3,o4,o5,o6,o7,o8,o9,oa] at hq2
     exact sy hg2<|sf nX rfl<|sy hg2<|sl S 0 aA G G G<|sy hg2<|sc rfl Try.func33 G G (cO _ _ _ _)<|sy hg2<|sr 1 rfl<|sz 4 G G G)<|so G G G<|sr 1 rfl<|sg 18 7 112 130 false G G (fun hg8=>by
     have hq8:=hg8;try simp only [o1,o2,o3,o4,o5,o6,o7,o8,o9,oa] at hq8
     exact sy hg8<|sf fP rfl<|sy hg8<|sl S 0 iM G G G<|sy hg8<|sL cW rfl<|sy hg8<|sr 1 rfl<|sy hg8<|sr 1 rfl<|sg 12 12 117 129 true G G (fun hg13=>by
          have hq13:=hg13;try simp only [o1,o2,o3,o4,o5,o6,o7,o8,o9,oa] at hq13
          exact sy hg13<|sf nX rfl<|sy hg13<|sl S 0 aA G G G<|sy hg13<|sf fP rfl<|sy hg13<|sl S 0 iM G G G<|sy hg13<|sf fP rfl<|sy hg13<|sl S 0 iM G G G<|sy hg13<|sL cW rfl<|sy hg13<|sd (aO G G (by unfold i64ok;omega))<|sy hg13<|sI cW eI G G ((hy.ul i hi).adr (by omega)) (by omega) (by omega)<|sy hg13<|sp iV rfl<|sy hg13<|slm aA rfl ((hy.ul i hi).rd S (by omega) (by omega))<|sy hg13<|sr 1 rfl<|sz 12 G G G)<|sy hg8<|sa G G G<|sz 7 G G G)<|so G G G<|sE ?_;clear H a;intro a H
 refine k26 _ ?_;clear k26 K26
 refine aT H rfl (fun hc4=>?_) (fun hc4=>?_)
 ·skip
  try simp only [o1,o2,o3,o4,o5,o6,o7,o8,o9,oa] at hc4
  replace H:=H.keep [] rfl
  refine sS H fun K27 k27=>sr 1 rfl<|sE ?_;clear H a;intro a H
  refine k27 _ ?_;clear k27 K27
  refine wp_ret ?_
  refine ret1 (fn:=Try.f50) rfl H rfl ?_
  rw [zA (fun h=>by
    have h2:=h.i;have h3:=tX h.wear;unfold untI at h2
    have h5:=hrw.1 h.wear
    rcases hc4 with (h9|h9)|h9
    · have h6:(refO (y.us.getD i Unt.zero).part (y.us.getD i Unt.zero).uses).2.1=true:=h9
      rw [h5] at h6;cases h6
    · omega
    · have h7:=Hk (l:=(y.us.getD i Unt.zero).uses) (by omega) h9.2;omega)];exact ⟨rfl,(S.sel [] G G)⟩
 try simp only [o1,o2,o3,o4,o5,o6,o7,o8,o9,oa] at hc4
 refine wp_skip ?_
 refine k25 _ _ ?_
 replace H:=H.keep [5] rfl
 refine sS H fun K28 k28=>sf kN rfl<|sl S 0 aA G G G<|sc rfl Try.func33 G G (cO _ _ _ _)<|sr 1 rfl<|sg 8 3 135 143 true G G (fun hg4=>by
     have hq4:=hg4;try simp only [o1,o2,o3,o4,o5,o6,o7,o8,o9,oa] at hq4
     exact sy hg4<|sf nY rfl<|sy hg4<|sl S 0 aA G G G<|sy hg4<|sf iD rfl<|sy hg4<|sf fD rfl<|sy hg4<|sl S 0 gR G G G<|sy hg4<|sL cE rfl<|sy hg4<|sd (aO G G (by unfold i64ok;omega))<|sy hg4<|sc rfl Try.func33 G G (cO _ _ _ _)<|sz 8 G G G)<|sa G G G<|sr 1 rfl<|sE ?_;clear H a;intro a H
 refine k28 _ ?_;clear k28 K28
 refine wp_ret ?_
 refine ret1 (fn:=Try.f50) rfl H rfl ?_
 refine ⟨congrArg Value.bool ?_,(S.sel [] G G)⟩
 rw [Bool.eq_iff_iff,jJ]
 simp only [Bool.and_eq_true,decide_eq_true_eq]
 constructor
 · intro h9
   refine ⟨?_,?_,hrw.2 ?_⟩
   · show freeN _ _ _ _ _=true;rcases hc3 with ⟨⟨⟨⟨⟨h1,_⟩,_⟩,_⟩,_⟩,_⟩;exact h1
   · have h8:=Hj (l:=(y.us.getD i Unt.zero).uses) (o:=(y.us.getD i Unt.zero).old) (by omega) (by omega)
     unfold untI;omega
   · rcases hc4 with ⟨⟨h1,_⟩,_⟩;exact h1
 · intro h9
   have h2:=h9.i
   unfold untI at h2
   omega
theorem gY (y:Yr) (w:World) (hy:YIn w noF y) (hyb:YBd y) :
    Calls Try.prog 19 [.agg [.int .i64 y.days,.int .i64 y.pl,.slice y.PA y.ps.length y.pc,.slice y.XA y.xs.length y.xc,.slice y.BA y.pe.length y.bc,.int .i64 y.limit,.bool y.help,.slice y.QA y.prs.length y.qc,.slice y.VA y.us.length y.vc,.int .i64 y.crew,.slice y.SA y.sps.length y.sc].toArray].toArray w (Ret (fun v w'=>v = .int .i64 (yearE y)∧St w noF [] w')):=by
 have hn3:=hyb.usn
 refine enter Try.func19 rfl Try.ntmps19 rfl (fun a H=>?_)
 have S:=St.start w
 refine aB fun K1 k1=>?_
 refine aP H rfl S G G ?_;clear H a S;intro b1 _ a hb1 hbw1 S H
 refine ls 1 H<|sr 1 rfl<|sE ?_;clear H a;intro a H
 refine k1 _ _ ?_;clear k1 K1
 refine aB fun K2 k2=>?_
 refine ls 2 H<|sf eQ rfl<|sd ((aD cG dN rfl S (i:=0) G G))<|sE ?_;clear H a;intro a H
 refine aC H G G Try.func47 G G (lV y.pl y.ps y.PA y.pc y.xs y.XA y.xc _ (hy.ps.now S) hyb.psn (hy.xs.now S) hyb.xsn) ?_;clear H a
 rintro _ _ a ⟨rfl,S2⟩ H
 replace S:=S.call S2;clear S2
 refine ls 1 H<|sr 1 rfl<|sE ?_;clear H a;intro a H
 refine k2 _ _ ?_;clear k2 K2
 refine wp_seq_k fun K3 k3=>?_
 refine sS H fun K4 k4=>sr 2 rfl<|sE ?_;clear H a;intro a H
 refine k4 _ ?_;clear k4 K4
 refine condN H rfl (fun hc1=>?_) (fun hc1=>?_)
 ·skip
  replace H:=H.keep [3] rfl
  refine sS H fun K5 k5=>sr 2 rfl<|sE ?_;clear H a;intro a H
  refine k5 _ ?_;clear k5 K5
  refine wp_ret ?_
  refine ret1 (fn:=Try.f19) rfl H rfl ?_
  have e9:=tB (day:=[]) (l:=y.prs) hc1
  rw [nE (by rw [e9];exact hc1),e9];exact ⟨rfl,(S.sel [] G G)⟩
 refine wp_skip ?_
 refine k3 _ _ ?_
 refine aB fun K6 k6=>?_
 refine ls 4 H<|sf eQ rfl<|sd ((aD cG dN rfl S (i:=0) G G))<|sf qS rfl<|sl S 0 wC G G G<|sE ?_;clear H a;intro a H
 refine aC H G G Try.func48 G G (pD y.pl y.ps y.PA y.pc y.xs y.XA y.xc ([]:List Hq) none 0 (fun _=>none) (fun _=>0) y.prs y.QA y.qc _ (hy.ps.now S) hyb.psn (hy.xs.now S) hyb.xsn InS.nil (by decide) (fun k hk=>absurd hk (Nat.not_lt_zero k)) (fun k hk=>absurd hk (Nat.not_lt_zero k)) (hy.prs.now S) hyb.prn) ?_;clear H a
 rintro _ _ a ⟨rfl,S2⟩ H
 replace S:=S.call S2;clear S2
 refine ls 1 H<|sr 1 rfl<|sE ?_;clear H a;intro a H
 refine k6 _ _ ?_;clear k6 K6
 refine wp_seq_k fun K7 k7=>?_
 replace H:=H.keep [1,3] rfl
 refine sS H fun K8 k8=>sr 2 rfl<|sE ?_;clear H a;intro a H
 refine k8 _ ?_;clear k8 K8
 refine condN H rfl (fun hc2=>?_) (fun hc2=>?_)
 ·skip
  refine sS H fun K9 k9=>sr 2 rfl<|sE ?_;clear H a;intro a H
  refine k9 _ ?_;clear k9 K9
  refine wp_ret ?_
  refine ret1 (fn:=Try.f19) rfl H rfl ?_
  exact ⟨congrArg _ (nE hc2).symm,(S.sel [] G G)⟩
 refine wp_skip ?_
 refine k7 _ _ ?_
 refine wp_seq_k fun K10 k10=>?_
 refine aB fun K11 k11=>?_
 refine ls 1 H<|sd ((aD bE bA rfl S (i:=0) G G))<|sE ?_;clear H a;intro a H
 refine aC H G G Try.func49 G G (Hm y _ (hy.now S) hyb (by omega)) ?_;clear H a
 rintro _ _ a ⟨rfl,S2⟩ H
 replace S:=S.call S2;clear S2
 refine ls 1 H<|sr 1 rfl<|sE ?_;clear H a;intro a H
 refine k11 _ _ ?_;clear k11 K11
 refine aT H rfl (fun hc3=>?_) (fun hc3=>?_)
 ·skip
  try simp only [o1,o2,o3,o4,o5,o6,o7,o8,o9,oa] at hc3
  refine sS H fun K12 k12=>sr 1 rfl<|sE ?_;clear H a;intro a H
  refine k12 _ ?_;clear k12 K12
  refine wp_ret ?_
  refine ret1 (fn:=Try.f19) rfl H rfl ?_
  rw [oU (by omega) (fun h=>by rw [Mt h] at hc3;simp at hc3)];exact ⟨rfl,(S.sel [] G G)⟩
 try simp only [o1,o2,o3,o4,o5,o6,o7,o8,o9,oa] at hc3
 have hyi:=Ro.1 (by simpa using hc3)
 refine wp_skip ?_
 refine k10 _ _ ?_
 refine wp_seq_k fun K13 k13=>?_
 replace H:=H.keep [1] rfl
 refine sS H fun K14 k14=>sf cS rfl<|sl S 0 dY G G G<|sL cJ rfl<|sr 1 rfl<|sE ?_;clear H a;intro a H
 refine k14 _ ?_;clear k14 K14
 refine condL H rfl (fun hc4=>?_) (fun hc4=>?_)
 ·skip
  refine sS H fun K15 k15=>sr 1 rfl<|sE ?_;clear H a;intro a H
  refine k15 _ ?_;clear k15 K15
  refine wp_ret ?_
  refine ret1 (fn:=Try.f19) rfl H rfl ?_
  rw [tL (by omega) hyi (by omega)];exact ⟨rfl,(S.sel [] G G)⟩
 refine wp_skip ?_
 refine k13 _ _ ?_
 refine wp_seq_k fun K16 k16=>?_
 refine sS H fun K17 k17=>sr 1 rfl<|sE ?_;clear H a;intro a H
 refine k17 _ ?_;clear k17 K17
 refine wp_block ?_
 refine loop_st (X:=Nat) (R0:=_) [1] H rfl (fun k=>[(4,.int .i64 (k:Int))]) (fun k=>[]) (fun g k=>k≤y.us.length∧g+k=y.us.length∧∀ q,q<k→untB y.ps y.us q=true) (y.us.length) 0 ?_ (S.sel [0] G G) (H.keep [4,1] rfl) ?_
 · exact ⟨by omega,by omega,fun q hq=>absurd hq (Nat.not_lt_zero q)⟩
 clear H S a
 intro g1 x1 a w1 hp S H K18 k18
 obtain ⟨k,rfl⟩:∃ y,y=x1:=⟨_,rfl⟩
 refine wp_seq_k fun K19 k19=>?_
 refine sS H fun K20 k20=>sr 1 rfl<|sf cS rfl<|sl S 0 dY G G G<|sL cJ rfl<|sr 1 rfl<|sE ?_;clear H a;intro a H
 refine k20 _ ?_;clear k20 K20
 refine condL H rfl (fun hc5=>?_) (fun hc5=>?_)
 ·skip
  refine wp_skip ?_
  refine k19 _ _ ?_
  refine wp_seq_k fun K21 k21=>?_
  refine wp_block ?_
  refine aB fun K22 k22=>?_
  refine ls 2 H<|sd ((aD bE bA rfl S (i:=0) G G))<|sr 1 rfl<|sE ?_;clear H a;intro a H
  refine aC H G G Try.func50 G G (Hn y k _ (hy.now S) hyb (by omega)) ?_;clear H a
  rintro _ _ a ⟨rfl,S2⟩ H
  replace S:=S.call S2;clear S2
  refine ls 1 H<|sr 1 rfl<|sE ?_;clear H a;intro a H
  refine k22 _ _ ?_;clear k22 K22
  refine aT H rfl (fun hc6=>?_) (fun hc6=>?_)
  ·skip
   try simp only [o1,o2,o3,o4,o5,o6,o7,o8,o9,oa] at hc6
   replace H:=H.keep [] rfl
   refine sS H fun K23 k23=>sr 1 rfl<|sE ?_;clear H a;intro a H
   refine k23 _ ?_;clear k23 K23
   refine wp_ret ?_
   refine ret1 (fn:=Try.f19) rfl H rfl ?_
   rw [tM (by omega) hyi (by omega) (show k<y.us.length by omega) (by simpa using hc6)];exact ⟨rfl,(S.sel [] G G)⟩
  try simp only [o1,o2,o3,o4,o5,o6,o7,o8,o9,oa] at hc6
  refine wp_skip ?_
  refine k21 _ _ ?_
  refine sO H<|sr 1 rfl<|sd (aI G G (by unfold i64ok;omega))<|sr 1 rfl<|sE ?_;clear H a;intro a H
  exact k18 (g1-1) (k+1) a _ (by omega) (⟨by omega,by omega,eY (f:=untB y.ps y.us) hp.2.2 (by simpa using hc6)⟩) (S.sel [0] G G) (H.keep [4,1] rfl)
 refine wp_exit ?_
 refine k16 _ _ ?_
 refine sS H fun K25 k25=>sr 1 rfl<|sE ?_;clear H a;intro a H
 refine k25 _ ?_;clear k25 K25
 refine wp_ret ?_
 refine ret1 (fn:=Try.f19) rfl H rfl ?_
 rw [tN (by omega) hyi (by omega) (bB.2 fun q hq=>hp.2.2 q (by omega))];exact ⟨rfl,(S.sel [] G G)⟩
theorem Mx (y:Yr) (l:List Tsk) (LA:Option Addr) (lc:Nat) (w:World) (hy:YIn w noF y) (hyb:YBd y) (hl:InS w noF 3 LA l.length (fH l)) (hln:l.length≤9223372036854775807) :
    Calls Try.prog 10 [.agg [.int .i64 y.days,.int .i64 y.pl,.slice y.PA y.ps.length y.pc,.slice y.XA y.xs.length y.xc,.slice y.BA y.pe.length y.bc,.int .i64 y.limit,.bool y.help,.slice y.QA y.prs.length y.qc,.slice y.VA y.us.length y.vc,.int .i64 y.crew,.slice y.SA y.sps.length y.sc].toArray,.slice LA l.length lc].toArray w (Ret (fun v w'=>v = .int .i64 (taskE y l)∧St w noF [] w')):=by
 have hn3:=hyb.usn
 refine enter Try.func10 rfl Try.ntmps10 rfl (fun a H=>?_)
 have S:=St.start w
 refine aB fun K1 k1=>?_
 refine aP H rfl S G G ?_;clear H a S;intro b2 _ a hb2 hbw2 S H
 refine ls 1 H<|sr 1 rfl<|sE ?_;clear H a;intro a H
 refine k1 _ _ ?_;clear k1 K1
 refine aB fun K2 k2=>?_
 refine ls 1 H<|sd ((aD bE bA rfl S (i:=0) G G))<|sE ?_;clear H a;intro a H
 refine aC H G G Try.func19 G G (gY y _ (hy.now S) hyb) ?_;clear H a
 rintro _ _ a ⟨rfl,S2⟩ H
 replace S:=S.call S2;clear S2
 refine ls 1 H<|sr 1 rfl<|sE ?_;clear H a;intro a H
 refine k2 _ _ ?_;clear k2 K2
 refine wp_seq_k fun K3 k3=>?_
 refine sS H fun K4 k4=>sr 2 rfl<|sE ?_;clear H a;intro a H
 refine k4 _ ?_;clear k4 K4
 refine condN H rfl (fun hc1=>?_) (fun hc1=>?_)
 ·skip
  refine sS H fun K5 k5=>sr 2 rfl<|sE ?_;clear H a;intro a H
  refine k5 _ ?_;clear k5 K5
  refine wp_ret ?_
  refine ret1 (fn:=Try.f10) rfl H rfl ?_
  exact ⟨congrArg _ (tO hc1).symm,(S.sel [] G G)⟩
 have hye:yearE y=0:=by omega
 have hyi:=(jQ hye).yr
 unfold yrI at hyi
 refine wp_skip ?_
 refine k3 _ _ ?_
 refine wp_seq_k fun K6 k6=>?_
 replace H:=H.keep [1,2] rfl
 refine sS H fun K7 k7=>sr 1 rfl<|sL dT rfl<|sr 1 rfl<|sE ?_;clear H a;intro a H
 refine k7 _ ?_;clear k7 K7
 refine condL H rfl (fun hc2=>?_) (fun hc2=>?_)
 ·skip
  refine sS H fun K8 k8=>sr 1 rfl<|sE ?_;clear H a;intro a H
  refine k8 _ ?_;clear k8 K8
  refine wp_ret ?_
  refine ret1 (fn:=Try.f10) rfl H rfl ?_
  rw [tP hye (by omega)];exact ⟨rfl,(S.sel [] G G)⟩
 refine wp_skip ?_
 refine k6 _ _ ?_
 refine wp_seq_k fun K9 k9=>?_
 refine sS H fun K10 k10=>sr 1 rfl<|sE ?_;clear H a;intro a H
 refine k10 _ ?_;clear k10 K10
 refine wp_block ?_
 refine loop_st (X:=Nat) (R0:=_) [1,2] H rfl (fun k=>[(6,.int .i64 (k:Int))]) (fun k=>[]) (fun g k=>k≤l.length∧g+k=l.length∧∀ q,q<k→tskB y l q=true) (l.length) 0 ?_ (S.sel [0] G G) (H.keep [6,1,2] rfl) ?_
 · exact ⟨by omega,by omega,fun q hq=>absurd hq (Nat.not_lt_zero q)⟩
 clear H S a
 intro g1 x1 a w1 hp S H K11 k11
 obtain ⟨k,rfl⟩:∃ y,y=x1:=⟨_,rfl⟩
 refine wp_seq_k fun K12 k12=>?_
 refine sS H fun K13 k13=>sr 2 rfl<|sL dT rfl<|sr 1 rfl<|sE ?_;clear H a;intro a H
 refine k13 _ ?_;clear k13 K13
 refine condL H rfl (fun hc3=>?_) (fun hc3=>?_)
 ·skip
  refine wp_skip ?_
  refine k12 _ _ ?_
  refine wp_seq_k fun K14 k14=>?_
  refine wp_block ?_
  rcases chk5 (0≤(l.getD k Tsk.zero).day∧(l.getD k Tsk.zero).day≤y.days-1) (0≤(l.getD k Tsk.zero).unit∧(l.getD k Tsk.zero).unit≤(y.us.length:Int)-1) (1≤(l.getD k Tsk.zero).kind∧(l.getD k Tsk.zero).kind≤2) k with hB|hB|hB|hB|hB
  ·skip
   skip
   replace H:=H.keep [1,2,6] rfl
   replace S:=S.drew
   refine dP [(0,true),(1,true),(2,true),(3,true),(4,true),(5,true),(6,true),(7,true),(8,false),(9,true),(10,true),(11,true),(12,true),(13,true),(14,true),(15,true),(16,true),(17,true),(18,true),(19,true),(20,true),(21,true),(22,true),(23,true),(24,true),(25,true),(26,true),(27,true),(28,true),(29,true),(30,true),(31,true),(32,true),(33,true),(34,true),(35,true),(36,true),(37,true),(38,true),(39,true),(40,true),(41,true),(42,true),(43,true),(44,true),(45,true),(46,true),(47,true),(48,true)] (by kernel_rfl) (by kernel_rfl) (S.sel [0] G G) fun K15 k15=>?_
   refine qF H<|qr 2 rfl<|qd rfl (fun _ S=>aW dT dF G G (hl.adr (by omega)) (by omega))<|qd rfl (fun _ S=>(bJ cT rfl))<|qd rfl (fun _ S=>aE aA rfl (hl.rd S (by omega) (by omega)))<|qd rfl (fun _ S=>(aF cN rfl))<|qd rfl (fun _ S=>aE aA rfl (boxM.rd S (i:=0) G G))<|qd rfl (fun _ S=>aO G G (by unfold i64ok;omega))<|qK ?_;clear H a;intro a H
   refine aZ rfl ?_
   refine aC H G G Try.func33 G G (cO _ _ _ _) ?_;clear H a
   rintro _ _ a ⟨rfl,rfl⟩ H
   refine wpList_nil (And.intro (S.sel [0] G G) ?_)
   refine qF H<|qd rfl (fun _ S=>gN rfl (by omega))<|qr 1 rfl<|qK ?_;clear H a;intro a H
   refine aQ H G G G G G ?_;clear H a;intro a H
   refine aQ H G G G G G ?_;clear H a;intro a H
   refine aQ H G G G G G ?_;clear H a;intro a H
   refine aQ H G G G G G ?_;clear H a;intro a H
   refine aQ H G G G G G ?_;clear H a;intro a H
   refine aQ H G G G G G ?_;clear H a;intro a H
   refine aQ H G G G G G ?_;clear H a;intro a H
   refine aQ H G G G G G ?_;clear H a;intro a H
   refine aQ H G G G G G ?_;clear H a;intro a H
   refine aQ H G G G G G ?_;clear H a;intro a H
   refine aQ H G G G G G ?_;clear H a;intro a H
   refine qF H<|qd rfl (fun _ S=>(bD G G G))<|qr 1 rfl<|qK ?_;clear H a;intro a H
   refine aQ H G G G G G ?_;clear H a;intro a H
   refine aQ H G G G G G ?_;clear H a;intro a H
   refine aQ H G G G G G ?_;clear H a;intro a H
   refine aQ H G G G G G ?_;clear H a;intro a H
   refine aQ H G G G G G ?_;clear H a;intro a H
   refine aQ H G G G G G ?_;clear H a;intro a H
   refine aQ H G G G G G ?_;clear H a;intro a H
   refine qF H<|qd rfl (fun _ S=>(bD G G G))<|qr 1 rfl<|qK ?_;clear H a;intro a H
   refine aQ H G G G G G ?_;clear H a;intro a H
   refine aQ H G G G G G ?_;clear H a;intro a H
   refine aQ H G G G G G ?_;clear H a;intro a H
   refine bP H G G G G ?_;clear H a;intro a H
   refine bP H G G G G ?_;clear H a;intro a H
   refine bP H G G G G ?_;clear H a;intro a H
   refine bP H G G G G ?_;clear H a;intro a H
   refine bP H G G G G ?_;clear H a;intro a H
   refine bP H G G G G ?_;clear H a;intro a H
   refine bP H G G G G ?_;clear H a;intro a H
   refine bP H G G G G ?_;clear H a;intro a H
   refine bP H G G G G ?_;clear H a;intro a H
   refine bP H G G G G ?_;clear H a;intro a H
   refine bP H G G G G ?_;clear H a;intro a H
   refine aQ H G G G G G ?_;clear H a;intro a H
   refine qF H<|qd rfl (fun _ S=>(bD G G G))<|qK ?_;clear H a;intro a H
   refine cM ?_
   refine k15 _ _ ?_
   clear k15 K15
   refine aT H rfl (fun hc4=>?_) (fun hc4=>?_)
   ·skip
    skip
    replace H:=H.keep [] rfl
    refine sS H fun K16 k16=>sr 1 rfl<|sE ?_;clear H a;intro a H
    refine k16 _ ?_;clear k16 K16
    refine wp_ret ?_
    refine ret1 (fn:=Try.f10) rfl H rfl ?_
    rw [gL hye (by omega) (show k<l.length by omega) (kF (by omega))];exact ⟨rfl,(S.sel [] G G)⟩
   skip
   cases hc4
  ·skip
   skip
   replace H:=H.keep [1,2,6] rfl
   replace S:=S.drew
   refine dP [(0,true),(1,true),(2,true),(3,true),(4,true),(5,true),(6,true),(7,true),(8,false),(9,true),(10,true),(11,true),(12,true),(13,true),(14,true),(15,true),(16,true),(17,true),(18,true),(19,true),(20,false),(21,true),(22,true),(23,true),(24,true),(25,true),(26,true),(27,true),(28,true),(29,true),(30,true),(31,true),(32,true),(33,true),(34,true),(35,true),(36,true),(37,true),(38,true),(39,true),(40,true),(41,true),(42,true),(43,true),(44,true),(45,true),(46,true),(47,true),(48,true)] (by kernel_rfl) (by kernel_rfl) (S.sel [0] G G) fun K17 k17=>?_
   refine qF H<|qr 2 rfl<|qd rfl (fun _ S=>aW dT dF G G (hl.adr (by omega)) (by omega))<|qd rfl (fun _ S=>(bJ cT rfl))<|qd rfl (fun _ S=>aE aA rfl (hl.rd S (by omega) (by omega)))<|qd rfl (fun _ S=>(aF cN rfl))<|qd rfl (fun _ S=>aE aA rfl (boxM.rd S (i:=0) G G))<|qd rfl (fun _ S=>aO G G (by unfold i64ok;omega))<|qK ?_;clear H a;intro a H
   refine aZ rfl ?_
   refine aC H G G Try.func33 G G (cO _ _ _ _) ?_;clear H a
   rintro _ _ a ⟨rfl,rfl⟩ H
   refine wpList_nil (And.intro (S.sel [0] G G) ?_)
   refine qF H<|qd rfl (fun _ S=>bQ rfl (by omega))<|qr 1 rfl<|qK ?_;clear H a;intro a H
   refine aL H G G G G (fun _ S=>aJ rfl) ?_;clear H a;intro a H
   refine aL H G G G G (fun _ S=>aJ rfl) ?_;clear H a;intro a H
   refine aL H G G G G (fun _ S=>aW dT dF G G (hl.adr (by omega)) (by omega)) ?_;clear H a;intro a H
   refine aL H G G G G (fun _ S=>(bJ dH rfl)) ?_;clear H a;intro a H
   refine aL H G G G G (fun _ S=>aE aA rfl (hl.rd S (by omega) (by omega))) ?_;clear H a;intro a H
   refine aL H G G G G (fun _ S=>(aF cS rfl)) ?_;clear H a;intro a H
   refine aL H G G G G (fun _ S=>aE dY rfl (boxM.rd S (i:=0) G G)) ?_;clear H a;intro a H
   refine aL H G G G G (fun _ S=>dM cJ rfl) ?_;clear H a;intro a H
   refine aL H G G G G (fun _ S=>aO G G (by unfold i64ok;omega)) ?_;clear H a;intro a H
   refine aZ rfl ?_
   refine bT H G G ?_
   refine aC H G G Try.func33 G G (cO _ _ _ _) ?_;clear H a
   rintro _ _ a ⟨rfl,rfl⟩ H
   refine wpList_nil (And.intro (S.sel [0] G G) ?_)
   refine aL H G G G G (fun _ S=>gN rfl (by omega)) ?_;clear H a;intro a H
   refine qF H<|qd rfl (fun _ S=>(cL G G G))<|qr 1 rfl<|qK ?_;clear H a;intro a H
   refine aQ H G G G G G ?_;clear H a;intro a H
   refine aQ H G G G G G ?_;clear H a;intro a H
   refine aQ H G G G G G ?_;clear H a;intro a H
   refine aQ H G G G G G ?_;clear H a;intro a H
   refine aQ H G G G G G ?_;clear H a;intro a H
   refine aQ H G G G G G ?_;clear H a;intro a H
   refine aQ H G G G G G ?_;clear H a;intro a H
   refine qF H<|qd rfl (fun _ S=>(bD G G G))<|qr 1 rfl<|qK ?_;clear H a;intro a H
   refine aQ H G G G G G ?_;clear H a;intro a H
   refine aQ H G G G G G ?_;clear H a;intro a H
   refine aQ H G G G G G ?_;clear H a;intro a H
   refine bP H G G G G ?_;clear H a;intro a H
   refine bP H G G G G ?_;clear H a;intro a H
   refine bP H G G G G ?_;clear H a;intro a H
   refine bP H G G G G ?_;clear H a;intro a H
   refine bP H G G G G ?_;clear H a;intro a H
   refine bP H G G G G ?_;clear H a;intro a H
   refine bP H G G G G ?_;clear H a;intro a H
   refine bP H G G G G ?_;clear H a;intro a H
   refine bP H G G G G ?_;clear H a;intro a H
   refine bP H G G G G ?_;clear H a;intro a H
   refine bP H G G G G ?_;clear H a;intro a H
   refine aQ H G G G G G ?_;clear H a;intro a H
   refine qF H<|qd rfl (fun _ S=>(bD G G G))<|qK ?_;clear H a;intro a H
   refine cM ?_
   refine k17 _ _ ?_
   clear k17 K17
   refine aT H rfl (fun hc5=>?_) (fun hc5=>?_)
   ·skip
    skip
    replace H:=H.keep [] rfl
    refine sS H fun K18 k18=>sr 1 rfl<|sE ?_;clear H a;intro a H
    refine k18 _ ?_;clear k18 K18
    refine wp_ret ?_
    refine ret1 (fn:=Try.f10) rfl H rfl ?_
    rw [gL hye (by omega) (show k<l.length by omega) (kF (by omega))];exact ⟨rfl,(S.sel [] G G)⟩
   skip
   cases hc5
  ·skip
   skip
   replace H:=H.keep [1,2,6] rfl
   replace S:=S.drew
   refine dP [(0,true),(1,true),(2,true),(3,true),(4,true),(5,true),(6,true),(7,true),(8,false),(9,true),(10,true),(11,true),(12,true),(13,true),(14,true),(15,true),(16,true),(17,true),(18,true),(19,true),(20,false),(21,true),(22,true),(23,true),(24,true),(25,true),(26,true),(27,true),(28,true),(29,false),(30,true),(31,true),(32,true),(33,true),(34,true),(35,true),(36,true),(37,true),(38,true),(39,true),(40,true),(41,true),(42,true),(43,true),(44,true),(45,true),(46,true),(47,true),(48,true)] (by kernel_rfl) (by kernel_rfl) (S.sel [0] G G) fun K19 k19=>?_
   refine qF H<|qr 2 rfl<|qd rfl (fun _ S=>aW dT dF G G (hl.adr (by omega)) (by omega))<|qd rfl (fun _ S=>(bJ cT rfl))<|qd rfl (fun _ S=>aE aA rfl (hl.rd S (by omega) (by omega)))<|qd rfl (fun _ S=>(aF cN rfl))<|qd rfl (fun _ S=>aE aA rfl (boxM.rd S (i:=0) G G))<|qd rfl (fun _ S=>aO G G (by unfold i64ok;omega))<|qK ?_;clear H a;intro a H
   refine aZ rfl ?_
   refine aC H G G Try.func33 G G (cO _ _ _ _) ?_;clear H a
   rintro _ _ a ⟨rfl,rfl⟩ H
   refine wpList_nil (And.intro (S.sel [0] G G) ?_)
   refine qF H<|qd rfl (fun _ S=>bQ rfl (by omega))<|qr 1 rfl<|qK ?_;clear H a;intro a H
   refine aL H G G G G (fun _ S=>aJ rfl) ?_;clear H a;intro a H
   refine aL H G G G G (fun _ S=>aJ rfl) ?_;clear H a;intro a H
   refine aL H G G G G (fun _ S=>aW dT dF G G (hl.adr (by omega)) (by omega)) ?_;clear H a;intro a H
   refine aL H G G G G (fun _ S=>(bJ dH rfl)) ?_;clear H a;intro a H
   refine aL H G G G G (fun _ S=>aE aA rfl (hl.rd S (by omega) (by omega))) ?_;clear H a;intro a H
   refine aL H G G G G (fun _ S=>(aF cS rfl)) ?_;clear H a;intro a H
   refine aL H G G G G (fun _ S=>aE dY rfl (boxM.rd S (i:=0) G G)) ?_;clear H a;intro a H
   refine aL H G G G G (fun _ S=>dM cJ rfl) ?_;clear H a;intro a H
   refine aL H G G G G (fun _ S=>aO G G (by unfold i64ok;omega)) ?_;clear H a;intro a H
   refine aZ rfl ?_
   refine bT H G G ?_
   refine aC H G G Try.func33 G G (cO _ _ _ _) ?_;clear H a
   rintro _ _ a ⟨rfl,rfl⟩ H
   refine wpList_nil (And.intro (S.sel [0] G G) ?_)
   refine aL H G G G G (fun _ S=>bQ rfl (by omega)) ?_;clear H a;intro a H
   refine qF H<|qd rfl (fun _ S=>(cL G G G))<|qr 1 rfl<|qK ?_;clear H a;intro a H
   refine aL H G G G G (fun _ S=>aJ rfl) ?_;clear H a;intro a H
   refine aL H G G G G (fun _ S=>aJ rfl) ?_;clear H a;intro a H
   refine aL H G G G G (fun _ S=>aW dT dF G G (hl.adr (by omega)) (by omega)) ?_;clear H a;intro a H
   refine aL H G G G G (fun _ S=>(bJ fO rfl)) ?_;clear H a;intro a H
   refine aL H G G G G (fun _ S=>aE aA rfl (hl.rd S (by omega) (by omega))) ?_;clear H a;intro a H
   refine aZ rfl ?_
   refine bT H G G ?_
   refine aC H G G Try.func33 G G (cO _ _ _ _) ?_;clear H a
   rintro _ _ a ⟨rfl,rfl⟩ H
   refine wpList_nil (And.intro (S.sel [0] G G) ?_)
   refine aL H G G G G (fun _ S=>gN rfl (by omega)) ?_;clear H a;intro a H
   refine qF H<|qd rfl (fun _ S=>(cL G G G))<|qr 1 rfl<|qK ?_;clear H a;intro a H
   refine aQ H G G G G G ?_;clear H a;intro a H
   refine aQ H G G G G G ?_;clear H a;intro a H
   refine aQ H G G G G G ?_;clear H a;intro a H
   refine bP H G G G G ?_;clear H a;intro a H
   refine bP H G G G G ?_;clear H a;intro a H
   refine bP H G G G G ?_;clear H a;intro a H
   refine bP H G G G G ?_;clear H a;intro a H
   refine bP H G G G G ?_;clear H a;intro a H
   refine bP H G G G G ?_;clear H a;intro a H
   refine bP H G G G G ?_;clear H a;intro a H
   refine bP H G G G G ?_;clear H a;intro a H
   refine bP H G G G G ?_;clear H a;intro a H
   refine bP H G G G G ?_;clear H a;intro a H
   refine bP H G G G G ?_;clear H a;intro a H
   refine aQ H G G G G G ?_;clear H a;intro a H
   refine qF H<|qd rfl (fun _ S=>(bD G G G))<|qK ?_;clear H a;intro a H
   refine cM ?_
   refine k19 _ _ ?_
   clear k19 K19
   refine aT H rfl (fun hc6=>?_) (fun hc6=>?_)
   ·skip
    skip
    replace H:=H.keep [] rfl
    refine sS H fun K20 k20=>sr 1 rfl<|sE ?_;clear H a;intro a H
    refine k20 _ ?_;clear k20 K20
    refine wp_ret ?_
    refine ret1 (fn:=Try.f10) rfl H rfl ?_
    rw [gL hye (by omega) (show k<l.length by omega) (kF (by omega))];exact ⟨rfl,(S.sel [] G G)⟩
   skip
   cases hc6
  ·skip
   skip
   replace H:=H.keep [1,2,6] rfl
   replace S:=S.drew
   refine dP [(0,true),(1,true),(2,true),(3,true),(4,true),(5,true),(6,true),(7,true),(8,false),(9,true),(10,true),(11,true),(12,true),(13,true),(14,true),(15,true),(16,true),(17,true),(18,true),(19,true),(20,false),(21,true),(22,true),(23,true),(24,true),(25,true),(26,true),(27,true),(28,true),(29,false),(30,true),(31,true),(32,true),(33,true),(34,true),(35,true),(36,true),(37,true),(38,true),(39,true),(40,true),(41,true),(42,true),(43,true),(44,true),(45,true),(46,true),(47,true),(48,true)] (by kernel_rfl) (by kernel_rfl) (S.sel [0] G G) fun K21 k21=>?_
   refine qF H<|qr 2 rfl<|qd rfl (fun _ S=>aW dT dF G G (hl.adr (by omega)) (by omega))<|qd rfl (fun _ S=>(bJ cT rfl))<|qd rfl (fun _ S=>aE aA rfl (hl.rd S (by omega) (by omega)))<|qd rfl (fun _ S=>(aF cN rfl))<|qd rfl (fun _ S=>aE aA rfl (boxM.rd S (i:=0) G G))<|qd rfl (fun _ S=>aO G G (by unfold i64ok;omega))<|qK ?_;clear H a;intro a H
   refine aZ rfl ?_
   refine aC H G G Try.func33 G G (cO _ _ _ _) ?_;clear H a
   rintro _ _ a ⟨rfl,rfl⟩ H
   refine wpList_nil (And.intro (S.sel [0] G G) ?_)
   refine qF H<|qd rfl (fun _ S=>bQ rfl (by omega))<|qr 1 rfl<|qK ?_;clear H a;intro a H
   refine aL H G G G G (fun _ S=>aJ rfl) ?_;clear H a;intro a H
   refine aL H G G G G (fun _ S=>aJ rfl) ?_;clear H a;intro a H
   refine aL H G G G G (fun _ S=>aW dT dF G G (hl.adr (by omega)) (by omega)) ?_;clear H a;intro a H
   refine aL H G G G G (fun _ S=>(bJ dH rfl)) ?_;clear H a;intro a H
   refine aL H G G G G (fun _ S=>aE aA rfl (hl.rd S (by omega) (by omega))) ?_;clear H a;intro a H
   refine aL H G G G G (fun _ S=>(aF cS rfl)) ?_;clear H a;intro a H
   refine aL H G G G G (fun _ S=>aE dY rfl (boxM.rd S (i:=0) G G)) ?_;clear H a;intro a H
   refine aL H G G G G (fun _ S=>dM cJ rfl) ?_;clear H a;intro a H
   refine aL H G G G G (fun _ S=>aO G G (by unfold i64ok;omega)) ?_;clear H a;intro a H
   refine aZ rfl ?_
   refine bT H G G ?_
   refine aC H G G Try.func33 G G (cO _ _ _ _) ?_;clear H a
   rintro _ _ a ⟨rfl,rfl⟩ H
   refine wpList_nil (And.intro (S.sel [0] G G) ?_)
   refine aL H G G G G (fun _ S=>bQ rfl (by omega)) ?_;clear H a;intro a H
   refine qF H<|qd rfl (fun _ S=>(cL G G G))<|qr 1 rfl<|qK ?_;clear H a;intro a H
   refine aL H G G G G (fun _ S=>aJ rfl) ?_;clear H a;intro a H
   refine aL H G G G G (fun _ S=>aJ rfl) ?_;clear H a;intro a H
   refine aL H G G G G (fun _ S=>aW dT dF G G (hl.adr (by omega)) (by omega)) ?_;clear H a;intro a H
   refine aL H G G G G (fun _ S=>(bJ fO rfl)) ?_;clear H a;intro a H
   refine aL H G G G G (fun _ S=>aE aA rfl (hl.rd S (by omega) (by omega))) ?_;clear H a;intro a H
   refine aZ rfl ?_
   refine bT H G G ?_
   refine aC H G G Try.func33 G G (cO _ _ _ _) ?_;clear H a
   rintro _ _ a ⟨rfl,rfl⟩ H
   refine wpList_nil (And.intro (S.sel [0] G G) ?_)
   refine aL H G G G G (fun _ S=>bQ rfl (by omega)) ?_;clear H a;intro a H
   refine qF H<|qd rfl (fun _ S=>(cL G G G))<|qr 1 rfl<|qK ?_;clear H a;intro a H
   refine aL H G G G G (fun _ S=>aJ rfl) ?_;clear H a;intro a H
   refine aL H G G G G (fun _ S=>pG G G (by omega)) ?_;clear H a;intro a H
   refine aL H G G G G (fun _ S=>aJ rfl) ?_;clear H a;intro a H
   refine aQ H G G G G G ?_;clear H a;intro a H
   refine aQ H G G G G G ?_;clear H a;intro a H
   refine aQ H G G G G G ?_;clear H a;intro a H
   refine aQ H G G G G G ?_;clear H a;intro a H
   refine aQ H G G G G G ?_;clear H a;intro a H
   refine aQ H G G G G G ?_;clear H a;intro a H
   refine aQ H G G G G G ?_;clear H a;intro a H
   refine aQ H G G G G G ?_;clear H a;intro a H
   refine aQ H G G G G G ?_;clear H a;intro a H
   refine aQ H G G G G G ?_;clear H a;intro a H
   refine aQ H G G G G G ?_;clear H a;intro a H
   refine aL H G G G G (fun _ S=>(bD G G G)) ?_;clear H a;intro a H
   refine qF H<|qd rfl (fun _ S=>(cL G G G))<|qK ?_;clear H a;intro a H
   refine cM ?_
   refine k21 _ _ ?_
   clear k21 K21
   refine aT H rfl (fun hc7=>?_) (fun hc7=>?_)
   ·skip
    skip
    cases hc7
   skip
   refine wp_skip ?_
   refine k14 _ _ ?_
   replace H:=H.keep [1,2,6] rfl
   refine sO H<|sr 1 rfl<|sd (aI G G (by unfold i64ok;omega))<|sr 1 rfl<|sE ?_;clear H a;intro a H
   exact k11 (g1-1) (k+1) a _ (by omega) (by first|exact ⟨by omega,by omega,eY (f:=tskB y l) hp.2.2 (mH hB)⟩|exact ⟨by omega,by omega,eY (f:=tskB y l) hp.2.2 (mI hB hc8)⟩) (S.sel [0] G G) (H.keep [6,1,2] rfl)
  skip
  replace H:=H.keep [1,2,6] rfl
  replace S:=S.drew
  refine dP [(0,true),(1,true),(2,true),(3,true),(4,true),(5,true),(6,true),(7,true),(8,false),(9,true),(10,true),(11,true),(12,true),(13,true),(14,true),(15,true),(16,true),(17,true),(18,true),(19,true),(20,false),(21,true),(22,true),(23,true),(24,true),(25,true),(26,true),(27,true),(28,true),(29,false),(30,true),(31,true),(32,true),(33,true),(34,true),(35,true),(36,true),(37,true),(38,true),(39,true),(40,true),(41,true),(42,true),(43,true),(44,true),(45,false),(46,true),(47,true),(48,true)] (by kernel_rfl) (by kernel_rfl) (S.sel [0] G G) fun K23 k23=>?_
  refine qF H<|qr 2 rfl<|qd rfl (fun _ S=>aW dT dF G G (hl.adr (by omega)) (by omega))<|qd rfl (fun _ S=>(bJ cT rfl))<|qd rfl (fun _ S=>aE aA rfl (hl.rd S (by omega) (by omega)))<|qd rfl (fun _ S=>(aF cN rfl))<|qd rfl (fun _ S=>aE aA rfl (boxM.rd S (i:=0) G G))<|qd rfl (fun _ S=>aO G G (by unfold i64ok;omega))<|qK ?_;clear H a;intro a H
  refine aZ rfl ?_
  refine aC H G G Try.func33 G G (cO _ _ _ _) ?_;clear H a
  rintro _ _ a ⟨rfl,rfl⟩ H
  refine wpList_nil (And.intro (S.sel [0] G G) ?_)
  refine qF H<|qd rfl (fun _ S=>bQ rfl (by omega))<|qr 1 rfl<|qK ?_;clear H a;intro a H
  refine aL H G G G G (fun _ S=>aJ rfl) ?_;clear H a;intro a H
  refine aL H G G G G (fun _ S=>aJ rfl) ?_;clear H a;intro a H
  refine aL H G G G G (fun _ S=>aW dT dF G G (hl.adr (by omega)) (by omega)) ?_;clear H a;intro a H
  refine aL H G G G G (fun _ S=>(bJ dH rfl)) ?_;clear H a;intro a H
  refine aL H G G G G (fun _ S=>aE aA rfl (hl.rd S (by omega) (by omega))) ?_;clear H a;intro a H
  refine aL H G G G G (fun _ S=>(aF cS rfl)) ?_;clear H a;intro a H
  refine aL H G G G G (fun _ S=>aE dY rfl (boxM.rd S (i:=0) G G)) ?_;clear H a;intro a H
  refine aL H G G G G (fun _ S=>dM cJ rfl) ?_;clear H a;intro a H
  refine aL H G G G G (fun _ S=>aO G G (by unfold i64ok;omega)) ?_;clear H a;intro a H
  refine aZ rfl ?_
  refine bT H G G ?_
  refine aC H G G Try.func33 G G (cO _ _ _ _) ?_;clear H a
  rintro _ _ a ⟨rfl,rfl⟩ H
  refine wpList_nil (And.intro (S.sel [0] G G) ?_)
  refine aL H G G G G (fun _ S=>bQ rfl (by omega)) ?_;clear H a;intro a H
  refine qF H<|qd rfl (fun _ S=>(cL G G G))<|qr 1 rfl<|qK ?_;clear H a;intro a H
  refine aL H G G G G (fun _ S=>aJ rfl) ?_;clear H a;intro a H
  refine aL H G G G G (fun _ S=>aJ rfl) ?_;clear H a;intro a H
  refine aL H G G G G (fun _ S=>aW dT dF G G (hl.adr (by omega)) (by omega)) ?_;clear H a;intro a H
  refine aL H G G G G (fun _ S=>(bJ fO rfl)) ?_;clear H a;intro a H
  refine aL H G G G G (fun _ S=>aE aA rfl (hl.rd S (by omega) (by omega))) ?_;clear H a;intro a H
  refine aZ rfl ?_
  refine bT H G G ?_
  refine aC H G G Try.func33 G G (cO _ _ _ _) ?_;clear H a
  rintro _ _ a ⟨rfl,rfl⟩ H
  refine wpList_nil (And.intro (S.sel [0] G G) ?_)
  refine aL H G G G G (fun _ S=>bQ rfl (by omega)) ?_;clear H a;intro a H
  refine qF H<|qd rfl (fun _ S=>(cL G G G))<|qr 1 rfl<|qK ?_;clear H a;intro a H
  refine aL H G G G G (fun _ S=>aJ rfl) ?_;clear H a;intro a H
  refine aL H G G G G (fun _ S=>pF G G (by omega)) ?_;clear H a;intro a H
  refine aL H G G G G (fun _ S=>aJ rfl) ?_;clear H a;intro a H
  refine aL H G G G G (fun _ S=>aJ rfl) ?_;clear H a;intro a H
  refine aL H G G G G (fun _ S=>aJ rfl) ?_;clear H a;intro a H
  refine aL H G G G G (fun _ S=>aO G G (by unfold i64ok;omega)) ?_;clear H a;intro a H
  refine aL H G G G G (fun _ S=>bZ dT dF G G (hl.adr (by omega)) (by omega) (by omega)) ?_;clear H a;intro a H
  refine aL H G G G G (fun _ S=>(aS mW dF rfl S hl (by omega) (by omega))) ?_;clear H a;intro a H
  refine aL H G G G G (fun _ S=>aJ rfl) ?_;clear H a;intro a H
  refine aL H G G G G (fun _ S=>aJ rfl) ?_;clear H a;intro a H
  refine aL H G G G G (fun _ S=>aW dT dF G G (hl.adr (by omega)) (by omega)) ?_;clear H a;intro a H
  refine aL H G G G G (fun _ S=>(aS mW dF rfl S hl (by omega) (by omega))) ?_;clear H a;intro a H
  refine aZ rfl ?_
  refine bT H G G ?_
  refine aC H G G Try.func34 G G (Hl (l.getD ((k:Int)-1).toNat Tsk.zero) (l.getD k Tsk.zero) _) ?_;clear H a
  rintro _ _ a ⟨rfl,S2⟩ H
  replace S:=S.call S2;clear S2
  refine wpList_nil (And.intro (S.sel [0] G G) ?_)
  refine aL H G G G G (fun _ S=>jW rfl) ?_;clear H a;intro a H
  refine aL H G G G G (fun _ S=>(nO G G G)) ?_;clear H a;intro a H
  refine qF H<|qd rfl (fun _ S=>(cL G G G))<|qK ?_;clear H a;intro a H
  refine cM ?_
  refine k23 _ _ ?_
  clear k23 K23
  refine aT H rfl (fun hc8=>?_) (fun hc8=>?_)
  ·skip
   try simp only [o1,o2,o3,o4,o5,o6,o7,o8,o9,oa] at hc8
   replace hc8:befB (l.getD ((k:Int)-1).toNat Tsk.zero) (l.getD k Tsk.zero)=false:=by simpa using hc8
   replace H:=H.keep [] rfl
   refine sS H fun K24 k24=>sr 1 rfl<|sE ?_;clear H a;intro a H
   refine k24 _ ?_;clear k24 K24
   refine wp_ret ?_
   refine ret1 (fn:=Try.f10) rfl H rfl ?_
   rw [gL hye (by omega) (show k<l.length by omega) (zL hB hc8)];exact ⟨rfl,(S.sel [] G G)⟩
  try simp only [o1,o2,o3,o4,o5,o6,o7,o8,o9,oa] at hc8
  replace hc8:befB (l.getD ((k:Int)-1).toNat Tsk.zero) (l.getD k Tsk.zero)=true:=by simpa using hc8
  refine wp_skip ?_
  refine k14 _ _ ?_
  refine sO H<|sr 1 rfl<|sd (aI G G (by unfold i64ok;omega))<|sr 1 rfl<|sE ?_;clear H a;intro a H
  exact k11 (g1-1) (k+1) a _ (by omega) (by first|exact ⟨by omega,by omega,eY (f:=tskB y l) hp.2.2 (mH hB)⟩|exact ⟨by omega,by omega,eY (f:=tskB y l) hp.2.2 (mI hB hc8)⟩) (S.sel [0] G G) (H.keep [6,1,2] rfl)
 refine wp_exit ?_
 refine k9 _ _ ?_
 refine sS H fun K26 k26=>sr 1 rfl<|sE ?_;clear H a;intro a H
 refine k26 _ ?_;clear k26 K26
 refine wp_ret ?_
 refine ret1 (fn:=Try.f10) rfl H rfl ?_
 rw [oV hye (by omega) (bB.2 fun q hq=>hp.2.2 q (by omega))];exact ⟨rfl,(S.sel [] G G)⟩
end
end Go.Proofs.Ytopmadlgolnmfaa
