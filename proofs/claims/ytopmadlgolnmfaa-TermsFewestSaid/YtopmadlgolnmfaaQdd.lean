/- Part 4 of the proof. -/
import Derived.Test.YtopmadlgolnmfaaQdc
namespace Go.Proofs.Ytopmadlgolnmfaa
open Go.RowKit
set_option linter.unusedVariables false
set_option linter.unusedSimpArgs false
set_option maxRecDepth 100000
set_option maxHeartbeats 4000000
section
theorem six {p:Nat→Prop} (h0:p 0) (h1:p 1) (h2:p 2) (h3:p 3) (h4:p 4) (h5:p 5):∀ j,j<6→p j:=by
  intro j hj
  match j,hj with
  | 0,_=>exact h0
  | 1,_=>exact h1
  | 2,_=>exact h2
  | 3,_=>exact h3
  | 4,_=>exact h4
  | 5,_=>exact h5
theorem vD {l:List Use} {x:Use} {vs:List Value} (h:∀ j,j<6→vs.getD j undef=x.cell j):∀ q j,q<l.length+1→j<6→capp l.length (ucell l) (fun k' j=>([vs].getD k' []).getD j undef) q j=ucell (l++[x]) q j:=by
  intro q j hq hj
  unfold capp ucell
  by_cases h1:q<l.length
  · rw [if_pos h1,List.getD_eq_getElem?_getD,List.getD_eq_getElem?_getD,List.getElem?_append_left h1]
  · rw [if_neg h1]
    have e:q=l.length:=by omega
    subst e
    rw [Nat.sub_self,List.getD_eq_getElem?_getD (l:=l++[x]),List.getElem?_append_right (Nat.le_refl _),Nat.sub_self]
    exact h j hj
theorem Sj {w:World} {p:Part} {l:List Use} {v:Value} {w':World} (h:v = .tuple #[.int .i64 (eB p l Prod.snd).1,.int .i64 (eB p l Prod.snd).2]∧St w noF [] w'):∃ n e:Int,v = .tuple #[.int .i64 n,.int .i64 e]∧bydB p l=(!decide (e=0)||decide (0≤n))∧St w noF [] w':=⟨_,_,h.1,rfl,h.2⟩
theorem Nh {w:World} {F:Nat→Prop} {sz n:Nat} {A:Option Addr} {cell:Nat→Nat→Value} (h:InS w F sz A n cell):A=none→n=0∧n=0:=fun e=>by
  rcases Nat.eq_zero_or_pos n with h0|h0
  · exact ⟨h0,h0⟩
  · obtain ⟨b,o,h1,_⟩:=h h0
    rw [e] at h1;cases h1
theorem Ig (u:Unt) (l:List Use) (LA:Option Addr) (lc:Nat) (age:Int) (w:World) (hur:InS w noF 2 u.RA u.rates.length (scell u.rates)) (hurn:u.rates.length≤9223372036854775807) (huu:InS w noF 6 u.UA u.uses.length (ucell u.uses)) (huun:u.uses.length≤9223372036854775807) (hl:InS w noF 6 LA l.length (ucell l)) (hln:l.length≤1000000) (hlc:l.length≤lc) :
    Calls Try.prog 102 [.agg [.int .i64 u.mach,.int .i64 u.every,.int .i64 u.seen,.slice u.RA u.rates.length u.rc,.int .i64 u.worn,.int .i64 u.turns,.int .i64 u.age,.slice u.UA u.uses.length u.uc,.int .i64 u.old,.int .i64 u.tn,.int .i64 u.cl,.int .i64 u.kind].toArray,.slice LA l.length lc,.int .i64 age].toArray w (Ret (fun v w'=>v = .bool (bydB u.part (l++[⟨age,u.tn,u.cl,false,0,0⟩]))∧St w noF [] w')):=by
 refine enter Try.func102 rfl Try.ntmps102 rfl (fun a H=>?_)
 have S:=St.start w
 refine aA fun K1 k1=>?_
 refine aO H rfl S G G ?_;clear H a S;intro b3 _ a hb3 hbw3 S H
 refine ls 1 H<|sr 1 rfl<|sE ?_;clear H a;intro a H
 refine k1 _ _ ?_;clear k1 K1
 replace H:=H.keep [1,2,3] rfl
 refine aA fun K2 k2=>?_
 refine ls 6 H<|sr 1 rfl<|sf rN rfl<|sl S 0 aC G G G<|sf rO rfl<|sl S 0 aC G G G<|sd (aM Up G G)<|sE ?_;clear H a;intro a H
 refine aN H rfl S mY ?_;clear H a S;intro b7 _ a hb7 hbw7 S H
 refine aH H S (i:=0) G G G G eO G G ?_
 clear H a S;intro _ a S H
 refine k2 _ _ ?_;clear k2 K2
 replace H:=H.keep [1,3,7] rfl
 replace S:=S.drew
 refine sW 999999 (.q 0 (.q 1 (.q 2 (.q 3 (.q 4 (.q 5 (.q 6 (.q 7 (.q 8 (.e 9 (.e 10 (.e 11 (.q 12 (.q 13 (.q 14 (.q 15 (.q 16 .nil))))))))))))))))) (by kernel_rfl) (by kernel_rfl) (S.sel [0,1] G G) fun K3 k3=>?_
 refine aG H G G (fun _ S=>(aF mL rfl)) ?_;clear H a;intro a H
 refine aG H G G (fun _ S=>(aD eT fY rfl S (i:=1) G G)) ?_;clear H a;intro a H
 refine aG H G G (fun _ S=>aJ rfl) ?_;clear H a;intro a H
 refine aG H G G (fun _ S=>aJ rfl) ?_;clear H a;intro a H
 refine aG H G G (fun _ S=>cX dI rfl) ?_;clear H a;intro a H
 refine aG H G G (fun _ S=>aJ rfl) ?_;clear H a;intro a H
 refine aG H G G (fun _ S=>cX dI rfl) ?_;clear H a;intro a H
 refine aG H G G (fun _ S=>qY dI eO G G G hlc) ?_;clear H a;intro a H
 refine aG H G G (fun _ S=>(aD lO eO rfl S (i:=0) G G)) ?_;clear H a;intro a H
 refine bD rfl ?_
 refine aK H rfl S dI eO mY G G G G G G G G G ?_;clear H a S;intro A1 _ a hA1 S H
 refine wpList_nil (And.intro (Or.inr (S.sel [1,2] G G)) ?_)
 refine bD rfl ?_
 refine pF H rfl S dI eO mY Ul G G G G (n:=l.length) (cell:=ucell l) (cell':=_) (hl.now S) (Nh (hl.now S)) (by omega) (by omega) (ownM.inS S (i:=0) rfl) (qD (six G G G G G G)) (by omega) (by omega) ?_;clear H a S;intro A2 c2 _ a S H
 replace S:=S.recell (i:=0) rfl (cell':=ucell (l++[⟨age,u.tn,u.cl,false,0,0⟩])) (vD (x:=⟨age,u.tn,u.cl,false,0,0⟩) (six G G G G G G))
 refine wpList_nil (And.intro (Or.inr (S.sel [2,3] G G)) ?_)
 refine bD rfl ?_
 rw [show l.length+1=(l++[(⟨age,u.tn,u.cl,false,0,0⟩:Use)]).length by simp] at H S
 have hcl9:=eJ (yF u.rates u.worn u.turns u.age u.RA u.rc (l++[⟨age,u.tn,u.cl,false,0,0⟩]) A2 c2 _ (hur.now S) hurn ((ownM.inS S (i:=0) rfl)) (by simp;omega)) (fun _ _ h=>Sj h)
 refine aB H G G Try.func52 G G hcl9 ?_;clear H a hcl9
 rintro _ _ a ⟨n9,e9,rfl,hb9,S2⟩ H
 replace S:=S.call S2;clear S2
 refine wpList_nil (And.intro (Or.inr (S.sel [2,3] G G)) ?_)
 refine aG H G G (fun _ S=>aJ rfl) ?_;clear H a;intro a H
 refine aG H G G (fun _ S=>cA G G) ?_;clear H a;intro a H
 refine aG H G G (fun _ S=>cA G G) ?_;clear H a;intro a H
 refine aG H G G (fun _ S=>eG rfl) ?_;clear H a;intro a H
 refine aG H G G (fun _ S=>eG rfl) ?_;clear H a;intro a H
 refine eL ?_
 refine k3 _ _ ?_
 clear k3 K3
 replace H:=H.keep [8,9] rfl
 refine sS H fun K4 k4=>sr 3 rfl<|sg 2 2 33 35 false G G (fun hg3=>sy hg3<|sr 1 rfl<|sy hg3<|sr 1 rfl<|sz 2 G G G)<|so G G G<|sr 1 rfl<|sE ?_;clear H a;intro a H
 refine k4 _ ?_;clear k4 K4
 refine wp_ret ?_
 refine ret1 (fn:=Try.f102) rfl H rfl ?_
 exact ⟨congrArg Value.bool hb9.symm,(S.sel [] G G)⟩
theorem Sk (u:Unt) (J:Nat→Int) (dy:Nat) (w:World) (hur:InS w noF 2 u.RA u.rates.length (scell u.rates)) (hurn:u.rates.length≤9223372036854775807) (huu:InS w noF 6 u.UA u.uses.length (ucell u.uses)) (huun:u.uses.length≤9223372036854775807) (hucp:u.uses.length≤u.uc) (hui:untI u) (ho0:0≤u.old) (hJ:∀ d,0≤J d∧J d≤6) (hdy:dy≤20) :
    Calls Try.prog 87 [.agg [.int .i64 u.mach,.int .i64 u.every,.int .i64 u.seen,.slice u.RA u.rates.length u.rc,.int .i64 u.worn,.int .i64 u.turns,.int .i64 u.age,.slice u.UA u.uses.length u.uc,.int .i64 u.old,.int .i64 u.tn,.int .i64 u.cl,.int .i64 u.kind].toArray,.agg ((List.range 20).map fun k=>Value.int .i64 (J k)).toArray,.int .i64 (dy:Int)].toArray w (Ret (fun v w'=>v = .agg [.int .i64 (bsum (runB' u J) dy),.int .i64 (bsum (certB u J) dy)].toArray∧St w noF [] w')):=by
 have hmx:maxLen=9223372036854775807:=rfl
 unfold untI at hui
 refine enter Try.func87 rfl Try.ntmps87 rfl (fun a H=>?_)
 have S:=St.start w
 refine aA fun K1 k1=>?_
 refine aO H rfl S G G ?_;clear H a S;intro b3 _ a hb3 hbw3 S H
 refine aO H rfl S G G ?_;clear H a S;intro b4 _ a hb4 hbw4 S H
 refine aN H rfl S pV ?_;clear H a S;intro b6 _ a hb6 hbw6 S H
 refine k1 _ _ ?_;clear k1 K1
 replace S:=Rv S (i:=1) rfl (by omega)
 refine aA fun K2 k2=>?_
 refine aN H rfl S pV ?_;clear H a S;intro b7 _ a hb7 hbw7 S H
 refine k2 _ _ ?_;clear k2 K2
 replace H:=H.keep [2,3,4,6,7] rfl
 replace S:=S.drew
 refine sD H fun K3 k3=>sf gZ rfl<|sl S 3 jI G G G<|sf rM rfl<|sl S 3 aC G G G<|sd (Jo rfl (by unfold i64ok;omega))<|sf xQ rfl<|sl S 3 aC G G G<|sr 3 rfl<|sE ?_;clear H a;intro a H
 refine k3 _ ?_;clear k3 K3
 refine wp_seq_k fun K4 k4=>?_
 replace H:=H.keep [2,3,4,6,7,8,9,10] rfl
 refine sS H fun K5 k5=>sr 2 rfl<|sE ?_;clear H a;intro a H
 refine k5 _ ?_;clear k5 K5
 refine wp_block ?_
 replace S:=S.frz0
 refine loop_st (X:=Nat×LSt×Option Addr×Nat×(Nat→Prop)×World) (R0:=_) [3,4,6,7,21] H rfl (fun ⟨d,st,A9,c9,B9,wz⟩=>[(8,.slice A9 st.uses.length c9),(9,.int .i64 st.born),(10,.int .i64 st.seen),(22,.int .i64 (d:Int))]) (fun ⟨d,st,A9,c9,B9,wz⟩=>[boxM b7 101 [.int .i64 (bsum (runB' u J) d),.int .i64 (bsum (certB u J) d)],frzM B9 wz]) (fun g ⟨d,st,A9,c9,B9,wz⟩=>(d≤dy∧g+d=dy)∧(RdF w noF B9 wz 6 A9 st.uses.length (ucell st.uses)∧st.uses.length≤c9)∧st=lifeS u J d) (dy) (0,lifeS u J 0,u.UA,u.uc,noF,_) ?_ (S.sel [1,0,2,3,4] G G) (H.keep [8,9,10,22,3,4,6,7,21] rfl) ?_
 · exact ⟨⟨by omega,by omega⟩,⟨RdF.base huu,hucp⟩,rfl⟩
 clear H S a
 intro g1 x1 a w1 hp S H K6 k6
 obtain ⟨d,st,A9,c9,B9,wz⟩:=x1
 dsimp only at hp S H
 obtain ⟨⟨hdl,hgd⟩,⟨hrd,hcap⟩,hst9⟩:=hp
 subst hst9
 have hln:=Hu (u:=u) (J:=J) d
 have hbo:=Dg (u:=u) (J:=J) (by omega) d
 have hsn:=Dh (u:=u) (J:=J) (by omega) d
 skip
 refine sS H fun K7 k7=>sr 1 rfl<|sE ?_;clear H a;intro a H
 refine k7 _ ?_;clear k7 K7
 refine wp_seq_k fun K8 k8=>?_
 refine condL H rfl (fun hc1=>?_) (fun hc1=>?_)
 ·skip
  refine wp_skip ?_
  refine k8 _ _ ?_
  refine wp_seq_k fun K9 k9=>?_
  refine wp_block ?_
  refine sS H fun K10 k10=>sr 2 rfl<|sE ?_;clear H a;intro a H
  refine k10 _ ?_;clear k10 K10
  have hJd:=hJ d
  replace H:=H.keep [3,4,6,7,8,9,10,11,21,22] rfl
  replace S:=S.drew
  refine sD H fun K11 k11=>sr 1 rfl<|sd (cP Try.underlying150 bE G G (by omega) (by omega))<|slm aC rfl (ownM.rd S (i:=3) (k:=d) (j:=0) rfl (by omega) (by omega))<|sd (lB G G (by omega) (by omega))<|sd (jY G G)<|sr 2 rfl<|sd (cP Try.underlying150 bE G G (by omega) (by omega))<|slm aC rfl (ownM.rd S (i:=3) (k:=d) (j:=0) rfl (by omega) (by omega))<|sd (lB G G (by omega) (by omega))<|sd (jY G G)<|sr 3 rfl<|sE ?_;clear H a;intro a H
  refine k11 _ ?_;clear k11 K11
  have SR:=(S.sel [0,1,2,3,4] G G)
  refine fH (X:=Int) [3,4,6,7,8,9,11,13,21,22] H rfl (fun x=>[(10,.int .i64 x)]) (fun x=>[]) (fun x=>x=seenN (lifeS u J d) (J d) d) SR (fun K13 k13=>?_) ?_
  ·skip
   replace H:=H.keep [3,4,6,7,8,9,10,11,12,13,21,22] rfl
   refine sS H fun K14 k14=>sr 1 rfl<|sE ?_;clear H a;intro a H
   refine k14 _ ?_;clear k14 K14
   refine condE H rfl (fun hc2=>?_) (fun hc2=>?_)
   ·skip
    refine sO H<|sr 2 rfl<|sE ?_;clear H a;intro a H
    exact k13 _ a _ ((if_pos (show insp (J d)=true from decide_eq_true hc2)).symm) (S.sel [0,1,2,3,4] G G) (H.keep [10,3,4,6,7,8,9,11,13,21,22] rfl)
   refine wp_skip ?_
   exact k13 _ a _ ((if_neg (show ¬ insp (J d)=true from fun h=>hc2 (of_decide_eq_true h))).symm) (S.sel [0,1,2,3,4] G G) (H.keep [10,3,4,6,7,8,9,11,13,21,22] rfl)
  clear SR H S a
  intro xm a wm hp S H
  obtain ⟨x,rfl⟩:∃ y,y=xm:=⟨_,rfl⟩
  have hx9:=hp
  have hxb:=Ao (s:=(lifeS u J d)) (j:=J d) (d:=d) hsn
  rw [←hx9] at hxb
  have SR:=(S.sel [1,2,3,4] G G)
  refine fH (X:=Unit) [3,4,6,7,8,9,10,11,13,21,22] H rfl (fun u3=>[]) (fun u3=>[boxM b7 101 [.int .i64 (bsum (runB' u J) d),.int .i64 (bsum (certB u J) (d+1))]]) (fun u3=>True) SR (fun K17 k17=>?_) ?_
  ·skip
   refine sS H fun K18 k18=>sr 2 rfl<|sd (aP G G (by unfold i64ok;omega))<|sf rL rfl<|sl S 4 aC G G G<|sr 1 rfl<|sE ?_;clear H a;intro a H
   refine k18 _ ?_;clear k18 K18
   refine condG H rfl (fun hc3=>?_) (fun hc3=>?_)
   ·skip
    replace H:=H.keep [3,4,6,7,8,9,10,11,13,21,22] rfl
    refine lF 6 (by kernel_rfl) (by kernel_rfl) ?_
    replace S:=S.drew
    refine sF H<|sf zH rfl<|sl S 0 aC G G G<|sr 1 rfl<|sd (nZ G G (by omega) (by omega) (Df (by omega)))<|sd (uV G G (wL _ (by omega)) (by omega) (Fd (Nat.le_refl d)))<|sf zH rfl<|sE ?_;clear H a;intro a H
    refine aH H S (i:=0) G G G G bE G G ?_
    clear H a S;intro _ a S H
    replace S:=boxM.same S (i:=0) rfl (cs':=[.int .i64 (bsum (runB' u J) d),.int .i64 (bsum (certB u J) (d+1))]) (by rw [←Mm (f:=certB u J) (n:=d) ((Aq u J d x hx9).symm.trans (decide_eq_true hc3))] <;> rfl)
    exact k17 () a _ (trivial) (S.sel [0,1,2,3,4] G G) (H.keep [3,4,6,7,8,9,10,11,13,21,22] rfl)
   refine wp_skip ?_
   replace S:=boxM.same S (i:=0) rfl (cs':=[.int .i64 (bsum (runB' u J) d),.int .i64 (bsum (certB u J) (d+1))]) (by rw [←Mn (f:=certB u J) (n:=d) ((Aq u J d x hx9).symm.trans (decide_eq_false (by omega)))] <;> rfl)
   exact k17 () a _ (trivial) (S.sel [0,1,2,3,4] G G) (H.keep [3,4,6,7,8,9,10,11,13,21,22] rfl)
  clear SR H S a
  intro xm a wm hp S H
  obtain ⟨u3,rfl⟩:∃ y,y=xm:=⟨_,rfl⟩
  skip
  have SR:=(S.sel [2,3,4] G G)
  refine fH (X:=Option Addr×Nat×(Nat→Prop)×World) [3,4,6,7,9,10,11,13,21,22] H rfl (fun ⟨A8,c8,B8,wy⟩=>[(8,.slice A8 (usesN u J d).length c8)]) (fun ⟨A8,c8,B8,wy⟩=>[boxM b7 101 [.int .i64 (bsum (runB' u J) (d+1)),.int .i64 (bsum (certB u J) (d+1))],frzM B8 wy]) (fun ⟨A8,c8,B8,wy⟩=>RdF w noF B8 wy 6 A8 (usesN u J d).length (ucell (usesN u J d))∧(usesN u J d).length≤c8) SR (fun K21 k21=>?_) ?_
  ·skip
   replace H:=H.keep [3,4,6,7,8,9,10,11,13,21,22] rfl
   refine aA fun K22 k22=>?_
   refine ls 13 H<|sr 1 rfl<|sd (cP Try.underlying150 bE G G (by omega) (by omega))<|slm aC rfl (ownM.rd S (i:=3) (k:=d) (j:=0) rfl (by omega) (by omega))<|sr 2 rfl<|sg 6 4 55 61 true G G (fun hg5=>sy hg5<|sr 1 rfl<|sy hg5<|sr 1 rfl<|sy hg5<|sd (aP G G (by unfold i64ok;omega))<|sy hg5<|sf rL rfl<|sy hg5<|sl S 4 aC G G G<|sy hg5<|sr 1 rfl<|sz 6 G G G)<|sa G G G<|sr 1 rfl<|sE ?_;clear H a;intro a H
   apply cR (i:=12) (g:=63) (t:=70) (b:=true) 7 H S G G (by kernel_rfl) (by kernel_rfl) G G
   case h1=>
    intro hg13
    refine ls 5 H<|sy hg13<|sd ((aD pU dY rfl S (i:=4) G G))<|sy hg13<|sr 1 rfl<|sy hg13<|sr 1 rfl<|sy hg13<|sr 1 rfl<|sy hg13<|sd (aP G G (by unfold i64ok;omega))<|sE ?_;intro a H
    refine dV H G G (by assumption) ?_
    refine aB H G G Try.func102 G G (Ig u (lifeS u J d).uses A9 c9 ((d:Int)-(lifeS u J d).born) _ (hur.now S) hurn (huu.now S) huun (hrd.now S (i:=1) rfl) (by omega) hcap) ?_
    rintro _ _ a ⟨rfl,S2⟩ H
    replace S:=S.call S2;clear S2
    refine ls 1 H<|sy hg13<|sr 1 rfl<|sE ?_;intro a H
    exact wpList_nil ⟨H.strip 7 G G,(S.sel [0,1,2,3,4] G G)⟩
   clear H a S;intro a _ H S
   refine ls 1 H<|sa G G G<|sE ?_;clear H a;intro a H
   refine k22 _ _ ?_;clear k22 K22
   refine aR H rfl (fun hc4=>?_) (fun hc4=>?_)
   ·skip
    rw [Fe u J d x hx9] at hc4
    replace H:=H.keep [3,4,6,7,8,9,10,11,13,21,22] rfl
    refine lE 6 (by kernel_rfl) (by kernel_rfl) fun K23 k23=>?_
    replace S:=S.drew
    refine sF H<|sf tE rfl<|sl S 0 aC G G G<|sr 1 rfl<|sd (nZ G G (by omega) (by omega) (Df (by omega)))<|sd (uV G G (wL _ (by omega)) (by omega) (Fd (Nat.le_refl d)))<|sf tE rfl<|sE ?_;clear H a;intro a H
    refine aH H S (i:=0) G G G G bE G G ?_
    clear H a S;intro _ a S H
    refine k23 _ _ ?_;clear k23 K23
    replace H:=H.keep [3,4,6,7,8,9,10,11,13,21,22] rfl
    replace S:=S.drew
    refine one_wq [(0,true),(1,true),(2,true),(3,true),(4,true),(5,true),(6,true),(7,true),(8,true),(9,true),(10,true),(11,true),(12,true),(13,true),(14,false),(15,false),(16,true)] (by kernel_rfl) (by kernel_rfl) (S.sel [0,1,2,3,4] G G) ?_
    refine qF H<|qr 2 rfl<|qd rfl (fun _ S=>cX dI rfl)<|qr 1 rfl<|qd rfl (fun _ S=>cX dI rfl)<|qd rfl (fun _ S=>qY dI eO G G G hcap)<|qr 2 rfl<|qd rfl (fun _ S=>aP G G (by unfold i64ok;omega))<|qd rfl (fun _ S=>(aF rN rfl))<|qd rfl (fun _ S=>aE aC rfl (boxM.rd S (i:=4) G G))<|qd rfl (fun _ S=>(aF rO rfl))<|qd rfl (fun _ S=>aE aC rfl (boxM.rd S (i:=4) G G))<|qd rfl (fun _ S=>aM Up G G)<|qK ?_;clear H a;intro a H
    refine aX rfl ?_
    refine aK H rfl S dI eO mY G G G G G G G G G ?_;clear H a S;intro A1 _ a hA1 S H
    refine wpList_nil (And.intro (S.sel [1,2,3,4,5] G G) ?_)
    refine aX rfl ?_
    refine pF H rfl S dI eO mY Ul G G G G (n:=(lifeS u J d).uses.length) (cell:=ucell (lifeS u J d).uses) (cell':=_) (hrd.now S (i:=2) rfl) (Nh (hrd.now S (i:=2) rfl)) (by omega) (by omega) (ownM.inS S (i:=0) rfl) (qD (six G G G G G G)) (by omega) (by omega) ?_;clear H a S;intro A3 c3 _ a S H
    replace S:=S.recell (i:=0) rfl (cell':=ucell ((lifeS u J d).uses++[useAt u d (lifeS u J d).born])) (vD (x:=useAt u d (lifeS u J d).born) (six G G G G G G))
    refine wpList_nil (And.intro (S.sel [2,3,4,5,6] G G) ?_)
    refine qF H<|qr 1 rfl<|qK ?_;clear H a;intro a H
    refine cI ?_
    replace S:=boxM.same S (i:=2) rfl (cs':=[.int .i64 (bsum (runB' u J) (d+1)),.int .i64 (bsum (certB u J) (d+1))]) (by rw [←Mm (f:=runB' u J) (n:=d) hc4] <;> rfl)
    replace S:=(S.sel [0,1,2,3,4,5,6] G G)
    have hle3:=ownM.le S (i:=0) rfl
    obtain ⟨B2,S,hA2,_⟩:=St.freeze S (i:=2) rfl
    rw [show (lifeS u J d).uses.length+1=(usesN u J d).length by unfold usesN;rw [if_pos hc4];simp] at H
    exact k21 (A3,c3,B2,_) a _ (⟨by rw [Ff hc4,List.length_append];exact hA2,by rw [Ff hc4,List.length_append];exact hle3.1⟩) (S.sel [1,2,3,4,5] G G) (H.keep [8,3,4,6,7,9,10,11,13,21,22] rfl)
   rw [Fe u J d x hx9] at hc4
   refine wp_skip ?_
   replace S:=boxM.same S (i:=0) rfl (cs':=[.int .i64 (bsum (runB' u J) (d+1)),.int .i64 (bsum (certB u J) (d+1))]) (by rw [←Mn (f:=runB' u J) (n:=d) hc4] <;> rfl)
   rw [←yH hc4] at H
   exact k21 (A9,c9,B9,wz) a _ (⟨by rw [yH hc4];exact hrd,by rw [yH hc4];exact hcap⟩) (S.sel [0,1,2,3,4] G G) (H.keep [8,3,4,6,7,9,10,11,13,21,22] rfl)
  clear SR H S a
  intro xm a wm hp S H
  obtain ⟨A8,c8,B8,wy⟩:=xm
  rw [show Value.bool (decide (J d/2^(2:Int).toNat%2=1))=Value.bool (renw (J d)) from rfl] at H
  replace H:=H.keep [3,4,6,7,8,9,10,11,13,21,22] rfl
  refine sS H fun K25 k25=>sr 1 rfl<|sE ?_;clear H a;intro a H
  refine k25 _ ?_;clear k25 K25
  refine aR H rfl (fun hc5=>?_) (fun hc5=>?_)
  ·skip
   skip
   refine sO H<|sr 3 rfl<|sE ?_;clear H a;intro a H
   refine k9 _ _ ?_
   refine sO H<|sd (aI G G (by unfold i64ok;omega))<|sr 1 rfl<|sE ?_;clear H a;intro a H
   have hp8:=hp
   exact k6 (g1-1) (d+1,⟨[],(d:Int),x⟩,none,0,B8,wy) a _ (by omega) (⟨⟨by omega,by omega⟩,⟨RdF.nil,Nat.le_refl 0⟩,Wc hc5 hx9⟩) (S.sel [0,1,2,3,4] G G) (H.keep [8,9,10,22,3,4,6,7,21] rfl)
  skip
  refine wp_skip ?_
  refine k9 _ _ ?_
  refine sO H<|sd (aI G G (by unfold i64ok;omega))<|sr 1 rfl<|sE ?_;clear H a;intro a H
  have hp8:=hp
  exact k6 (g1-1) (d+1,⟨usesN u J d,(lifeS u J d).born,x⟩,A8,c8,B8,wy) a _ (by omega) (⟨⟨by omega,by omega⟩,hp8,Wd hc5 hx9⟩) (S.sel [0,1,2,3,4] G G) (H.keep [8,9,10,22,3,4,6,7,21] rfl)
 refine wp_exit ?_
 refine k4 _ _ ?_
 replace H:=H.keep [6,7] rfl
 refine aA fun K29 k29=>?_
 refine ls 1 H<|sd ((aD kO gW rfl S (i:=0) G G))<|sE ?_;clear H a;intro a H
 refine aH H S (i:=2) G G G G gW G G ?_
 clear H a S;intro _ a S H
 refine k29 _ _ ?_;clear k29 K29
 refine wp_ret ?_
 refine retA (fn:=Try.f87) rfl H rfl kO (by exact gW) (cN S (i:=2) rfl) ?_
 obtain rfl:d=dy:=by omega
 exact ⟨rfl,(S.sel [] G G)⟩
end
section
theorem keyOK:KeyOk Try.prog 152 (encN (n:=21)):=
  Fb (Ak Try.underlying152 tC (.cons (by decide) rfl (PartK.int2 Try.underlying3 aC) (.cons (by decide) rfl (PartK.of (Aj Try.underlying150 Kd (PartK.int Try.underlying3 aC) bE)) (.nil 21))) (by kernel_rfl)) (by omega) (by rw [Try.underlying152])
theorem YIn.nowR {w w0:World} {F0:Nat→Prop} {R:List Mem} {y:Yr} (h:YIn w0 F0 y) (S:St w0 F0 R w):YIn w (fps R) y:=
  ⟨h.ps.nowR S,h.xs.nowR S,h.pe.nowR S,h.prs.nowR S,h.us.nowR S,h.sps.nowR S,fun k hk=>(h.rt k hk).nowR S,fun k hk=>(h.ul k hk).nowR S⟩
theorem YOk.days {y:Yr} (h:YOk y):1≤y.days∧y.days≤20:=h.yr.1
theorem YOk.unit {y:Yr} (h:YOk y) {i:Nat} (hi:i<y.us.length):UntOk y.ps y.us (y.us.getD i Unt.zero) i:=iQ.1 (h.un i hi)
theorem YOk.old {y:Yr} (h:YOk y) {i:Nat} (hi:i<y.us.length):0≤(y.us.getD i Unt.zero).old:=by
  have h1:=h.unit hi
  have h2:=vB h1.wear
  have h3:=h1.i
  unfold untI at h3
  omega
theorem rX (y:Yr) (w:World) :
    Calls Try.prog 37 [.agg [.int .i64 y.days,.int .i64 y.pl,.slice y.PA y.ps.length y.pc,.slice y.XA y.xs.length y.xc,.slice y.BA y.pe.length y.bc,.int .i64 y.limit,.bool y.help,.slice y.QA y.prs.length y.qc,.slice y.VA y.us.length y.vc,.int .i64 y.crew,.slice y.SA y.sps.length y.sc].toArray].toArray w (Ret (fun v w'=>∃ cb bl bs bk,v = .pointer (some ⟨cb,0,none⟩)∧St w noF [boxM cb 120 [.int .i64 y.days,.int .i64 y.pl,.slice y.PA y.ps.length y.pc,.slice y.XA y.xs.length y.xc,.slice y.BA y.pe.length y.bc,.int .i64 y.limit,.bool y.help,.slice y.QA y.prs.length y.qc,.slice y.VA y.us.length y.vc,.int .i64 y.crew,.slice y.SA y.sps.length y.sc,.map (some bl),.map (some bs),.map (some bk)],mapK (encN (n:=21)) bl (livP y),mapK (fun n:Int=>Value.int .i64 n) bs (safP y),mapK enc2 bk (kepP y)] w')):=by
 refine enter Try.func37 rfl Try.ntmps37 rfl (fun a H=>?_)
 have S:=St.start w
 refine aA fun K1 k1=>?_
 refine aO H rfl S G G ?_;clear H a S;intro b1 _ a hb1 hbw1 S H
 refine ls 1 H<|sr 1 rfl<|sE ?_;clear H a;intro a H
 refine k1 _ _ ?_;clear k1 K1
 refine aA fun K2 k2=>?_
 refine ls 1 H<|sd ((aD bF aZ rfl S (i:=0) G G))<|sE ?_;clear H a;intro a H
 refine gG (encN (n:=21)) (livP y) Hy H rfl S ?_;clear H a S;intro bl _ a hbl S H
 refine gG (fun n:Int=>Value.int .i64 n) (safP y) Hz H rfl S ?_;clear H a S;intro bs _ a hbs S H
 refine gG enc2 (kepP y) Ia H rfl S ?_;clear H a S;intro bk _ a hbk S H
 refine ls 1 H<|sd (aM Vj G G)<|sE ?_;clear H a;intro a H
 refine aO H rfl S G G ?_;clear H a S;intro b8 _ a hb8 hbw8 S H
 refine ls 1 H<|sr 1 rfl<|sE ?_;clear H a;intro a H
 refine k2 _ _ ?_;clear k2 K2
 refine wp_ret ?_
 refine ret1 (fn:=Try.f37) rfl H rfl ?_
 exact ⟨b8,bl,bs,bk,rfl,(S.sel [0,3,2,1] G G)⟩
theorem Ni (y:Yr) (cb bl bs bk:Nat) (i:Nat) (l:List Tsk) (LA:Option Addr) (lc:Nat) (w:World) (F:Nat→Prop) (S:St w F [boxM cb 120 [.int .i64 y.days,.int .i64 y.pl,.slice y.PA y.ps.length y.pc,.slice y.XA y.xs.length y.xc,.slice y.BA y.pe.length y.bc,.int .i64 y.limit,.bool y.help,.slice y.QA y.prs.length y.qc,.slice y.VA y.us.length y.vc,.int .i64 y.crew,.slice y.SA y.sps.length y.sc,.map (some bl),.map (some bs),.map (some bk)],mapK (encN (n:=21)) bl (livP y),mapK (fun n:Int=>Value.int .i64 n) bs (safP y),mapK enc2 bk (kepP y)] w) (hy:YIn w F y) (hyb:YBd y) (hok:YOk y) (hi:i<y.us.length) (hl:InS w F 3 LA l.length (aV l)) (hln:l.length≤9223372036854775807) (htk:∀ k,k<l.length→tskI y (l.getD k Tsk.zero)) :
    Calls Try.prog 64 [.pointer (some ⟨cb,0,none⟩),.int .i64 (i:Int),.slice LA l.length lc].toArray w (Ret (fun v w'=>v=lifeV (y.us.getD i Unt.zero) (jobF l i) y.days.toNat∧St w F [boxM cb 120 [.int .i64 y.days,.int .i64 y.pl,.slice y.PA y.ps.length y.pc,.slice y.XA y.xs.length y.xc,.slice y.BA y.pe.length y.bc,.int .i64 y.limit,.bool y.help,.slice y.QA y.prs.length y.qc,.slice y.VA y.us.length y.vc,.int .i64 y.crew,.slice y.SA y.sps.length y.sc,.map (some bl),.map (some bs),.map (some bk)],mapK (encN (n:=21)) bl (livP y),mapK (fun n:Int=>Value.int .i64 n) bs (safP y),mapK enc2 bk (kepP y)] w')):=by
 have hmx:maxLen=9223372036854775807:=rfl
 have hdy:=hok.days;have husn:=hyb.usn
 have hD:((y.days.toNat:Nat):Int)=y.days:=by omega
 refine enter Try.func64 rfl Try.ntmps64 rfl (fun a H=>?_)
 skip
 refine aA fun K1 k1=>?_
 refine aN H rfl S pV ?_;clear H a S;intro b6 _ a hb6 hbw6 S H
 refine k1 _ _ ?_;clear k1 K1
 refine aA fun K2 k2=>?_
 refine ls 2 H<|sr 1 rfl<|sd (aM Vk G G)<|sE ?_;clear H a;intro a H
 refine aN H rfl S Kl ?_;clear H a S;intro b7 _ a hb7 hbw7 S H
 refine aH H S (i:=0) G G G G tC G G ?_
 clear H a S;intro _ a S H
 refine k2 _ _ ?_;clear k2 K2
 refine wp_seq_k fun K3 k3=>?_
 replace S:=boxM.same S (i:=0) rfl (cs':=[.int .i64 (i:Int),.int .i64 0,.int .i64 0,.int .i64 0,.int .i64 0,.int .i64 0,.int .i64 0,.int .i64 0,.int .i64 0,.int .i64 0,.int .i64 0,.int .i64 0,.int .i64 0,.int .i64 0,.int .i64 0,.int .i64 0,.int .i64 0,.int .i64 0,.int .i64 0,.int .i64 0,.int .i64 0]) rfl
 replace S:=As S (i:=0) rfl (by show 21≤maxLen;decide)
 replace S:=S.recell (i:=0) rfl (cell':=kcl i (jobP l 0 i)) (fun k j hk hj=>Mr hk hj)
 refine sS H fun K4 k4=>sr 1 rfl<|sL bN rfl<|sr 1 rfl<|sE ?_;clear H a;intro a H
 refine k4 _ ?_;clear k4 K4
 refine wp_block ?_
 refine loop_st (X:=Nat) (R0:=_) [0,1,6,7,14,15] H rfl (fun k=>[(16,.int .i64 (k:Int))]) (fun k=>[ownM 152 1 (some ⟨b7,0,none⟩) 21 21 (kcl i (jobP l k i))]) (fun g k=>k≤l.length∧g+k=l.length) (l.length) 0 ?_ (S.sel [0,1,2,3,4,5] G G) (H.keep [16,0,1,6,7,14,15] rfl) ?_
 · exact ⟨by omega,by omega⟩
 clear H S a
 intro g1 x1 a w1 hp S H K5 k5
 obtain ⟨k,rfl⟩:∃ y,y=x1:=⟨_,rfl⟩
 refine sS H fun K6 k6=>sr 1 rfl<|sE ?_;clear H a;intro a H
 refine k6 _ ?_;clear k6 K6
 refine wp_seq_k fun K7 k7=>?_
 refine condL H rfl (fun hc1=>?_) (fun hc1=>?_)
 ·skip
  refine wp_skip ?_
  refine k7 _ _ ?_
  refine wp_seq_k fun K8 k8=>?_
  refine wp_block ?_
  refine aA fun K9 k9=>?_
  refine ls 2 H<|si bN bJ G G (hl.adr (by omega)) (by omega)<|sd ((aS iS bJ rfl S hl (by omega) (by omega)))<|sE ?_;clear H a;intro a H
  refine aN H rfl S gE ?_;clear H a S;intro b9 _ a hb9 hbw9 S H
  refine aH H S (i:=0) G G G G bJ G G ?_
  clear H a S;intro _ a S H
  refine k9 _ _ ?_;clear k9 K9
  have htt:=htk k (by omega);unfold tskI at htt
  refine sS H fun K10 k10=>sf eA rfl<|sl S 0 aC G G G<|sr 2 rfl<|sE ?_;clear H a;intro a H
  refine k10 _ ?_;clear k10 K10
  refine condE H rfl (fun hc2=>?_) (fun hc2=>?_)
  ·skip
   replace H:=H.keep [0,1,6,7,9,14,15,16] rfl
   refine lF 11 (by kernel_rfl) (by kernel_rfl) ?_
   replace S:=S.drew
   refine sF H<|sf dM rfl<|sl S 0 aC G G G<|sf tL rfl<|sd ((cP Try.underlying150 bE G G (by omega) (by omega)).to (v' := .pointer (some (pt (some ⟨b7,0,none⟩) 1 ((l.getD k Tsk.zero).day.toNat+1) 0))) (congrArg (fun o=>Value.pointer (some ⟨b7,o,none⟩)) (show 0+1+(l.getD k Tsk.zero).day.toNat*1=0+((l.getD k Tsk.zero).day.toNat+1)*1+0 by omega)))<|slm aC rfl (ownM.rd S (i:=1) (k:=(l.getD k Tsk.zero).day.toNat+1) (j:=0) rfl (by omega) (by omega))<|sf gI rfl<|sl S 0 aC G G G<|sd (nZ G G (by omega) (by omega) (Ry htt.2.2))<|sd (Mo G G (Hv _ _ _) (by omega))<|sf tL rfl<|sd ((cP Try.underlying150 bE G G (by omega) (by omega)).to (v' := .pointer (some (pt (some ⟨b7,0,none⟩) 1 ((l.getD k Tsk.zero).day.toNat+1) 0))) (congrArg (fun o=>Value.pointer (some ⟨b7,o,none⟩)) (show 0+1+(l.getD k Tsk.zero).day.toNat*1=0+((l.getD k Tsk.zero).day.toNat+1)*1+0 by omega)))<|sE ?_;clear H a;intro a H
   refine bY H S (i:=1) G G G (by omega) (by omega) bE rfl ?_
   clear H a S;intro _ a S H
   refine k8 _ _ ?_
   replace H:=H.keep [0,1,6,7,14,15,16] rfl
   refine sO H<|sd (aI G G (by unfold i64ok;omega))<|sr 1 rfl<|sE ?_;clear H a;intro a H
   replace S:=S.recell (i:=1) rfl (cell':=kcl i (jobP l (k+1) i)) (fun k9 j9 hk9 hj9=>Sa (d:=(l.getD k Tsk.zero).day.toNat) (by omega) htt.2.2 (by omega) (by omega) k9 j9 hj9)
   exact k5 (g1-1) (k+1) a _ (by omega) (⟨by omega,by omega⟩) (S.sel [1,2,3,4,5,6] G G) (H.keep [16,0,1,6,7,14,15] rfl)
  refine wp_skip ?_
  refine k8 _ _ ?_
  refine sO H<|sd (aI G G (by unfold i64ok;omega))<|sr 1 rfl<|sE ?_;clear H a;intro a H
  rw [←Rz (l:=l) (n:=k) (i:=i) (by omega) htt.2.2 (by omega)] at S
  exact k5 (g1-1) (k+1) a _ (by omega) (⟨by omega,by omega⟩) (S.sel [1,2,3,4,5,6] G G) (H.keep [16,0,1,6,7,14,15] rfl)
 refine wp_exit ?_
 refine k3 _ _ ?_
 obtain rfl:k=l.length:=by omega
 rw [Mq] at S
 replace S:=Rx S (i:=0) rfl
 obtain ⟨h0,hh0,S⟩:=mapK.fix S (i:=3) rfl
 rcases hk0:h0 (keyOf i (jobF l i)) with _|v0
 ·skip
  skip
  replace H:=H.keep [0,1,6,7] rfl
  replace S:=S.drew
  refine dG [(0,true),(1,true),(2,true),(3,true),(4,true),(5,true),(6,true),(7,true),(8,true),(9,false),(10,false),(11,true)] (by kernel_rfl) (by kernel_rfl) (S.sel [0,1,2,3,4,5] G G) fun K14 k14=>?_
  refine qF H<|qr 2 rfl<|qd rfl (fun _ S=>(aF tF rfl))<|qd rfl (fun _ S=>aE xH rfl (boxM.rd S (i:=2) G G))<|qd rfl (fun _ S=>(aD xN tC rfl S (i:=0) G G))<|qd rfl (fun _ S=>eV S (i:=3) rfl Cg keyOK Ku rfl (k:=keyOf i (jobF l i)) rfl (fun h e=>by subst e;rw [hk0];exact ⟨rfl,rfl⟩))<|qr 3 rfl<|qK ?_;clear H a;intro a H
  refine aX rfl ?_
  refine aN H rfl S pV ?_;clear H a S;intro b10 _ a hb10 hbw10 S H
  refine wpList_nil (And.intro (S.sel [1,2,3,4,5,6] G G) ?_)
  refine aX rfl ?_
  refine aH H S (i:=0) G G G G gW G G ?_
  clear H a S;intro _ a S H
  refine wpList_nil (And.intro (S.sel [1,2,3,4,5,6] G G) ?_)
  refine qF H<|qr 1 rfl<|qK ?_;clear H a;intro a H
  refine cI ?_
  refine k14 _ _ ?_
  clear k14 K14
  refine wp_seq_k fun K15 k15=>?_
  replace H:=H.keep [0,1,6,7,10,11] rfl
  refine sS H fun K16 k16=>sr 2 rfl<|sE ?_;clear H a;intro a H
  refine k16 _ ?_;clear k16 K16
  refine aR H rfl (fun hc3=>?_) (fun hc3=>?_)
  ·skip
   skip
   replace H:=H.keep [0,1,6,7,10] rfl
   replace S:=S.drew
   refine dG [(0,true),(1,true),(2,true),(3,true),(4,true),(5,true),(6,true),(7,true),(8,true),(9,true),(10,true),(11,true),(12,true),(13,true),(14,true),(15,false),(16,false)] (by kernel_rfl) (by kernel_rfl) (S.sel [1,2,3,4,5,6] G G) fun K17 k17=>?_
   refine qF H<|qr 2 rfl<|qd rfl (fun _ S=>(aF cZ rfl))<|qd rfl (fun _ S=>(aF dE rfl))<|qd rfl (fun _ S=>aE eM rfl (boxM.rd S (i:=2) G G))<|qr 1 rfl<|qd rfl (fun _ S=>aW cS dY G G (hy.us.adr (by omega)) (by omega))<|qd rfl (fun _ S=>(aS pU dY rfl S hy.us (by omega) (by omega)))<|qd rfl (fun _ S=>(aF tL rfl))<|qd rfl (fun _ S=>(aD Py Kd rfl S (i:=0) G G))<|qr 2 rfl<|qd rfl (fun _ S=>(aF cZ rfl))<|qd rfl (fun _ S=>(aF dL rfl))<|qd rfl (fun _ S=>aE aC rfl (boxM.rd S (i:=2) G G))<|qK ?_;clear H a;intro a H
   refine aX rfl ?_
   rw [←hD] at H
   refine aB H G G Try.func87 G G (Sk (y.us.getD i Unt.zero) (jobF l i) y.days.toNat _ ((hy.rt i hi).now S) (hyb.rtn hi) ((hy.ul i hi).now S) (hyb.uln hi) (hyb.cap i hi) (hok.unit hi).i (hok.old hi) (fun d=>Rw _ _ _) (by omega)) ?_;clear H a
   rintro _ _ a ⟨rfl,S2⟩ H
   replace S:=S.call S2;clear S2
   refine wpList_nil (And.intro (S.sel [1,2,3,4,5,6] G G) ?_)
   refine aX rfl ?_
   refine aH H S (i:=0) G G G G gW G G ?_
   clear H a S;intro _ a S H
   refine wpList_nil (And.intro (S.sel [1,2,3,4,5,6] G G) ?_)
   refine cI ?_
   refine k17 _ _ ?_
   clear k17 K17
   replace H:=H.keep [0,6,7,10] rfl
   refine lF 6 (by kernel_rfl) (by kernel_rfl) ?_
   replace S:=S.drew
   refine sF H<|sr 2 rfl<|sf tF rfl<|sl S 3 xH G G G<|sd ((aD xN tC rfl S (i:=1) G G))<|sd ((aD kO gW rfl S (i:=0) G G))<|sE ?_;clear H a;intro a H
   refine eF (k:=keyOf i (jobF l i)) (livP y) H S (i:=4) rfl Cg keyOK G G G (fun h e=>by subst e;exact Mt (by omega) rfl h hh0) ?_;clear H a S;intro _ a S H
   refine k15 _ _ ?_
   refine aA fun K19 k19=>?_
   refine ls 1 H<|sd ((aD kO gW rfl S (i:=0) G G))<|sE ?_;clear H a;intro a H
   refine aH H S (i:=2) G G G G gW G G ?_
   clear H a S;intro _ a S H
   refine k19 _ _ ?_;clear k19 K19
   refine wp_ret ?_
   refine retA (fn:=Try.f64) rfl H rfl kO (by exact gW) (cN S (i:=2) rfl) ?_
   exact ⟨rfl,(S.sel [3,4,5,6] G G)⟩
  skip
  cases hc3
 obtain rfl:=hh0 _ _ _ hi hk0
 replace H:=H.keep [0,1,6,7] rfl
 replace S:=S.drew
 refine dG [(0,true),(1,true),(2,true),(3,true),(4,true),(5,true),(6,true),(7,true),(8,true),(9,false),(10,false),(11,true)] (by kernel_rfl) (by kernel_rfl) (S.sel [0,1,2,3,4,5] G G) fun K20 k20=>?_
 refine qF H<|qr 2 rfl<|qd rfl (fun _ S=>(aF tF rfl))<|qd rfl (fun _ S=>aE xH rfl (boxM.rd S (i:=2) G G))<|qd rfl (fun _ S=>(aD xN tC rfl S (i:=0) G G))<|qd rfl (fun _ S=>eV S (i:=3) rfl Cg keyOK Ku rfl (k:=keyOf i (jobF l i)) rfl (fun h e=>by subst e;rw [hk0];exact ⟨rfl,rfl⟩))<|qr 3 rfl<|qK ?_;clear H a;intro a H
 refine aX rfl ?_
 refine aN H rfl S pV ?_;clear H a S;intro b10 _ a hb10 hbw10 S H
 refine wpList_nil (And.intro (S.sel [1,2,3,4,5,6] G G) ?_)
 refine aX rfl ?_
 refine aH H S (i:=0) G G G G gW G G ?_
 clear H a S;intro _ a S H
 refine wpList_nil (And.intro (S.sel [1,2,3,4,5,6] G G) ?_)
 refine qF H<|qr 1 rfl<|qK ?_;clear H a;intro a H
 refine cI ?_
 refine k20 _ _ ?_
 clear k20 K20
 refine wp_seq_k fun K21 k21=>?_
 replace H:=H.keep [0,1,6,7,10,11] rfl
 refine sS H fun K22 k22=>sr 2 rfl<|sE ?_;clear H a;intro a H
 refine k22 _ ?_;clear k22 K22
 refine aR H rfl (fun hc4=>?_) (fun hc4=>?_)
 ·skip
  skip
  cases hc4
 skip
 refine wp_skip ?_
 refine k21 _ _ ?_
 refine aA fun K23 k23=>?_
 refine ls 1 H<|sd ((aD kO gW rfl S (i:=0) G G))<|sE ?_;clear H a;intro a H
 refine aH H S (i:=2) G G G G gW G G ?_
 clear H a S;intro _ a S H
 refine k23 _ _ ?_;clear k23 K23
 refine wp_ret ?_
 refine retA (fn:=Try.f64) rfl H rfl kO (by exact gW) (cN S (i:=2) rfl) ?_
 replace S:=mapK.weak S (i:=4) rfl (Φ':=livP y) (fun g e=>by subst e;exact hh0)
 exact ⟨rfl,(S.sel [3,4,5,6] G G)⟩
end
section
theorem Fh {l:List Int} (h:∀ k,k<l.length→0≤l.getD k 0∧l.getD k 0≤1000):∀ k,k≤l.length→0≤sumI l k∧sumI l k≤1000*k:=by
  intro k
  induction k with
  | zero=>intro _;simp [sumI,sm]
  | succ k ih=>
    intro hk
    have h1:=ih (by omega)
    have h2:=h k (by omega)
    unfold sumI at *
    rw [sm]
    push_cast
    omega
theorem Ih (P T:Nat) (ps:List Psg) (PA:Option Addr) (pc:Nat) (xs:List Int) (XA:Option Addr) (xc:Nat) (out:Int) (pe:List Int) (BA:Option Addr) (bc:Nat) (w:World) (hps:InS w noF 7 PA ps.length (pcell ps)) (hpn:ps.length≤9223372036854775807) (hxs:InS w noF 1 XA xs.length (icl xs)) (hxn:xs.length≤9223372036854775807) (hpe:InS w noF 1 BA pe.length (icl pe)) (hpl:pe.length=P) (hV:StV P ps xs) (hou:0≤out∧out≤4095) (hpp:∀ k,k<pe.length→0≤pe.getD k 0∧pe.getD k 0≤1000) (hT:T≤60) :
    Calls Try.prog 67 [.agg [.int .i64 (P:Int),.slice PA ps.length pc,.slice XA xs.length xc].toArray,.int .i64 out,.slice BA pe.length bc,.int .i64 (T:Int)].toArray w (Ret fun u w'=>∃ b31 EA A' c',u = .pointer (some ⟨b31,0,none⟩)∧St w noF [boxM b31 157 [.int .i64 (P:Int),.slice PA ps.length pc,.slice XA xs.length xc,.int .i64 (T:Int),.slice EA (layN P T pe xs (hds out xs ps)).k (layN P T pe xs (hds out xs ps)).k,.int .i64 (((P*(T+1)):Nat):Int),.int .i64 (((P*(T+1))+1:Nat):Int)],ownM 175 1 EA (layN P T pe xs (hds out xs ps)).k (layN P T pe xs (hds out xs ps)).k (hdc A' (layN P T pe xs (hds out xs ps)).n c'),ragM 177 7 (fun q=>q<(layN P T pe xs (hds out xs ps)).k) A' (layN P T pe xs (hds out xs ps)).n c' (edgeC (layN P T pe xs (hds out xs ps)) (layT P T pe xs (hds out xs ps)).room (layT P T pe xs (hds out xs ps)).mv)] w'):=by
  have h:=Lp P T ps PA pc xs XA xc out pe BA bc w hps hpn hxs hxn (fun k hk h3=>by have:=cC.1 (hV.pas k hk);omega) hou.1 hpe hpl (by have:=hV.size;omega) hT hV.size.2.2 (tO hV)
  refine pY h fun u w' ⟨b31,EA,A',c',h1,S⟩=>⟨b31,EA,A',c',h1,?_⟩
  rw [Cj (joins (jAll P T pe xs (hds out xs ps))) (P*(T+1)+2)] at S
  exact S
theorem Ii (pl:Int) (ps:List Psg) (PA:Option Addr) (pc:Nat) (xs:List Int) (XA:Option Addr) (xc:Nat) (out:Int) (pe:List Int) (BA:Option Addr) (bc:Nat) (T0:Int) (w:World) (hps:InS w noF 7 PA ps.length (pcell ps)) (hpn:ps.length≤9223372036854775807) (hxs:InS w noF 1 XA xs.length (icl xs)) (hxn:xs.length≤9223372036854775807) (hpe:InS w noF 1 BA pe.length (icl pe)) (hpen:pe.length≤9223372036854775807) :
    Calls Try.prog 86 [.agg [.int .i64 pl,.slice PA ps.length pc,.slice XA xs.length xc].toArray,.int .i64 out,.slice BA pe.length bc,.int .i64 T0].toArray w (Ret (fun u w'=>(dO pl ps xs out pe T0≠0∧u = .tuple #[.int .i64 0,.int .i64 (dO pl ps xs out pe T0)]∧St w noF [] w')∨(dO pl ps xs out pe T0=0∧u = .tuple #[.int .i64 (mfv pl.toNat T0.toNat pe xs (hds out xs ps)),.int .i64 0]∧St w noF [] w'))):=by
 refine enter Try.func86 rfl Try.ntmps86 rfl (fun a H=>?_)
 have S:=St.start w
 refine aA fun K1 k1=>?_
 refine aO H rfl S G G ?_;clear H a S;intro b4 _ a hb4 hbw4 S H
 refine ls 2 H<|sr 2 rfl<|sE ?_;clear H a;intro a H
 refine k1 _ _ ?_;clear k1 K1
 refine wp_seq_k fun K2 k2=>?_
 refine aA fun K3 k3=>?_
 refine ls 4 H<|sd ((aD cL dP rfl S (i:=0) G G))<|sr 3 rfl<|sE ?_;clear H a;intro a H
 refine aB H G G Try.func101 G G (xZ pl ps PA pc xs XA xc out pe BA bc T0 _ (hps.now S) hpn (hxs.now S) hxn (hpe.now S) hpen) ?_;clear H a
 rintro _ _ a ⟨rfl,S2⟩ H
 replace S:=S.call S2;clear S2
 refine ls 1 H<|sr 1 rfl<|sE ?_;clear H a;intro a H
 refine k3 _ _ ?_;clear k3 K3
 replace H:=H.keep [1,2,3,4,10] rfl
 refine sS H fun K4 k4=>sr 2 rfl<|sE ?_;clear H a;intro a H
 refine k4 _ ?_;clear k4 K4
 refine condN H rfl (fun hc1=>?_) (fun hc1=>?_)
 ·skip
  refine sS H fun K5 k5=>sr 3 rfl<|sE ?_;clear H a;intro a H
  refine k5 _ ?_;clear k5 K5
  refine wp_ret ?_
  refine ret2 (fn:=Try.f86) rfl H G G ?_
  exact .inl ⟨hc1,rfl,(S.sel [] G G)⟩
 obtain ⟨hst,hou,hcr,hti⟩:=pZ hc1
 have hV0:=iP hst
 obtain ⟨P,rfl⟩:∃ P:Nat,pl=P:=⟨pl.toNat,by have:=hV0.size;omega⟩
 have hV:=hV0
 obtain ⟨hpp,hpl'⟩:=tP hcr
 have hpl:pe.length=P:=by omega
 obtain ⟨T,rfl⟩:∃ T:Nat,T0=T:=⟨T0.toNat,by omega⟩
 have hT:T≤60:=by omega
 have hO9:=tR (T:=T) (out:=out) hV hpp
 have hC:P*(T+1)≤10*61:=Nat.mul_le_mul (by have:=hV.size;omega) (by omega)
 refine wp_skip ?_
 refine k2 _ _ ?_
 replace H:=H.keep [1,2,3,4] rfl
 refine aA fun K6 k6=>?_
 refine ls 4 H<|sd ((aD cL dP rfl S (i:=0) G G))<|sr 3 rfl<|sE ?_;clear H a;intro a H
 refine aB H G G Try.func67 G G (Ih P T ps PA pc xs XA xc out pe BA bc _ (hps.now S) hpn (hxs.now S) hxn (hpe.now S) hpl hV hou hpp hT) ?_;clear H a
 rintro _ _ a ⟨b31,EA,A',c',rfl,S2⟩ H
 replace S:=S.call S2;clear S2
 have S1:=(S.sel [0,1,2] G G)
 refine aB H G G Try.func68 G G (Lg (layN P T pe xs (hds out xs ps)) (layT P T pe xs (hds out xs ps)).room (layT P T pe xs (hds out xs ps)).mv b31 (P:Int) (T:Int) _ _ EA A' c' (P*(T+1)) ((P*(T+1))+1) _ _ S1.startR hO9.wf hO9.ok (by show _<P*(T+1)+2;omega) (by show _<P*(T+1)+2;omega) (by omega) (by show P*(T+1)+2≤_;omega) (by have:=hO9.beg;have:=hV.size;omega)) ?_;clear H a
 rintro _ _ a ⟨v,r,rfl,hF,h0v,⟨L,hLv,hLx⟩,S2⟩ H
 replace S:=(S.sel [0,1,2,3] G G).callR (M:=[_,_,_]) S2;clear S1 S2
 refine ls 2 H<|sr 2 rfl<|sE ?_;clear H a;intro a H
 refine k6 _ _ ?_;clear k6 K6
 refine wp_ret ?_
 refine ret2 (fn:=Try.f86) rfl H G G ?_
 have hE:EndP P T pe xs (hds out xs ps) v r L:=⟨hF,h0v,hLv,hLx⟩
 rw [Int.toNat_natCast,Int.toNat_natCast,Co hO9 hE]
 exact .inr ⟨hc1,rfl,(S.sel [] G G)⟩
end
section
theorem Nj {y:Yr} {out:Int} {w w':World} {u:Value} (hl:dO y.pl y.ps y.xs out y.pe y.limit=0) (h:(dO y.pl y.ps y.xs out y.pe y.limit≠0∧u = .tuple #[.int .i64 0,.int .i64 (dO y.pl y.ps y.xs out y.pe y.limit)]∧St w noF [] w')∨(dO y.pl y.ps y.xs out y.pe y.limit=0∧u = .tuple #[.int .i64 (mfv y.pl.toNat y.limit.toNat y.pe y.xs (hds out y.xs y.ps)),.int .i64 0]∧St w noF [] w')):∃ n:Int,u = .tuple #[.int .i64 n,.int .i64 0]∧leavB y out=decide (n=sumI y.pe y.pe.length)∧St w noF [] w':=by
  rcases h with ⟨h0,_⟩|⟨_,rfl,S⟩
  · exact absurd hl h0
  · exact ⟨_,rfl,rfl,S⟩
theorem Fi {y:Yr} {out fr to:Int} {help:Bool} {w w':World} {u:Value} (ha:askE y.pl y.ps y.xs out [fr,to]=0) (h:(askE y.pl y.ps y.xs out [fr,to]≠0∧u = .tuple #[.int .i64 0,.slice none 0 0,.int .i64 (askE y.pl y.ps y.xs out [fr,to])]∧St w noF [] w')∨(askE y.pl y.ps y.xs out [fr,to]=0∧FarOk y.pl.toNat y.ps out help to.toNat (dst y.pl.toNat y.ps out help to.toNat)∧((dst y.pl.toNat y.ps out help to.toNat fr.toNat<0∧u = .tuple #[.int .i64 0,.slice none 0 0,.int .i64 3]∧St w noF [] w')∨(0≤dst y.pl.toNat y.ps out help to.toNat fr.toNat∧∃ A c,u = .tuple #[.int .i64 (dst y.pl.toNat y.ps out help to.toNat fr.toNat),.slice A (wayL y.pl.toNat y.ps out help fr.toNat to.toNat).length c,.int .i64 0]∧St w noF [ownM 3 1 A (wayL y.pl.toNat y.ps out help fr.toNat to.toNat).length c (wcl (wayL y.pl.toNat y.ps out help fr.toNat to.toNat))] w')))):∃ (t e:Int) (A:Option Addr) (n c:Nat),u = .tuple #[.int .i64 t,.slice A n c,.int .i64 e]∧(decide (e=0)=decide (0≤dst y.pl.toNat y.ps out help to.toNat fr.toNat))∧St w noF [] w':=by
  rcases h with ⟨h0,_⟩|⟨_,_,⟨h1,rfl,S⟩|⟨h1,A,c,rfl,S⟩⟩
  · exact absurd ha h0
  · exact ⟨0,3,none,0,0,rfl,by rw [decide_eq_false (show ¬ 0≤dst y.pl.toNat y.ps out help to.toNat fr.toNat by omega)];rfl,S⟩
  · exact ⟨_,0,A,_,c,rfl,by rw [decide_eq_true h1];rfl,S.sel [] rfl rfl⟩
theorem lt40 {m:Int} (h:m≤4095):m<2^40:=by
  have e9:(2:Int)^40=1099511627776:=by decide
  omega
theorem Nk {y:Yr} {l:List Tsk} {k q:Nat}:setsQ y l k q q 0 = .int .i64 (outY y l q k):=by unfold setsQ;rw [if_neg (Nat.lt_irrefl q)]
theorem sets0 {y:Yr} {l:List Tsk} {k j:Nat} (hj:j<1):([Value.int .i64 0]:List Value).getD j undef=setsV y l 0 k j:=by
  have:j=0:=by omega
  subst this
  rfl
theorem Sl {m:Int} (h:0≤m∧m≤11):i64ok (1*2^m.toNat):=by
  have:=Df (d:=m.toNat) (by omega)
  rw [Int.toNat_natCast] at this
  exact this
section
variable {y:Yr} {d out:Int} {k:Nat} {b:Bool} {e:Int}
theorem Ij (hb:b=allN (prmB y d out) k) (h:d<(y.prs.getD k Prm.zero).first∨(y.prs.getD k Prm.zero).last<d):b=allN (prmB y d out) (k+1):=by
  have:prmB y d out k=true:=by
    unfold prmB
    rcases h with h|h
    · rw [decide_eq_false (p:=(y.prs.getD k Prm.zero).first≤d) (by omega)];rfl
    · rw [decide_eq_false (p:=d≤(y.prs.getD k Prm.zero).last) (by omega),Bool.and_false];rfl
  rw [allN,this,Bool.and_true,hb]
theorem Ay (hb:b=allN (prmB y d out) k) (h:(y.prs.getD k Prm.zero).first≤d∧d≤(y.prs.getD k Prm.zero).last) (hw:decide (e=0)=decide (0≤dst y.pl.toNat y.ps out (y.help&&(y.prs.getD k Prm.zero).helped) (y.prs.getD k Prm.zero).to.toNat (y.prs.getD k Prm.zero).fr.toNat)) (he:¬ e=0):false=allN (prmB y d out) (k+1):=by
  have:prmB y d out k=false:=by
    unfold prmB
    rw [←hw,decide_eq_true h.1,decide_eq_true h.2,decide_eq_false he];rfl
  rw [allN,this,Bool.and_false]
theorem wP (hb:b=allN (prmB y d out) k) (h:(y.prs.getD k Prm.zero).first≤d∧d≤(y.prs.getD k Prm.zero).last) (hw:decide (e=0)=decide (0≤dst y.pl.toNat y.ps out (y.help&&(y.prs.getD k Prm.zero).helped) (y.prs.getD k Prm.zero).to.toNat (y.prs.getD k Prm.zero).fr.toNat)) (he:e=0):b=allN (prmB y d out) (k+1):=by
  have:prmB y d out k=true:=by
    unfold prmB
    rw [←hw,decide_eq_true he,Bool.or_true]
  rw [allN,this,Bool.and_true,hb]
end
theorem Nl {y:Yr} (h:YOk y) {out:Int} (ho:0≤out∧out≤4095) {k:Nat} (hk:k<y.prs.length):askE y.pl y.ps y.xs out [(y.prs.getD k Prm.zero).fr,(y.prs.getD k Prm.zero).to]=0:=by
  have h1:=oV h.kept
  have h2:=mO.1 (h1.2.2 k hk)
  have h3:=(oU h1.1).1
  unfold askE
  rw [if_neg (by omega),if_pos]
  rw [decide_eq_true ho,uD.2 ⟨by omega,by omega⟩]
  rfl
theorem Fj (y:Yr) (cb bl bs bk:Nat) (l:List Tsk) (LA:Option Addr) (lc:Nat) (w:World) (F:Nat→Prop) (S:St w F [boxM cb 120 [.int .i64 y.days,.int .i64 y.pl,.slice y.PA y.ps.length y.pc,.slice y.XA y.xs.length y.xc,.slice y.BA y.pe.length y.bc,.int .i64 y.limit,.bool y.help,.slice y.QA y.prs.length y.qc,.slice y.VA y.us.length y.vc,.int .i64 y.crew,.slice y.SA y.sps.length y.sc,.map (some bl),.map (some bs),.map (some bk)],mapK (encN (n:=21)) bl (livP y),mapK (fun n:Int=>Value.int .i64 n) bs (safP y),mapK enc2 bk (kepP y)] w) (hy:YIn w F y) (hyb:YBd y) (hok:YOk y) (hl:InS w F 3 LA l.length (aV l)) (hln:l.length≤9223372036854775807) (htk:∀ k,k<l.length→tskI y (l.getD k Tsk.zero)) :
    Calls Try.prog 39 [.pointer (some ⟨cb,0,none⟩),.slice LA l.length lc].toArray w (Ret (fun v w'=>∃ A c,v = .slice A y.days.toNat c∧St w F (ownM 3 1 A y.days.toNat c (setsV y l y.us.length)::[boxM cb 120 [.int .i64 y.days,.int .i64 y.pl,.slice y.PA y.ps.length y.pc,.slice y.XA y.xs.length y.xc,.slice y.BA y.pe.length y.bc,.int .i64 y.limit,.bool y.help,.slice y.QA y.prs.length y.qc,.slice y.VA y.us.length y.vc,.int .i64 y.crew,.slice y.SA y.sps.length y.sc,.map (some bl),.map (some bs),.map (some bk)],mapK (encN (n:=21)) bl (livP y),mapK (fun n:Int=>Value.int .i64 n) bs (safP y),mapK enc2 bk (kepP y)]) w')):=by
 have hmx:maxLen=9223372036854775807:=rfl
 have hdy:=hok.days;have husn:=hyb.usn
 have hD:((y.days.toNat:Nat):Int)=y.days:=by omega
 refine enter Try.func39 rfl Try.ntmps39 rfl (fun a H=>?_)
 skip
 refine sS H fun K1 k1=>sr 1 rfl<|sE ?_;clear H a;intro a H
 refine k1 _ ?_;clear k1 K1
 refine aA fun K2 k2=>?_
 refine ls 5 H<|sr 2 rfl<|sf cZ rfl<|sf dL rfl<|sl S 0 aC G G G<|sE ?_;clear H a;intro a H
 rw [←hD] at H
 refine jB (n:=y.days.toNat) H rfl S aT bE fS zK rfl (by decide) G G (by omega) (by omega) ?_;clear H a S;intro A1 _ a hA1 S H
 refine ls 1 H<|sr 1 rfl<|sE ?_;clear H a;intro a H
 refine k2 _ _ ?_;clear k2 K2
 refine wp_seq_k fun K3 k3=>?_
 replace H:=H.keep [0,1,5] rfl
 refine sS H fun K4 k4=>sr 2 rfl<|sf cZ rfl<|sf dE rfl<|sl S 1 eM G G G<|sL cS rfl<|sr 1 rfl<|sE ?_;clear H a;intro a H
 refine k4 _ ?_;clear k4 K4
 refine wp_block ?_
 replace S:=S.recell (i:=0) rfl (cell':=setsV y l 0) (fun k9 j9 hk9 hj9=>sets0 hj9)
 refine loop_st (X:=Nat) (R0:=_) [0,1,5,20,21] H rfl (fun k=>[(22,.int .i64 (k:Int))]) (fun k=>[ownM 3 1 A1 y.days.toNat y.days.toNat (setsV y l k)]) (fun g k=>k≤y.us.length∧g+k=y.us.length) (y.us.length) 0 ?_ (S.sel [0,1,2,3,4] G G) (H.keep [22,0,1,5,20,21] rfl) ?_
 · exact ⟨by omega,by omega⟩
 clear H S a
 intro g1 x1 a w1 hp S H K5 k5
 obtain ⟨k,rfl⟩:∃ y,y=x1:=⟨_,rfl⟩
 refine sS H fun K6 k6=>sr 1 rfl<|sE ?_;clear H a;intro a H
 refine k6 _ ?_;clear k6 K6
 refine wp_seq_k fun K7 k7=>?_
 refine condL H rfl (fun hc1=>?_) (fun hc1=>?_)
 ·skip
  refine wp_skip ?_
  refine k7 _ _ ?_
  refine wp_seq_k fun K8 k8=>?_
  refine wp_block ?_
  refine aA fun K9 k9=>?_
  refine ls 3 H<|sr 1 rfl<|si cS dY G G (hy.us.adr (by omega)) (by omega)<|sd ((aS pU dY rfl S hy.us (by omega) (by omega)))<|sE ?_;clear H a;intro a H
  refine aN H rfl S gO ?_;clear H a S;intro b7 _ a hb7 hbw7 S H
  refine ls 1 H<|sr 1 rfl<|sE ?_;clear H a;intro a H
  refine aH H S (i:=0) G G G G dY G G ?_
  clear H a S;intro _ a S H
  refine k9 _ _ ?_;clear k9 K9
  replace H:=H.keep [0,1,5,6,7,20,21,22] rfl
  refine aA fun K10 k10=>?_
  refine ls 3 H<|sr 3 rfl<|sE ?_;clear H a;intro a H
  refine aB H G G Try.func64 G G (Ni y cb bl bs bk k l LA lc _ _ ((S.sel [2,3,4,5] G G).startR) (hy.nowR (S.sel [2,3,4,5] G G)) hyb hok (by omega) (hl.nowR (S.sel [2,3,4,5] G G)) hln htk) ?_;clear H a
  rintro _ _ a ⟨rfl,S2⟩ H
  replace S:=St.callR (M:=[_,_,_,_]) (S.sel [2,3,4,5,0,1] G G) S2;clear S2
  refine aN H rfl S pV ?_;clear H a S;intro b8 _ a hb8 hbw8 S H
  refine aH H S (i:=0) G G G G gW G G ?_
  clear H a S;intro _ a S H
  refine k10 _ _ ?_;clear k10 K10
  refine sS H fun K11 k11=>sr 1 rfl<|sL aT rfl<|sr 1 rfl<|sE ?_;clear H a;intro a H
  refine k11 _ ?_;clear k11 K11
  refine wp_block ?_
  rw [←Dj] at S
  refine loop_st (X:=Nat) (R0:=_) [0,1,5,7,8,20,21,22,32] H rfl (fun q=>[(33,.int .i64 (q:Int))]) (fun q=>[ownM 3 1 A1 y.days.toNat y.days.toNat (setsQ y l k q)]) (fun g q=>q≤y.days.toNat∧g+q=y.days.toNat) (y.days.toNat) 0 ?_ (S.sel [6,0,1,2,3,4,5] G G) (H.keep [33,0,1,5,7,8,20,21,22,32] rfl) ?_
  · exact ⟨by omega,by omega⟩
  clear H S a
  intro g2 x2 a w2 hp S H K12 k12
  obtain ⟨q,rfl⟩:∃ y,y=x2:=⟨_,rfl⟩
  refine sS H fun K13 k13=>sr 1 rfl<|sE ?_;clear H a;intro a H
  refine k13 _ ?_;clear k13 K13
  refine wp_seq_k fun K14 k14=>?_
  refine condL H rfl (fun hc2=>?_) (fun hc2=>?_)
  ·skip
   refine wp_skip ?_
   refine k14 _ _ ?_
   refine wp_seq_k fun K15 k15=>?_
   refine wp_block ?_
   refine sS H fun K16 k16=>sr 2 rfl<|sE ?_;clear H a;intro a H
   refine k16 _ ?_;clear k16 K16
   have hmk:=mS hok.V (hok.unit (show k<y.us.length by omega))
   refine sS H fun K17 k17=>sf tE rfl<|sl S 1 aC G G G<|sr 1 rfl<|sd (lB G G (by omega) (by omega))<|sd (jY G G)<|sr 1 rfl<|sE ?_;clear H a;intro a H
   refine k17 _ ?_;clear k17 K17
   refine condE H rfl (fun hc3=>?_) (fun hc3=>?_)
   ·skip
    have hrn:=Ys (y:=y) (l:=l) (k:=k) (show q<y.days.toNat by omega) hc3
    have hob:=yI (l:=l) (d:=q) hok (show k≤y.us.length by omega)
    replace H:=H.keep [0,1,5,7,8,9,20,21,22,32,33] rfl
    refine lF 9 (by kernel_rfl) (by kernel_rfl) ?_
    replace S:=S.drew
    refine sF H<|sr 2 rfl<|si aT bE G G (ownM.adr S (i:=0) rfl (by omega)) (by omega)<|sd ((aE aC rfl (ownM.rd S (i:=0) (k:=q) (j:=0) rfl (by omega) (by omega))).to Nk)<|sf mK rfl<|sl S 6 aC G G G<|sd (nZ G G (by omega) (by omega) (Sl hmk.1))<|sd (uV G G ⟨hob.1,lt40 hob.2⟩ (by omega) (Di hok (by omega)))<|si aT bE G G (ownM.adr S (i:=0) rfl (by omega)) (by omega)<|sE ?_;clear H a;intro a H
    refine bY H S (i:=0) G G G (by omega) (by omega) bE rfl ?_
    clear H a S;intro _ a S H
    refine k15 _ _ ?_
    replace H:=H.keep [0,1,5,7,8,20,21,22,32,33] rfl
    refine sO H<|sd (aI G G (by unfold i64ok;omega))<|sr 1 rfl<|sE ?_;clear H a;intro a H
    replace S:=S.recell (i:=0) rfl (cell':=setsQ y l k (q+1)) (fun k9 j9 hk9 hj9=>Id hrn rfl k9 j9 hj9)
    exact k12 (g2-1) (q+1) a _ (by omega) (⟨by omega,by omega⟩) (S.sel [0,1,2,3,4,5,6] G G) (H.keep [33,0,1,5,7,8,20,21,22,32] rfl)
   refine wp_skip ?_
   refine k15 _ _ ?_
   refine sO H<|sd (aI G G (by unfold i64ok;omega))<|sr 1 rfl<|sE ?_;clear H a;intro a H
   rw [Ic (Yt (show q<y.days.toNat by omega) hc3)] at S
   exact k12 (g2-1) (q+1) a _ (by omega) (⟨by omega,by omega⟩) (S.sel [0,1,2,3,4,5,6] G G) (H.keep [33,0,1,5,7,8,20,21,22,32] rfl)
  refine wp_exit ?_
  refine k8 _ _ ?_
  refine sO H<|sd (aI G G (by unfold i64ok;omega))<|sr 1 rfl<|sE ?_;clear H a;intro a H
  obtain rfl:q=y.days.toNat:=by omega
  replace S:=S.recell (i:=0) rfl (cell':=setsV y l (k+1)) Ib
  exact k5 (g1-1) (k+1) a _ (by omega) (⟨by omega,by omega⟩) (S.sel [0,2,3,4,5] G G) (H.keep [22,0,1,5,20,21] rfl)
 refine wp_exit ?_
 refine k3 _ _ ?_
 refine sS H fun K22 k22=>sr 2 rfl<|sE ?_;clear H a;intro a H
 refine k22 _ ?_;clear k22 K22
 refine wp_ret ?_
 refine ret1 (fn:=Try.f39) rfl H rfl ?_
 obtain rfl:k=y.us.length:=by omega
 exact ⟨_,_,rfl,(S.sel [0,1,2,3,4] G G)⟩
theorem Dm (y:Yr) (cb bl bs bk:Nat) (out:Int) (w:World) (F:Nat→Prop) (S:St w F [boxM cb 120 [.int .i64 y.days,.int .i64 y.pl,.slice y.PA y.ps.length y.pc,.slice y.XA y.xs.length y.xc,.slice y.BA y.pe.length y.bc,.int .i64 y.limit,.bool y.help,.slice y.QA y.prs.length y.qc,.slice y.VA y.us.length y.vc,.int .i64 y.crew,.slice y.SA y.sps.length y.sc,.map (some bl),.map (some bs),.map (some bk)],mapK (encN (n:=21)) bl (livP y),mapK (fun n:Int=>Value.int .i64 n) bs (safP y),mapK enc2 bk (kepP y)] w) (hy:YIn w F y) (hyb:YBd y) (hok:YOk y) (ho:0≤out∧out≤4095) :
    Calls Try.prog 63 [.pointer (some ⟨cb,0,none⟩),.int .i64 out].toArray w (Ret (fun v w'=>v = .bool (leavB y out)∧St w F [boxM cb 120 [.int .i64 y.days,.int .i64 y.pl,.slice y.PA y.ps.length y.pc,.slice y.XA y.xs.length y.xc,.slice y.BA y.pe.length y.bc,.int .i64 y.limit,.bool y.help,.slice y.QA y.prs.length y.qc,.slice y.VA y.us.length y.vc,.int .i64 y.crew,.slice y.SA y.sps.length y.sc,.map (some bl),.map (some bs),.map (some bk)],mapK (encN (n:=21)) bl (livP y),mapK (fun n:Int=>Value.int .i64 n) bs (safP y),mapK enc2 bk (kepP y)] w')):=by
 have hmx:maxLen=9223372036854775807:=rfl
 have hdy:=hok.days;have husn:=hyb.usn
 have hD:((y.days.toNat:Nat):Int)=y.days:=by omega
 have hpel:y.pe.length≤1000∧∀ k,k<y.pe.length→0≤y.pe.getD k 0∧y.pe.getD k 0≤1000:=⟨by have h1:=hok.yr.2.1.1;have h2:=hok.V.size;omega,hok.yr.2.1.2⟩
 refine enter Try.func63 rfl Try.ntmps63 rfl (fun a H=>?_)
 skip
 refine sS H fun K1 k1=>sr 1 rfl<|sE ?_;clear H a;intro a H
 refine k1 _ ?_;clear k1 K1
 obtain ⟨h0,hh0,S⟩:=mapK.fix S (i:=2) rfl
 rcases hk0:h0 out with _|v0
 ·skip
  skip
  replace H:=H.keep [0,1] rfl
  refine sS H fun K2 k2=>sr 2 rfl<|sf tG rfl<|sl S 0 xI G G G<|sr 1 rfl<|sd (eV S (i:=2) rfl pX (fP rfl) Gn rfl (k:=out) rfl (fun h e=>by subst e;rw [hk0];exact ⟨rfl,rfl⟩))<|sr 5 rfl<|sE ?_;clear H a;intro a H
  refine k2 _ ?_;clear k2 K2
  refine wp_seq_k fun K3 k3=>?_
  replace H:=H.keep [0,1,5,6] rfl
  refine sS H fun K4 k4=>sr 2 rfl<|sE ?_;clear H a;intro a H
  refine k4 _ ?_;clear k4 K4
  refine aR H rfl (fun hc1=>?_) (fun hc1=>?_)
  ·skip
   skip
   refine sS H fun K5 k5=>sr 1 rfl<|sE ?_;clear H a;intro a H
   refine k5 _ ?_;clear k5 K5
   refine wp_seq_k fun K6 k6=>?_
   replace H:=H.keep [0,1,7] rfl
   refine sS H fun K7 k7=>sr 2 rfl<|sf cZ rfl<|sf jR rfl<|sl S 0 eS G G G<|sL aT rfl<|sr 1 rfl<|sE ?_;clear H a;intro a H
   refine k7 _ ?_;clear k7 K7
   refine wp_block ?_
   refine loop_st (X:=Nat) (R0:=_) [0,1,27,28] H rfl (fun k=>[(7,.int .i64 (sumI y.pe k)),(29,.int .i64 (k:Int))]) (fun k=>[]) (fun g k=>k≤y.pe.length∧g+k=y.pe.length) (y.pe.length) 0 ?_ (S.sel [0,1,2,3] G G) (H.keep [7,29,0,1,27,28] rfl) ?_
   · exact ⟨by omega,by omega⟩
   clear H S a
   intro g1 x1 a w1 hp S H K8 k8
   obtain ⟨k,rfl⟩:∃ y,y=x1:=⟨_,rfl⟩
   refine sS H fun K9 k9=>sr 1 rfl<|sE ?_;clear H a;intro a H
   refine k9 _ ?_;clear k9 K9
   refine wp_seq_k fun K10 k10=>?_
   refine condL H rfl (fun hc2=>?_) (fun hc2=>?_)
   ·skip
    refine wp_skip ?_
    refine k10 _ _ ?_
    refine wp_seq_k fun K11 k11=>?_
    refine wp_block ?_
    refine sS H fun K12 k12=>si aT bE G G (hy.pe.adr (by omega)) (by omega)<|slm aC rfl (hy.pe.rd S (by omega) (by omega))<|sr 1 rfl<|sE ?_;clear H a;intro a H
    refine k12 _ ?_;clear k12 K12
    have hsb:=Fh hpel.2 k (by omega);have hsk:=hpel.2 k (by omega)
    refine sO H<|sr 2 rfl<|sd (aI G G (by unfold i64ok;omega))<|sr 1 rfl<|sE ?_;clear H a;intro a H
    refine k11 _ _ ?_
    replace H:=H.keep [0,1,7,27,28,29] rfl
    refine sO H<|sd (aI G G (by unfold i64ok;omega))<|sr 1 rfl<|sE ?_;clear H a;intro a H
    exact k8 (g1-1) (k+1) a _ (by omega) (⟨by omega,by omega⟩) (S.sel [0,1,2,3] G G) (H.keep [7,29,0,1,27,28] rfl)
   refine wp_exit ?_
   refine k6 _ _ ?_
   replace H:=H.keep [0,1,7] rfl
   replace S:=S.drew
   refine dG [(0,true),(1,true),(2,true),(3,true),(4,true),(5,true),(6,true),(7,true),(8,true),(9,true),(10,true),(11,true),(12,true),(13,true),(14,true),(15,true),(16,false),(17,true),(18,true),(19,true),(20,true),(21,true)] (by kernel_rfl) (by kernel_rfl) (S.sel [0,1,2,3] G G) fun K15 k15=>?_
   refine qF H<|qr 2 rfl<|qd rfl (fun _ S=>(aF cZ rfl))<|qd rfl (fun _ S=>(aF eQ rfl))<|qd rfl (fun _ S=>(aD cL dP rfl S (i:=0) G G))<|qr 3 rfl<|qd rfl (fun _ S=>(aF cZ rfl))<|qd rfl (fun _ S=>(aF jR rfl))<|qd rfl (fun _ S=>aE eS rfl (boxM.rd S (i:=0) G G))<|qr 2 rfl<|qd rfl (fun _ S=>(aF cZ rfl))<|qd rfl (fun _ S=>(aF mJ rfl))<|qd rfl (fun _ S=>aE aC rfl (boxM.rd S (i:=0) G G))<|qK ?_;clear H a;intro a H
   refine aX rfl ?_
   have hcl9:=eJ (Ii y.pl y.ps y.PA y.pc y.xs y.XA y.xc out y.pe y.BA y.bc y.limit _ (hy.ps.now S) hyb.psn (hy.xs.now S) hyb.xsn (hy.pe.now S) hyb.pen) (fun _ _ h=>Nj (hok.leave ho) h)
   refine aB H G G Try.func86 G G hcl9 ?_;clear H a hcl9
   rintro _ _ a ⟨n9,rfl,hlb,S2⟩ H
   replace S:=S.call S2;clear S2
   refine wpList_nil (And.intro (S.sel [0,1,2,3] G G) ?_)
   refine qF H<|qr 5 rfl<|qK ?_;clear H a;intro a H
   refine cI ?_
   refine k15 _ _ ?_
   clear k15 K15
   replace H:=H.keep [0,1,7,10] rfl
   refine sS H fun K16 k16=>sr 4 rfl<|sE ?_;clear H a;intro a H
   refine k16 _ ?_;clear k16 K16
   replace H:=H.keep [0,1,5] rfl
   refine dX ?_
   refine ls 6 H<|sr 2 rfl<|sf tG rfl<|sl S 0 xI G G G<|sr 2 rfl<|sE ?_;clear H a;intro a H
   refine eF (k:=out) (safP y) H S (i:=2) rfl pX (fP rfl) G G G (fun h e=>by subst e;exact Mu (congrArg Value.bool (by rw [hlb,show k=y.pe.length by omega])) h hh0) ?_;clear H a S;intro _ a S H
   refine k3 _ _ ?_
   refine sS H fun K18 k18=>sr 2 rfl<|sE ?_;clear H a;intro a H
   refine k18 _ ?_;clear k18 K18
   refine wp_ret ?_
   refine ret1 (fn:=Try.f63) rfl H rfl ?_
   exact ⟨congrArg Value.bool (by rw [hlb,show k=y.pe.length by omega]),(S.sel [0,1,2,3] G G)⟩
  skip
  cases hc1
 obtain rfl:=hh0 _ _ ho hk0
 replace H:=H.keep [0,1] rfl
 refine sS H fun K19 k19=>sr 2 rfl<|sf tG rfl<|sl S 0 xI G G G<|sr 1 rfl<|sd (eV S (i:=2) rfl pX (fP rfl) Gn rfl (k:=out) rfl (fun h e=>by subst e;rw [hk0];exact ⟨rfl,rfl⟩))<|sr 5 rfl<|sE ?_;clear H a;intro a H
 refine k19 _ ?_;clear k19 K19
 refine wp_seq_k fun K20 k20=>?_
 replace H:=H.keep [0,1,5,6] rfl
 refine sS H fun K21 k21=>sr 2 rfl<|sE ?_;clear H a;intro a H
 refine k21 _ ?_;clear k21 K21
 refine aR H rfl (fun hc3=>?_) (fun hc3=>?_)
 ·skip
  skip
  cases hc3
 skip
 refine wp_skip ?_
 refine k20 _ _ ?_
 refine sS H fun K22 k22=>sr 2 rfl<|sE ?_;clear H a;intro a H
 refine k22 _ ?_;clear k22 K22
 refine wp_ret ?_
 refine ret1 (fn:=Try.f63) rfl H rfl ?_
 replace S:=mapK.weak S (i:=2) rfl (Φ':=safP y) (fun g e=>by subst e;exact hh0)
 exact ⟨rfl,(S.sel [0,1,2,3] G G)⟩
theorem Ik (y:Yr) (cb bl bs bk:Nat) (d out:Int) (w:World) (F:Nat→Prop) (S:St w F [boxM cb 120 [.int .i64 y.days,.int .i64 y.pl,.slice y.PA y.ps.length y.pc,.slice y.XA y.xs.length y.xc,.slice y.BA y.pe.length y.bc,.int .i64 y.limit,.bool y.help,.slice y.QA y.prs.length y.qc,.slice y.VA y.us.length y.vc,.int .i64 y.crew,.slice y.SA y.sps.length y.sc,.map (some bl),.map (some bs),.map (some bk)],mapK (encN (n:=21)) bl (livP y),mapK (fun n:Int=>Value.int .i64 n) bs (safP y),mapK enc2 bk (kepP y)] w) (hy:YIn w F y) (hyb:YBd y) (hok:YOk y) (ho:0≤out∧out≤4095) :
    Calls Try.prog 62 [.pointer (some ⟨cb,0,none⟩),.int .i64 d,.int .i64 out].toArray w (Ret (fun v w'=>v = .bool (keepB y d out)∧St w F [boxM cb 120 [.int .i64 y.days,.int .i64 y.pl,.slice y.PA y.ps.length y.pc,.slice y.XA y.xs.length y.xc,.slice y.BA y.pe.length y.bc,.int .i64 y.limit,.bool y.help,.slice y.QA y.prs.length y.qc,.slice y.VA y.us.length y.vc,.int .i64 y.crew,.slice y.SA y.sps.length y.sc,.map (some bl),.map (some bs),.map (some bk)],mapK (encN (n:=21)) bl (livP y),mapK (fun n:Int=>Value.int .i64 n) bs (safP y),mapK enc2 bk (kepP y)] w')):=by
 have hprn:=hyb.prn
 refine enter Try.func62 rfl Try.ntmps62 rfl (fun a H=>?_)
 skip
 refine sS H fun K1 k1=>sr 1 rfl<|sE ?_;clear H a;intro a H
 refine k1 _ ?_;clear k1 K1
 obtain ⟨h0,hh0,S⟩:=mapK.fix S (i:=3) rfl
 rcases hk0:h0 (d,out) with _|v0
 ·skip
  skip
  replace H:=H.keep [0,1,2] rfl
  refine sS H fun K2 k2=>sr 2 rfl<|sf tH rfl<|sl S 0 xJ G G G<|sr 2 rfl<|sd (aM Cd G G)<|sd (eV S (i:=3) rfl Ch (De Try.underlying146 Try.underlying3 aC bE) Gn rfl (k:=(d,out)) rfl (fun h e=>by subst e;rw [hk0];exact ⟨rfl,rfl⟩))<|sr 5 rfl<|sE ?_;clear H a;intro a H
  refine k2 _ ?_;clear k2 K2
  refine wp_seq_k fun K3 k3=>?_
  replace H:=H.keep [0,1,2,7,8] rfl
  refine sS H fun K4 k4=>sr 1 rfl<|sE ?_;clear H a;intro a H
  refine k4 _ ?_;clear k4 K4
  refine aR H rfl (fun hc1=>?_) (fun hc1=>?_)
  ·skip
   skip
   cases hc1
  skip
  refine wp_skip ?_
  refine k3 _ _ ?_
  refine sS H fun K5 k5=>sr 1 rfl<|sE ?_;clear H a;intro a H
  refine k5 _ ?_;clear k5 K5
  refine wp_seq_k fun K6 k6=>?_
  refine sS H fun K7 k7=>sr 2 rfl<|sf cZ rfl<|sf rI rfl<|sl S 0 xE G G G<|sL eU rfl<|sr 1 rfl<|sE ?_;clear H a;intro a H
  refine k7 _ ?_;clear k7 K7
  refine wp_block ?_
  refine loop_st (X:=Nat×Bool) (R0:=_) [0,1,2,31,32] H rfl (fun ⟨k,b⟩=>[(7,.bool b),(33,.int .i64 (k:Int))]) (fun ⟨k,b⟩=>[]) (fun g ⟨k,b⟩=>k≤y.prs.length∧g+k=y.prs.length∧b=allN (prmB y d out) k) (y.prs.length) (0,true) ?_ (S.sel [0,1,2,3] G G) (H.keep [7,33,0,1,2,31,32] rfl) ?_
  · exact ⟨by omega,by omega,rfl⟩
  clear H S a
  intro g1 x1 a w1 hp S H K8 k8
  obtain ⟨k,b⟩:=x1
  dsimp only at hp S H
  refine sS H fun K9 k9=>sr 1 rfl<|sE ?_;clear H a;intro a H
  refine k9 _ ?_;clear k9 K9
  refine wp_seq_k fun K10 k10=>?_
  refine condL H rfl (fun hc2=>?_) (fun hc2=>?_)
  ·skip
   refine wp_skip ?_
   refine k10 _ _ ?_
   refine wp_seq_k fun K11 k11=>?_
   refine wp_block ?_
   refine aA fun K12 k12=>?_
   refine ls 2 H<|si eU eP G G (hy.prs.adr (by omega)) (by omega)<|sd ((aS xF eP rfl S hy.prs (by omega) (by omega)))<|sE ?_;clear H a;intro a H
   refine aN H rfl S gF ?_;clear H a S;intro b10 _ a hb10 hbw10 S H
   refine aH H S (i:=0) G G G G eP G G ?_
   clear H a S;intro _ a S H
   refine k12 _ _ ?_;clear k12 K12
   refine wp_seq_k fun K13 k13=>?_
   replace H:=H.keep [0,1,2,7,10,31,32,33] rfl
   refine sS H fun K14 k14=>sr 1 rfl<|sf oO rfl<|sl S 0 aC G G G<|sf mM rfl<|sl S 0 aC G G G<|sc rfl Try.func60 G G (bO _ _ _ _)<|sr 1 rfl<|sE ?_;clear H a;intro a H
   refine k14 _ ?_;clear k14 K14
   refine aR H rfl (fun hc3=>?_) (fun hc3=>?_)
   ·skip
    try simp only [o1,o2,o3,o4,o5,o6,o7,o8,o9,oa] at hc3
    refine wp_exit ?_
    refine k11 _ _ ?_
    refine sO H<|sd (aI G G (by unfold i64ok;omega))<|sr 1 rfl<|sE ?_;clear H a;intro a H
    exact k8 (g1-1) (k+1,_) a _ (by omega) (⟨by omega,by omega,Ij hp.2.2 (by omega)⟩) (S.sel [1,2,3,4] G G) (H.keep [7,33,0,1,2,31,32] rfl)
   try simp only [o1,o2,o3,o4,o5,o6,o7,o8,o9,oa] at hc3
   refine wp_skip ?_
   refine k13 _ _ ?_
   rcases hhp:y.help with _|_
   ·skip
    skip
    replace H:=H.keep [0,1,2,7,10,31,32,33] rfl
    replace S:=S.drew
    refine dG [(0,true),(1,true),(2,true),(3,true),(4,true),(5,true),(6,true),(7,true),(8,true),(9,true),(10,true),(11,true),(12,true),(13,true),(14,true),(15,true),(16,true),(17,true),(18,true),(19,false),(20,true),(21,true),(22,true),(23,true),(24,true),(25,true),(26,true)] (by kernel_rfl) (by kernel_rfl) (S.sel [0,1,2,3,4] G G) fun K16 k16=>?_
    refine qF H<|qr 2 rfl<|qd rfl (fun _ S=>(aF cZ rfl))<|qd rfl (fun _ S=>(aF eQ rfl))<|qd rfl (fun _ S=>(aD cL dP rfl S (i:=1) G G))<|qr 3 rfl<|qd rfl (fun _ S=>(aF cZ rfl))<|qd rfl (fun _ S=>(aF Ef rfl))<|qd rfl (fun _ S=>(aE lN rfl (boxM.rd S (i:=1) G G)).to (v' := .bool false) (congrArg Value.bool hhp))<|qr 1 rfl<|qK ?_;clear H a;intro a H
    refine aQ H G G G G G ?_;clear H a;intro a H
    refine aQ H G G G G G ?_;clear H a;intro a H
    refine qF H<|qd rfl (fun _ S=>(bI G G G))<|qd rfl (fun _ S=>(aF oM rfl))<|qd rfl (fun _ S=>aE aC rfl (boxM.rd S (i:=0) G G))<|qd rfl (fun _ S=>(aF oN rfl))<|qd rfl (fun _ S=>aE aC rfl (boxM.rd S (i:=0) G G))<|qK ?_;clear H a;intro a H
    refine aX rfl ?_
    have hcl9:=eJ (zT y.pl y.ps y.PA y.pc y.xs y.XA y.xc out false (y.prs.getD k Prm.zero).fr (y.prs.getD k Prm.zero).to _ (hy.ps.now S) hyb.psn (hy.xs.now S) hyb.xsn) (fun _ _ h=>Fi (Nl hok ho (show k<y.prs.length by omega)) h)
    refine aB H G G Try.func85 G G hcl9 ?_;clear H a hcl9
    rintro _ _ a ⟨t9,e9,A9,n9,c9,rfl,hwb,S2⟩ H
    replace S:=S.call S2;clear S2
    refine wpList_nil (And.intro (S.sel [0,1,2,3,4] G G) ?_)
    refine qF H<|qr 7 rfl<|qK ?_;clear H a;intro a H
    refine cI ?_
    refine k16 _ _ ?_
    clear k16 K16
    replace H:=H.keep [0,1,2,7,13,31,32,33] rfl
    refine sS H fun K17 k17=>sr 2 rfl<|sE ?_;clear H a;intro a H
    refine k17 _ ?_;clear k17 K17
    refine condN H rfl (fun hc4=>?_) (fun hc4=>?_)
    ·skip
     refine sO H<|sr 1 rfl<|sE ?_;clear H a;intro a H
     refine k11 _ _ ?_
     refine sO H<|sd (aI G G (by unfold i64ok;omega))<|sr 1 rfl<|sE ?_;clear H a;intro a H
     exact k8 (g1-1) (k+1,_) a _ (by omega) (⟨by omega,by omega,Ay hp.2.2 (by omega) (by rw [hhp];exact hwb) (by omega)⟩) (S.sel [1,2,3,4] G G) (H.keep [7,33,0,1,2,31,32] rfl)
    refine wp_skip ?_
    refine k11 _ _ ?_
    refine sO H<|sd (aI G G (by unfold i64ok;omega))<|sr 1 rfl<|sE ?_;clear H a;intro a H
    exact k8 (g1-1) (k+1,_) a _ (by omega) (⟨by omega,by omega,wP hp.2.2 (by omega) (by rw [hhp];exact hwb) (by omega)⟩) (S.sel [1,2,3,4] G G) (H.keep [7,33,0,1,2,31,32] rfl)
   skip
   replace H:=H.keep [0,1,2,7,10,31,32,33] rfl
   replace S:=S.drew
   refine dG [(0,true),(1,true),(2,true),(3,true),(4,true),(5,true),(6,true),(7,true),(8,true),(9,true),(10,true),(11,true),(12,true),(13,true),(14,true),(15,true),(16,true),(17,true),(18,true),(19,false),(20,true),(21,true),(22,true),(23,true),(24,true),(25,true),(26,true)] (by kernel_rfl) (by kernel_rfl) (S.sel [0,1,2,3,4] G G) fun K21 k21=>?_
   refine qF H<|qr 2 rfl<|qd rfl (fun _ S=>(aF cZ rfl))<|qd rfl (fun _ S=>(aF eQ rfl))<|qd rfl (fun _ S=>(aD cL dP rfl S (i:=1) G G))<|qr 3 rfl<|qd rfl (fun _ S=>(aF cZ rfl))<|qd rfl (fun _ S=>(aF Ef rfl))<|qd rfl (fun _ S=>(aE lN rfl (boxM.rd S (i:=1) G G)).to (v' := .bool true) (congrArg Value.bool hhp))<|qr 1 rfl<|qK ?_;clear H a;intro a H
   refine aL H G G G G (fun _ S=>(aF Ei rfl)) ?_;clear H a;intro a H
   refine aL H G G G G (fun _ S=>aE lN rfl (boxM.rd S (i:=0) G G)) ?_;clear H a;intro a H
   refine qF H<|qd rfl (fun _ S=>(lD G G G))<|qd rfl (fun _ S=>(aF oM rfl))<|qd rfl (fun _ S=>aE aC rfl (boxM.rd S (i:=0) G G))<|qd rfl (fun _ S=>(aF oN rfl))<|qd rfl (fun _ S=>aE aC rfl (boxM.rd S (i:=0) G G))<|qK ?_;clear H a;intro a H
   refine aX rfl ?_
   have hcl9:=eJ (zT y.pl y.ps y.PA y.pc y.xs y.XA y.xc out (y.prs.getD k Prm.zero).helped (y.prs.getD k Prm.zero).fr (y.prs.getD k Prm.zero).to _ (hy.ps.now S) hyb.psn (hy.xs.now S) hyb.xsn) (fun _ _ h=>Fi (Nl hok ho (show k<y.prs.length by omega)) h)
   refine aB H G G Try.func85 G G hcl9 ?_;clear H a hcl9
   rintro _ _ a ⟨t9,e9,A9,n9,c9,rfl,hwb,S2⟩ H
   replace S:=S.call S2;clear S2
   refine wpList_nil (And.intro (S.sel [0,1,2,3,4] G G) ?_)
   refine qF H<|qr 7 rfl<|qK ?_;clear H a;intro a H
   refine cI ?_
   refine k21 _ _ ?_
   clear k21 K21
   replace H:=H.keep [0,1,2,7,13,31,32,33] rfl
   refine sS H fun K22 k22=>sr 2 rfl<|sE ?_;clear H a;intro a H
   refine k22 _ ?_;clear k22 K22
   refine condN H rfl (fun hc5=>?_) (fun hc5=>?_)
   ·skip
    refine sO H<|sr 1 rfl<|sE ?_;clear H a;intro a H
    refine k11 _ _ ?_
    refine sO H<|sd (aI G G (by unfold i64ok;omega))<|sr 1 rfl<|sE ?_;clear H a;intro a H
    exact k8 (g1-1) (k+1,_) a _ (by omega) (⟨by omega,by omega,Ay hp.2.2 (by omega) (by rw [hhp];exact hwb) (by omega)⟩) (S.sel [1,2,3,4] G G) (H.keep [7,33,0,1,2,31,32] rfl)
   refine wp_skip ?_
   refine k11 _ _ ?_
   refine sO H<|sd (aI G G (by unfold i64ok;omega))<|sr 1 rfl<|sE ?_;clear H a;intro a H
   exact k8 (g1-1) (k+1,_) a _ (by omega) (⟨by omega,by omega,wP hp.2.2 (by omega) (by rw [hhp];exact hwb) (by omega)⟩) (S.sel [1,2,3,4] G G) (H.keep [7,33,0,1,2,31,32] rfl)
  refine wp_exit ?_
  refine k6 _ _ ?_
  have hb9:b=keepB y d out:=by rw [hp.2.2,show k=y.prs.length by omega];rfl
  subst hb9
  replace H:=H.keep [0,1,2,7] rfl
  refine aA fun K26 k26=>?_
  refine ls 8 H<|sr 2 rfl<|sf tH rfl<|sl S 0 xJ G G G<|sr 2 rfl<|sd (aM Cd G G)<|sr 1 rfl<|sE ?_;clear H a;intro a H
  refine eF (k:=(d,out)) (kepP y) H S (i:=3) rfl Ch (De Try.underlying146 Try.underlying3 aC bE) G G G (fun h e=>by subst e;exact Mw rfl h hh0) ?_;clear H a S;intro _ a S H
  refine k26 _ _ ?_;clear k26 K26
  replace H:=H.keep [7] rfl
  refine sS H fun K27 k27=>sr 2 rfl<|sE ?_;clear H a;intro a H
  refine k27 _ ?_;clear k27 K27
  refine wp_ret ?_
  refine ret1 (fn:=Try.f62) rfl H rfl ?_
  exact ⟨rfl,(S.sel [0,1,2,3] G G)⟩
 obtain rfl:=hh0 _ _ _ ho hk0
 replace H:=H.keep [0,1,2] rfl
 refine sS H fun K28 k28=>sr 2 rfl<|sf tH rfl<|sl S 0 xJ G G G<|sr 2 rfl<|sd (aM Cd G G)<|sd (eV S (i:=3) rfl Ch (De Try.underlying146 Try.underlying3 aC bE) Gn rfl (k:=(d,out)) rfl (fun h e=>by subst e;rw [hk0];exact ⟨rfl,rfl⟩))<|sr 5 rfl<|sE ?_;clear H a;intro a H
 refine k28 _ ?_;clear k28 K28
 refine wp_seq_k fun K29 k29=>?_
 replace H:=H.keep [0,1,2,7,8] rfl
 refine sS H fun K30 k30=>sr 1 rfl<|sE ?_;clear H a;intro a H
 refine k30 _ ?_;clear k30 K30
 refine aR H rfl (fun hc6=>?_) (fun hc6=>?_)
 ·skip
  skip
  refine sS H fun K31 k31=>sr 2 rfl<|sE ?_;clear H a;intro a H
  refine k31 _ ?_;clear k31 K31
  refine wp_ret ?_
  refine ret1 (fn:=Try.f62) rfl H rfl ?_
  replace S:=mapK.weak S (i:=3) rfl (Φ':=kepP y) (fun g e=>by subst e;exact hh0)
  exact ⟨rfl,(S.sel [0,1,2,3] G G)⟩
 skip
 cases hc6
end
section
theorem Sm {y:Yr} (hok:YOk y) {i:Nat} (hi:i<y.us.length):0≤(y.us.getD i Unt.zero).kind∧(y.us.getD i Unt.zero).kind≤3:=by
  have h:=(hok.unit hi).i
  unfold untI at h
  exact h.2.2.1
theorem stk0 {y:Yr} {l:List Tsk} {k j:Nat} (hk:k<4) (hj:j<1):([Value.int .i64 0,Value.int .i64 0,Value.int .i64 0,Value.int .i64 0]:List Value).getD k undef=stkC y l 0 0 0 k j:=by
  have e:stkC y l 0 0 0 k j = .int .i64 0:=rfl
  rw [e]
  match k,hk with
  | 0,_=>rfl
  | 1,_=>rfl
  | 2,_=>rfl
  | 3,_=>rfl
theorem mV (y:Yr) (cb bl bs bk:Nat) (l:List Tsk) (LA:Option Addr) (lc:Nat) (w:World) (F:Nat→Prop) (S:St w F [boxM cb 120 [.int .i64 y.days,.int .i64 y.pl,.slice y.PA y.ps.length y.pc,.slice y.XA y.xs.length y.xc,.slice y.BA y.pe.length y.bc,.int .i64 y.limit,.bool y.help,.slice y.QA y.prs.length y.qc,.slice y.VA y.us.length y.vc,.int .i64 y.crew,.slice y.SA y.sps.length y.sc,.map (some bl),.map (some bs),.map (some bk)],mapK (encN (n:=21)) bl (livP y),mapK (fun n:Int=>Value.int .i64 n) bs (safP y),mapK enc2 bk (kepP y)] w) (hy:YIn w F y) (hyb:YBd y) (hok:YOk y) (hl:InS w F 3 LA l.length (aV l)) (hln:l.length≤9223372036854775807) (htk:∀ k,k<l.length→tskI y (l.getD k Tsk.zero)) (hl60:l.length≤60) :
    Calls Try.prog 38 [.pointer (some ⟨cb,0,none⟩),.slice LA l.length lc].toArray w (Ret (fun v w'=>v = .tuple #[.int .i64 (judgeV y l).1,.int .i64 (judgeV y l).2]∧St w F [boxM cb 120 [.int .i64 y.days,.int .i64 y.pl,.slice y.PA y.ps.length y.pc,.slice y.XA y.xs.length y.xc,.slice y.BA y.pe.length y.bc,.int .i64 y.limit,.bool y.help,.slice y.QA y.prs.length y.qc,.slice y.VA y.us.length y.vc,.int .i64 y.crew,.slice y.SA y.sps.length y.sc,.map (some bl),.map (some bs),.map (some bk)],mapK (encN (n:=21)) bl (livP y),mapK (fun n:Int=>Value.int .i64 n) bs (safP y),mapK enc2 bk (kepP y)] w')):=by
 have hmx:maxLen=9223372036854775807:=rfl
 have hdy:=hok.days;have husn:=hyb.usn;have hspn:=hyb.spn
 have hD:((y.days.toNat:Nat):Int)=y.days:=by omega
 refine enter Try.func38 rfl Try.ntmps38 rfl (fun a H=>?_)
 skip
 refine sS H fun K1 k1=>sr 2 rfl<|sE ?_;clear H a;intro a H
 refine k1 _ ?_;clear k1 K1
 refine aA fun K2 k2=>?_
 refine ls 2 H<|sr 2 rfl<|sE ?_;clear H a;intro a H
 refine aB H G G Try.func39 G G (Fj y cb bl bs bk l LA lc _ _ ((S.sel [0,1,2,3] G G).startR) (hy.nowR (S.sel [0,1,2,3] G G)) hyb hok (hl.nowR (S.sel [0,1,2,3] G G)) hln htk) ?_;clear H a
 rintro _ _ a ⟨A6,c6,rfl,S2⟩ H
 replace S:=St.callR (M:=[_,_,_,_]) (S.sel [0,1,2,3] G G) S2;clear S2
 refine ls 1 H<|sr 1 rfl<|sE ?_;clear H a;intro a H
 refine k2 _ _ ?_;clear k2 K2
 refine aA fun K3 k3=>?_
 refine aN H rfl S Vf ?_;clear H a S;intro b7 _ a hb7 hbw7 S H
 refine k3 _ _ ?_;clear k3 K3
 refine wp_seq_k fun K4 k4=>?_
 replace S:=As S (i:=0) rfl (by show 4≤maxLen;decide)
 replace S:=S.recell (i:=0) rfl (cell':=stkC y l 0 0 0) (fun k9 j9 hk9 hj9=>stk0 hk9 hj9)
 replace H:=H.keep [0,1,6,7] rfl
 refine sS H fun K5 k5=>sr 2 rfl<|sf cZ rfl<|sf dL rfl<|sl S 2 aC G G G<|sr 1 rfl<|sE ?_;clear H a;intro a H
 refine k5 _ ?_;clear k5 K5
 refine wp_block ?_
 refine loop_st (X:=Nat) (R0:=_) [0,1,6,7,23] H rfl (fun d=>[(24,.int .i64 (d:Int))]) (fun d=>[ownM 121 1 (some ⟨b7,0,none⟩) 4 4 (stkC y l d 0 0)]) (fun g d=>(d≤y.days.toNat∧g+d=y.days.toNat)∧∀ q,q<d→faultD y l q=0) (y.days.toNat) 0 ?_ (S.sel [0,1,2,3,4,5] G G) (H.keep [24,0,1,6,7,23] rfl) ?_
 · exact ⟨⟨by omega,by omega⟩,fun q hq=>absurd hq (Nat.not_lt_zero q)⟩
 clear H S a
 intro g1 x1 a w1 hp S H K6 k6
 obtain ⟨d,rfl⟩:∃ y,y=x1:=⟨_,rfl⟩
 obtain ⟨⟨hdl,hgd⟩,hfl⟩:=hp
 refine sS H fun K7 k7=>sr 1 rfl<|sE ?_;clear H a;intro a H
 refine k7 _ ?_;clear k7 K7
 refine wp_seq_k fun K8 k8=>?_
 refine condL H rfl (fun hc1=>?_) (fun hc1=>?_)
 ·skip
  refine wp_skip ?_
  refine k8 _ _ ?_
  refine wp_seq_k fun K9 k9=>?_
  refine wp_block ?_
  refine sS H fun K10 k10=>sr 2 rfl<|sE ?_;clear H a;intro a H
  refine k10 _ ?_;clear k10 K10
  refine wp_seq_k fun K11 k11=>?_
  replace H:=H.keep [0,1,6,7,8,23,24] rfl
  refine sS H fun K12 k12=>sr 2 rfl<|sf cZ rfl<|sf kQ rfl<|sl S 2 nJ G G G<|sL oJ rfl<|sr 1 rfl<|sE ?_;clear H a;intro a H
  refine k12 _ ?_;clear k12 K12
  refine wp_block ?_
  refine loop_st (X:=Nat) (R0:=_) [0,1,6,7,8,23,24,31,32] H rfl (fun n=>[(33,.int .i64 (n:Int))]) (fun n=>[ownM 121 1 (some ⟨b7,0,none⟩) 4 4 (stkC y l d n 0)]) (fun g n=>n≤y.sps.length∧g+n=y.sps.length) (y.sps.length) 0 ?_ (S.sel [0,1,2,3,4,5] G G) (H.keep [33,0,1,6,7,8,23,24,31,32] rfl) ?_
  · exact ⟨by omega,by omega⟩
  clear H S a
  intro g2 x2 a w2 hp S H K13 k13
  obtain ⟨n,rfl⟩:∃ y,y=x2:=⟨_,rfl⟩
  refine sS H fun K14 k14=>sr 1 rfl<|sE ?_;clear H a;intro a H
  refine k14 _ ?_;clear k14 K14
  refine wp_seq_k fun K15 k15=>?_
  refine condL H rfl (fun hc2=>?_) (fun hc2=>?_)
  ·skip
   refine wp_skip ?_
   refine k15 _ _ ?_
   refine wp_seq_k fun K16 k16=>?_
   refine wp_block ?_
   refine aA fun K17 k17=>?_
   refine ls 2 H<|si oJ kP G G (hy.sps.adr (by omega)) (by omega)<|sd ((aS xK kP rfl S hy.sps (by omega) (by omega)))<|sE ?_;clear H a;intro a H
   refine aN H rfl S Cb ?_;clear H a S;intro b10 _ a hb10 hbw10 S H
   refine aH H S (i:=0) G G G G kP G G ?_
   clear H a S;intro _ a S H
   refine k17 _ _ ?_;clear k17 K17
   have hsq:=mA.1 (hok.yr.2.2.2.2.2 n (by omega))
   refine sS H fun K18 k18=>sf tI rfl<|sl S 0 aC G G G<|sr 2 rfl<|sE ?_;clear H a;intro a H
   refine k18 _ ?_;clear k18 K18
   refine condE H rfl (fun hc3=>?_) (fun hc3=>?_)
   ·skip
    have hb0:=vA (d:=d) (k:=(y.sps.getD n Spr.zero).kind.toNat) hok n (by omega)
    have hb1:=vA (d:=d) (k:=(y.sps.getD n Spr.zero).kind.toNat) hok y.sps.length (Nat.le_refl _)
    have hb2:=yJ (y:=y) (l:=l) (d:=d) (k:=(y.sps.getD n Spr.zero).kind.toNat) 0
    have hb3:=Nc (l:=l) (k:=(y.sps.getD n Spr.zero).kind.toNat) hok (by omega) d
    have hb4:=hok.yr.2.2.2.2.1
    replace H:=H.keep [0,1,6,7,8,10,23,24,31,32,33] rfl
    refine lF 8 (by kernel_rfl) (by kernel_rfl) ?_
    replace S:=S.drew
    refine sF H<|sf tJ rfl<|sl S 0 aC G G G<|sd (cP Try.underlying121 bE G G (by omega) (by omega))<|slm aC rfl (ownM.rd S (i:=1) (k:=(y.sps.getD n Spr.zero).kind.toNat) (j:=0) rfl (by omega) (by omega))<|sf tK rfl<|sl S 0 aC G G G<|sd (aI G G (by unfold i64ok;omega))<|sd (cP Try.underlying121 bE G G (by omega) (by omega))<|sE ?_;clear H a;intro a H
    refine bY H S (i:=1) (kk:=(y.sps.getD n Spr.zero).kind.toNat) (j:=0) G G G (by omega) (by omega) bE rfl ?_
    clear H a S;intro _ a S H
    refine k16 _ _ ?_
    replace H:=H.keep [0,1,6,7,8,23,24,31,32,33] rfl
    refine sO H<|sd (aI G G (by unfold i64ok;omega))<|sr 1 rfl<|sE ?_;clear H a;intro a H
    replace S:=S.recell (i:=1) rfl (cell':=stkC y l d (n+1) 0) (fun k9 j9 hk9 hj9=>Sb (q:=(y.sps.getD n Spr.zero).kind.toNat) hc3 (by omega) rfl k9 j9 hj9)
    exact k13 (g2-1) (n+1) a _ (by omega) (⟨by omega,by omega⟩) (S.sel [1,2,3,4,5,6] G G) (H.keep [33,0,1,6,7,8,23,24,31,32] rfl)
   refine wp_skip ?_
   refine k16 _ _ ?_
   refine sO H<|sd (aI G G (by unfold i64ok;omega))<|sr 1 rfl<|sE ?_;clear H a;intro a H
   rw [Sc hc3] at S
   exact k13 (g2-1) (n+1) a _ (by omega) (⟨by omega,by omega⟩) (S.sel [1,2,3,4,5,6] G G) (H.keep [33,0,1,6,7,8,23,24,31,32] rfl)
  refine wp_exit ?_
  refine k11 _ _ ?_
  refine sS H fun K22 k22=>sr 2 rfl<|sE ?_;clear H a;intro a H
  refine k22 _ ?_;clear k22 K22
  refine wp_seq_k fun K23 k23=>?_
  refine sS H fun K24 k24=>sr 1 rfl<|sL bN rfl<|sr 1 rfl<|sE ?_;clear H a;intro a H
  refine k24 _ ?_;clear k24 K24
  refine wp_block ?_
  obtain rfl:n=y.sps.length:=by omega
  refine loop_st (X:=Nat×Int×Bool) (R0:=_) [0,1,6,7,8,23,24,50,51] H rfl (fun ⟨q,jb,sh⟩=>[(11,.int .i64 jb),(12,.bool sh),(52,.int .i64 (q:Int))]) (fun ⟨q,jb,sh⟩=>[ownM 121 1 (some ⟨b7,0,none⟩) 4 4 (stkC y l d y.sps.length q)]) (fun g ⟨q,jb,sh⟩=>(q≤l.length∧g+q=l.length)∧jb=jbS l d q∧sh=shS y l d q) (l.length) (0,0,false) ?_ (S.sel [0,1,2,3,4,5] G G) (H.keep [11,12,52,0,1,6,7,8,23,24,50,51] rfl) ?_
  · exact ⟨⟨by omega,by omega⟩,rfl,rfl⟩
  clear H S a
  intro g3 x3 a w3 hp S H K25 k25
  obtain ⟨q,jb,sh⟩:=x3
  dsimp only at hp S H
  obtain ⟨⟨hql,hgq⟩,hjb9,hsh9⟩:=hp
  refine sS H fun K26 k26=>sr 1 rfl<|sE ?_;clear H a;intro a H
  refine k26 _ ?_;clear k26 K26
  refine wp_seq_k fun K27 k27=>?_
  refine condL H rfl (fun hc4=>?_) (fun hc4=>?_)
  ·skip
   refine wp_skip ?_
   refine k27 _ _ ?_
   refine wp_seq_k fun K28 k28=>?_
   refine wp_block ?_
   refine aA fun K29 k29=>?_
   refine ls 2 H<|si bN bJ G G (hl.adr (by omega)) (by omega)<|sd ((aS iS bJ rfl S hl (by omega) (by omega)))<|sE ?_;clear H a;intro a H
   refine aN H rfl S gE ?_;clear H a S;intro b14 _ a hb14 hbw14 S H
   refine aH H S (i:=0) G G G G bJ G G ?_
   clear H a S;intro _ a S H
   refine k29 _ _ ?_;clear k29 K29
   refine wp_seq_k fun K30 k30=>?_
   have htt:=htk q (by omega);unfold tskI at htt
   refine sS H fun K31 k31=>sf dM rfl<|sl S 0 aC G G G<|sr 2 rfl<|sE ?_;clear H a;intro a H
   refine k31 _ ?_;clear k31 K31
   refine condN H rfl (fun hc5=>?_) (fun hc5=>?_)
   ·skip
    refine wp_exit ?_
    refine k28 _ _ ?_
    replace H:=H.keep [0,1,6,7,8,11,12,23,24,50,51,52] rfl
    refine sO H<|sd (aI G G (by unfold i64ok;omega))<|sr 1 rfl<|sE ?_;clear H a;intro a H
    rw [Av (fun h=>hc5 h.1)] at S
    exact k25 (g3-1) (q+1,_,_) a _ (by omega) (⟨⟨by omega,by omega⟩,Yu hjb9 hc5,Ux hsh9 (fun h=>hc5 h.1)⟩) (S.sel [1,2,3,4,5,6] G G) (H.keep [11,12,52,0,1,6,7,8,23,24,50,51] rfl)
   refine wp_skip ?_
   refine k30 _ _ ?_
   have hjb:=We (l:=l) (d:=d) q
   rw [←hjb9] at hjb
   refine sS H fun K33 k33=>sr 1 rfl<|sd (aI G G (by unfold i64ok;omega))<|sr 1 rfl<|sE ?_;clear H a;intro a H
   refine k33 _ ?_;clear k33 K33
   refine sS H fun K34 k34=>sf gI rfl<|sl S 0 aC G G G<|sr 1 rfl<|sE ?_;clear H a;intro a H
   refine k34 _ ?_;clear k34 K34
   refine condE H rfl (fun hc6=>?_) (fun hc6=>?_)
   ·skip
    have hkk:=Sm hok (show (l.getD q Tsk.zero).unit.toNat<y.us.length by omega)
    replace H:=H.keep [0,1,6,7,8,11,12,14,23,24,50,51,52] rfl
    replace S:=S.drew
    refine sD H fun K35 k35=>sr 2 rfl<|sf cZ rfl<|sf dE rfl<|sl S 3 eM G G G<|sf eA rfl<|sl S 0 aC G G G<|sI cS dY G G (hy.us.adr (by omega)) (by omega) (by omega)<|sp xR rfl<|slm aC rfl (hy.us.rd S (by omega) (by omega))<|sr 1 rfl<|sE ?_;clear H a;intro a H
    refine k35 _ ?_;clear k35 K35
    have hb1:=vA (d:=d) (k:=(y.us.getD (l.getD q Tsk.zero).unit.toNat Unt.zero).kind.toNat) hok y.sps.length (Nat.le_refl _)
    have hb2:=yJ (y:=y) (l:=l) (d:=d) (k:=(y.us.getD (l.getD q Tsk.zero).unit.toNat Unt.zero).kind.toNat) q
    have hb3:=Nc (l:=l) (k:=(y.us.getD (l.getD q Tsk.zero).unit.toNat Unt.zero).kind.toNat) hok (by omega) d
    have hb4:=hok.yr.2.2.2.2.1
    replace H:=H.keep [0,1,6,7,8,11,12,15,23,24,50,51,52] rfl
    refine aA fun K36 k36=>?_
    refine ls 5 H<|sr 1 rfl<|sd (cP Try.underlying121 bE G G (by omega) (by omega))<|slm aC rfl (ownM.rd S (i:=1) (k:=(y.us.getD (l.getD q Tsk.zero).unit.toNat Unt.zero).kind.toNat) (j:=0) rfl (by omega) (by omega))<|sd (aP G G (by unfold i64ok;omega))<|sd (cP Try.underlying121 bE G G (by omega) (by omega))<|sE ?_;clear H a;intro a H
    refine bY H S (i:=1) (kk:=(y.us.getD (l.getD q Tsk.zero).unit.toNat Unt.zero).kind.toNat) (j:=0) G G G (by omega) (by omega) bE rfl ?_
    clear H a S;intro _ a S H
    refine k36 _ _ ?_;clear k36 K36
    replace S:=S.recell (i:=1) rfl (cell':=stkC y l d y.sps.length (q+1)) (fun k9 j9 hk9 hj9=>Sd (q:=(y.us.getD (l.getD q Tsk.zero).unit.toNat Unt.zero).kind.toNat) ⟨by omega,hc6⟩ (show tkK y l q=_ by unfold tkK;omega) rfl k9 j9 hj9)
    replace H:=H.keep [0,1,6,7,8,11,12,15,23,24,50,51,52] rfl
    refine sO H<|sr 2 rfl<|sg 4 1 81 85 false G G (fun hg2=>sy hg2<|sr 1 rfl<|sy hg2<|sd (cP Try.underlying121 bE G G (by omega) (by omega))<|sy hg2<|slm aC rfl (ownM.rd S (i:=1) (k:=(y.us.getD (l.getD q Tsk.zero).unit.toNat Unt.zero).kind.toNat) (j:=0) rfl (by omega) (by omega))<|sy hg2<|sr 1 rfl<|sz 4 G G G)<|so G G G<|sr 1 rfl<|sE ?_;clear H a;intro a H
    refine k28 _ _ ?_
    replace H:=H.keep [0,1,6,7,8,11,12,23,24,50,51,52] rfl
    refine sO H<|sd (aI G G (by unfold i64ok;omega))<|sr 1 rfl<|sE ?_;clear H a;intro a H
    exact k25 (g3-1) (q+1,_,_) a _ (by omega) (⟨⟨by omega,by omega⟩,Nd hjb9 (by omega),Wg (q:=(y.us.getD (l.getD q Tsk.zero).unit.toNat Unt.zero).kind.toNat) hsh9 ⟨by omega,hc6⟩ (show tkK y l q=_ by unfold tkK;omega) rfl⟩) (S.sel [1,2,3,4,5,6] G G) (H.keep [11,12,52,0,1,6,7,8,23,24,50,51] rfl)
   skip
   refine wp_skip ?_
   refine k28 _ _ ?_
   refine sO H<|sd (aI G G (by unfold i64ok;omega))<|sr 1 rfl<|sE ?_;clear H a;intro a H
   rw [Av (fun h=>hc6 h.2)] at S
   exact k25 (g3-1) (q+1,_,_) a _ (by omega) (⟨⟨by omega,by omega⟩,Nd hjb9 (by omega),Ux hsh9 (fun h=>hc6 h.2)⟩) (S.sel [1,2,3,4,5,6] G G) (H.keep [11,12,52,0,1,6,7,8,23,24,50,51] rfl)
  refine wp_exit ?_
  refine k23 _ _ ?_
  refine wp_block ?_
  obtain rfl:q=l.length:=by omega
  subst hjb9
  subst hsh9
  replace H:=H.keep [0,1,6,7,8,11,12,23,24] rfl
  refine sS H fun K40 k40=>sr 3 rfl<|sf cZ rfl<|sf xO rfl<|sl S 2 aC G G G<|sr 2 rfl<|sE ?_;clear H a;intro a H
  refine k40 _ ?_;clear k40 K40
  refine condL H rfl (fun hc7=>?_) (fun hc7=>?_)
  ·skip
   replace H:=H.keep [8] rfl
   refine sS H fun K41 k41=>sr 3 rfl<|sE ?_;clear H a;intro a H
   refine k41 _ ?_;clear k41 K41
   refine wp_ret ?_
   refine ret2 (fn:=Try.f38) rfl H G G ?_
   rw [lZ (show d<y.days.toNat by omega) hfl (by rw [pG (by omega)];decide),pG (by omega)]
   exact ⟨rfl,(S.sel [2,3,4,5] G G)⟩
  refine sS H fun K42 k42=>sr 2 rfl<|sE ?_;clear H a;intro a H
  refine k42 _ ?_;clear k42 K42
  refine aR H rfl (fun hc8=>?_) (fun hc8=>?_)
  ·skip
   try simp only [o1,o2,o3,o4,o5,o6,o7,o8,o9,oa] at hc8
   refine sS H fun K43 k43=>sr 3 rfl<|sE ?_;clear H a;intro a H
   refine k43 _ ?_;clear k43 K43
   refine wp_ret ?_
   refine ret2 (fn:=Try.f38) rfl H G G ?_
   rw [lZ (show d<y.days.toNat by omega) hfl (by rw [rV (by omega) hc8];decide),rV (by omega) hc8]
   exact ⟨rfl,(S.sel [2,3,4,5] G G)⟩
  try simp only [o1,o2,o3,o4,o5,o6,o7,o8,o9,oa] at hc8
  replace H:=H.keep [0,1,6,7,8,23,24] rfl
  refine aA fun K44 k44=>?_
  refine ls 6 H<|sr 4 rfl<|si aT bE G G (ownM.adr S (i:=1) rfl (by omega)) (by omega)<|slm aC rfl (ownM.rd S (i:=1) (k:=d) (j:=0) rfl (by omega) (by omega))<|sE ?_;clear H a;intro a H
  refine aB H G G Try.func62 G G (Ik y cb bl bs bk (d:Int) (outY y l d y.us.length) _ _ ((S.sel [2,3,4,5] G G).startR) (hy.nowR (S.sel [2,3,4,5] G G)) hyb hok (yI hok (Nat.le_refl _))) ?_;clear H a
  rintro _ _ a ⟨rfl,S2⟩ H
  replace S:=St.callR (M:=[_,_,_,_]) (S.sel [2,3,4,5,0,1] G G) S2;clear S2
  refine ls 2 H<|sr 2 rfl<|sE ?_;clear H a;intro a H
  refine k44 _ _ ?_;clear k44 K44
  refine aR H rfl (fun hc9=>?_) (fun hc9=>?_)
  ·skip
   try simp only [o1,o2,o3,o4,o5,o6,o7,o8,o9,oa] at hc9
   replace H:=H.keep [8] rfl
   refine sS H fun K45 k45=>sr 3 rfl<|sE ?_;clear H a;intro a H
   refine k45 _ ?_;clear k45 K45
   refine wp_ret ?_
   refine ret2 (fn:=Try.f38) rfl H G G ?_
   rw [lZ (show d<y.days.toNat by omega) hfl (by rw [rW (by omega) hc8 hc9];decide),rW (by omega) hc8 hc9]
   exact ⟨rfl,(S.sel [0,1,2,3] G G)⟩
  try simp only [o1,o2,o3,o4,o5,o6,o7,o8,o9,oa] at hc9
  replace H:=H.keep [0,1,6,7,8,23,24] rfl
  refine aA fun K46 k46=>?_
  refine ls 5 H<|sr 3 rfl<|si aT bE G G (ownM.adr S (i:=5) rfl (by omega)) (by omega)<|slm aC rfl (ownM.rd S (i:=5) (k:=d) (j:=0) rfl (by omega) (by omega))<|sE ?_;clear H a;intro a H
  refine aB H G G Try.func63 G G (Dm y cb bl bs bk (outY y l d y.us.length) _ _ ((S.sel [0,1,2,3] G G).startR) (hy.nowR (S.sel [0,1,2,3] G G)) hyb hok (yI hok (Nat.le_refl _))) ?_;clear H a
  rintro _ _ a ⟨rfl,S2⟩ H
  replace S:=St.callR (M:=[_,_,_,_]) (S.sel [0,1,2,3,4,5] G G) S2;clear S2
  refine ls 2 H<|sr 2 rfl<|sE ?_;clear H a;intro a H
  refine k46 _ _ ?_;clear k46 K46
  refine aR H rfl (fun hc10=>?_) (fun hc10=>?_)
  ·skip
   try simp only [o1,o2,o3,o4,o5,o6,o7,o8,o9,oa] at hc10
   replace H:=H.keep [8] rfl
   refine sS H fun K47 k47=>sr 3 rfl<|sE ?_;clear H a;intro a H
   refine k47 _ ?_;clear k47 K47
   refine wp_ret ?_
   refine ret2 (fn:=Try.f38) rfl H G G ?_
   rw [lZ (show d<y.days.toNat by omega) hfl (by rw [yK (by omega) hc8 hc9 hc10];decide),yK (by omega) hc8 hc9 hc10]
   exact ⟨rfl,(S.sel [0,1,2,3] G G)⟩
  try simp only [o1,o2,o3,o4,o5,o6,o7,o8,o9,oa] at hc10
  refine wp_skip ?_
  refine k9 _ _ ?_
  refine sO H<|sd (aI G G (by unfold i64ok;omega))<|sr 1 rfl<|sE ?_;clear H a;intro a H
  rw [Ie] at S
  exact k6 (g1-1) (d+1) a _ (by omega) (⟨⟨by omega,by omega⟩,Ne hfl (yL (by omega) hc8 hc9 hc10)⟩) (S.sel [4,5,0,1,2,3] G G) (H.keep [24,0,1,6,7,23] rfl)
 refine wp_exit ?_
 refine k4 _ _ ?_
 refine sS H fun K49 k49=>sr 2 rfl<|sE ?_;clear H a;intro a H
 refine k49 _ ?_;clear k49 K49
 refine wp_ret ?_
 refine ret2 (fn:=Try.f38) rfl H G G ?_
 rw [uZ (fun q hq=>hfl q (by omega))]
 exact ⟨rfl,(S.sel [2,3,4,5] G G)⟩
theorem Wh (y:Yr) (l:List Tsk) (LA:Option Addr) (lc:Nat) (w:World) (hy:YIn w noF y) (hyb:YBd y) (hl:InS w noF 3 LA l.length (aV l)) (hln:l.length≤9223372036854775807) :
    Calls Try.prog 13 [.agg [.int .i64 y.days,.int .i64 y.pl,.slice y.PA y.ps.length y.pc,.slice y.XA y.xs.length y.xc,.slice y.BA y.pe.length y.bc,.int .i64 y.limit,.bool y.help,.slice y.QA y.prs.length y.qc,.slice y.VA y.us.length y.vc,.int .i64 y.crew,.slice y.SA y.sps.length y.sc].toArray,.slice LA l.length lc].toArray w (Ret (fun v w'=>(taskE y l≠0∧v = .tuple #[.slice none 0 0,.int .i64 (taskE y l)]∧St w noF [] w')∨(taskE y l=0∧∃ A c,v = .tuple #[.slice A y.days.toNat c,.int .i64 0]∧St w noF [ownM 3 1 A y.days.toNat c (setsV y l y.us.length)] w'))):=by
 refine enter Try.func13 rfl Try.ntmps13 rfl (fun a H=>?_)
 have S:=St.start w
 refine aA fun K1 k1=>?_
 refine aO H rfl S G G ?_;clear H a S;intro b2 _ a hb2 hbw2 S H
 refine ls 2 H<|sr 2 rfl<|sE ?_;clear H a;intro a H
 refine k1 _ _ ?_;clear k1 K1
 refine wp_seq_k fun K2 k2=>?_
 refine aA fun K3 k3=>?_
 refine ls 2 H<|sd ((aD bF aZ rfl S (i:=0) G G))<|sr 1 rfl<|sE ?_;clear H a;intro a H
 refine aB H G G Try.func36 G G (vC y l LA lc _ (hy.now S) hyb (hl.now S) hln) ?_;clear H a
 rintro _ _ a ⟨rfl,S2⟩ H
 replace S:=S.call S2;clear S2
 refine ls 1 H<|sr 1 rfl<|sE ?_;clear H a;intro a H
 refine k3 _ _ ?_;clear k3 K3
 refine sS H fun K4 k4=>sr 2 rfl<|sE ?_;clear H a;intro a H
 refine k4 _ ?_;clear k4 K4
 refine condN H rfl (fun hc1=>?_) (fun hc1=>?_)
 ·skip
  replace H:=H.keep [6] rfl
  refine sS H fun K5 k5=>sr 3 rfl<|sE ?_;clear H a;intro a H
  refine k5 _ ?_;clear k5 K5
  refine wp_ret ?_
  refine ret2 (fn:=Try.f13) rfl H G G ?_
  exact .inl ⟨hc1,rfl,(S.sel [] G G)⟩
 have hte:taskE y l=0:=by omega
 have htk0:=jS hte
 have hok:=kX htk0.1
 have htk:∀ k,k<l.length→tskI y (l.getD k Tsk.zero):=fun k hk=>uS (htk0.2.2 k hk)
 refine wp_skip ?_
 refine k2 _ _ ?_
 refine aA fun K6 k6=>?_
 refine ls 1 H<|sd ((aD bF aZ rfl S (i:=0) G G))<|sE ?_;clear H a;intro a H
 refine aB H G G Try.func37 G G (rX y _) ?_;clear H a
 rintro _ _ a ⟨cb,bl,bs,bk,rfl,S2⟩ H
 replace S:=S.call S2;clear S2
 refine ls 1 H<|sr 1 rfl<|sE ?_;clear H a;intro a H
 refine aB H G G Try.func39 G G (Fj y cb bl bs bk l LA lc _ _ ((S.sel [0,1,2,3] G G).startR) (hy.nowR (S.sel [0,1,2,3] G G)) hyb hok (hl.nowR (S.sel [0,1,2,3] G G)) hln htk) ?_;clear H a
 rintro _ _ a ⟨A6,c6,rfl,S2⟩ H
 replace S:=St.callR (M:=[_,_,_,_]) (S.sel [0,1,2,3,4] G G) S2;clear S2
 refine ls 2 H<|sr 2 rfl<|sE ?_;clear H a;intro a H
 refine k6 _ _ ?_;clear k6 K6
 refine wp_ret ?_
 refine ret2 (fn:=Try.f13) rfl H G G ?_
 exact .inr ⟨hte,A6,c6,rfl,(S.sel [0] G G)⟩
theorem pH (y:Yr) (l:List Tsk) (LA:Option Addr) (lc:Nat) (w:World) (hy:YIn w noF y) (hyb:YBd y) (hl:InS w noF 3 LA l.length (aV l)) (hln:l.length≤9223372036854775807) :
    Calls Try.prog 12 [.agg [.int .i64 y.days,.int .i64 y.pl,.slice y.PA y.ps.length y.pc,.slice y.XA y.xs.length y.xc,.slice y.BA y.pe.length y.bc,.int .i64 y.limit,.bool y.help,.slice y.QA y.prs.length y.qc,.slice y.VA y.us.length y.vc,.int .i64 y.crew,.slice y.SA y.sps.length y.sc].toArray,.slice LA l.length lc].toArray w (Ret (fun v w'=>(taskE y l≠0∧v = .tuple #[.int .i64 0,.int .i64 0,.int .i64 (taskE y l)]∧St w noF [] w')∨(taskE y l=0∧v = .tuple #[.int .i64 (judgeV y l).1,.int .i64 (judgeV y l).2,.int .i64 0]∧St w noF [] w'))):=by
 refine enter Try.func12 rfl Try.ntmps12 rfl (fun a H=>?_)
 have S:=St.start w
 refine aA fun K1 k1=>?_
 refine aO H rfl S G G ?_;clear H a S;intro b2 _ a hb2 hbw2 S H
 refine ls 3 H<|sr 3 rfl<|sE ?_;clear H a;intro a H
 refine k1 _ _ ?_;clear k1 K1
 refine wp_seq_k fun K2 k2=>?_
 refine aA fun K3 k3=>?_
 refine ls 2 H<|sd ((aD bF aZ rfl S (i:=0) G G))<|sr 1 rfl<|sE ?_;clear H a;intro a H
 refine aB H G G Try.func36 G G (vC y l LA lc _ (hy.now S) hyb (hl.now S) hln) ?_;clear H a
 rintro _ _ a ⟨rfl,S2⟩ H
 replace S:=S.call S2;clear S2
 refine ls 1 H<|sr 1 rfl<|sE ?_;clear H a;intro a H
 refine k3 _ _ ?_;clear k3 K3
 replace H:=H.keep [1,2,6] rfl
 refine sS H fun K4 k4=>sr 2 rfl<|sE ?_;clear H a;intro a H
 refine k4 _ ?_;clear k4 K4
 refine condN H rfl (fun hc1=>?_) (fun hc1=>?_)
 ·skip
  refine sS H fun K5 k5=>sr 4 rfl<|sE ?_;clear H a;intro a H
  refine k5 _ ?_;clear k5 K5
  refine wp_ret ?_
  refine ret3 (fn:=Try.f12) rfl H G G G ?_
  exact .inl ⟨hc1,rfl,(S.sel [] G G)⟩
 have hte:taskE y l=0:=by omega
 have htk0:=jS hte
 have hok:=kX htk0.1
 have htk:∀ k,k<l.length→tskI y (l.getD k Tsk.zero):=fun k hk=>uS (htk0.2.2 k hk)
 refine wp_skip ?_
 refine k2 _ _ ?_
 replace H:=H.keep [1,2] rfl
 refine aA fun K6 k6=>?_
 refine ls 1 H<|sd ((aD bF aZ rfl S (i:=0) G G))<|sE ?_;clear H a;intro a H
 refine aB H G G Try.func37 G G (rX y _) ?_;clear H a
 rintro _ _ a ⟨cb,bl,bs,bk,rfl,S2⟩ H
 replace S:=S.call S2;clear S2
 refine ls 1 H<|sr 1 rfl<|sE ?_;clear H a;intro a H
 refine aB H G G Try.func38 G G (mV y cb bl bs bk l LA lc _ _ ((S.sel [0,1,2,3] G G).startR) (hy.nowR (S.sel [0,1,2,3] G G)) hyb hok (hl.nowR (S.sel [0,1,2,3] G G)) hln htk htk0.2.1) ?_;clear H a
 rintro _ _ a ⟨rfl,S2⟩ H
 replace S:=St.callR (M:=[_,_,_,_]) (S.sel [0,1,2,3,4] G G) S2;clear S2
 refine ls 5 H<|sr 5 rfl<|sE ?_;clear H a;intro a H
 refine k6 _ _ ?_;clear k6 K6
 replace H:=H.keep [4,5] rfl
 refine sS H fun K7 k7=>sr 5 rfl<|sE ?_;clear H a;intro a H
 refine k7 _ ?_;clear k7 K7
 refine wp_ret ?_
 refine ret3 (fn:=Try.f12) rfl H G G G ?_
 exact .inr ⟨hte,rfl,(S.sel [] G G)⟩
end
section
theorem iR {l:List Use} {m k:Nat} (hk:k<m):(l.take m).getD k Use.zero=l.getD k Use.zero:=by
  rw [List.getD_eq_getElem?_getD,List.getD_eq_getElem?_getD,List.getElem?_take_of_lt hk]
theorem pI {p:Part} {l:List Use} {m:Nat}:∀ k,k≤m→fwd p (l.take m) k=fwd p l k:=by
  intro k
  induction k with
  | zero=>intro _;rfl
  | succ k ih=>
    intro hk
    rw [fwd,fwd,iR (show k<m by omega),ih (by omega)]
theorem wQ {l:List Use} {m:Nat}:∀ k,k≤m→sumT (l.take m) k=sumT l k:=by
  intro k
  induction k with
  | zero=>intro _;rfl
  | succ k ih=>
    intro hk
    rw [sumT,sumT,iR (show k<m by omega),ih (by omega)]
theorem nT {l:List Use} {m k:Nat} (hk:k≤m):prevD (l.take m) k=prevD l k:=by
  cases k with
  | zero=>rfl
  | succ k=>show ((l.take m).getD k Use.zero).day=_;rw [iR (by omega)];rfl
theorem Az {n:Nat} {l:List Use} {m k:Nat} (hk:k≤m) (h:eD n l k=true):eD n (l.take m) k=true:=by
  unfold eD at *
  rw [List.all_eq_true] at *
  intro i hi
  have hi':=List.mem_range.1 hi
  rw [nT (by omega),iR (by omega)]
  exact h i hi
theorem Il {n:Nat} {l:List Use} {k j:Nat} (hj:j≤k) (h:eD n l k=true):eD n l j=true:=by
  unfold eD at *
  rw [List.all_eq_true] at *
  intro i hi
  have hi':=List.mem_range.1 hi
  exact h i (List.mem_range.2 (by omega))
theorem Im {p:Part} {l:List Use} (h:PartOk p l):cG p l=0:=by
  unfold cG
  rw [if_pos h.hdr,if_pos h.rates,if_pos h.len,if_pos h.uses]
theorem Sn {p:Part} {l:List Use} (h:PartOk p l) {m:Nat} (hm:m≤l.length):PartOk p (l.take m):=by
  have e:(l.take m).length=m:=by rw [List.length_take];omega
  refine ⟨h.hdr,h.rates,?_,?_⟩
  · have:=h.len;omega
  · rw [e];exact Az (Nat.le_refl _) (Il hm h.uses)
theorem Nm {p:Part} {l:List Use} (h:PartOk p l) {k:Nat} (hk:k<l.length):(cO p (l.getD k Use.zero)).1≤(cO p (l.getD k Use.zero)).2:=by
  have hu:=h.use hk
  unfold useOk at hu
  simp only [decide_eq_true_eq] at hu
  have hr:=h.rate (k:=(l.getD k Use.zero).cls.toNat) (by omega)
  unfold hX at hr
  simp only [decide_eq_true_eq] at hr
  unfold cO
  exact Int.mul_le_mul_of_nonneg_left hr.2.1 (by omega)
theorem wR {p:Part} {l:List Use} (h:PartOk p l) {k:Nat} (hk:k<l.length) (hf:∀ j,k<j→j<l.length→(l.getD j Use.zero).meas=false):bR p l k=fwd p l (k+1):=by
  have key:∀ d,d<l.length→(∀ j,l.length-1-d<j→j<l.length→(l.getD j Use.zero).meas=false)→bkw p l d=fwd p l (l.length-d):=by
    intro d
    induction d with
    | zero=>intro _ _;rfl
    | succ d ih=>
      intro hd hf
      have h1:=ih (by omega) fun j h1 h2=>hf j (by omega) h2
      have h2:(l.getD (l.length-1-d) Use.zero).meas=false:=hf _ (by omega) (by omega)
      have h3:=Nm h (show l.length-1-d<l.length by omega)
      have e1:l.length-d=(l.length-1-d)+1:=by omega
      have e2:l.length-(d+1)=l.length-1-d:=by omega
      rw [bkw,h1,e1,e2,rR h2]
      unfold meetS addS
      refine Prod.ext ?_ ?_
      · dsimp only;omega
      · dsimp only;omega
  unfold bR
  rw [key (l.length-1-k) (by omega) (fun j h1 h2=>hf j (by omega) h2)]
  congr 1
  omega
theorem Io {p:Part} {l:List Use} (h:PartOk p l) {m:Nat} (hm:m≤l.length) (hf:∀ j,m≤j→j<l.length→(l.getD j Use.zero).meas=false):∀ d k,k+d+1=m→bR p (l.take m) k=bR p l k:=by
  have e:(l.take m).length=m:=by rw [List.length_take];omega
  intro d
  induction d with
  | zero=>
    intro k hk
    rw [wR h (by omega) (fun j h1 h2=>hf j (by omega) h2),wR (Sn h hm) (by omega) (fun j h1 h2=>by omega),pI _ (by omega)]
  | succ d ih=>
    intro k hk
    have h1:=ih (k+1) (by omega)
    rw [eI (l:=l.take m) (by omega),eI (l:=l) (by omega),h1,pI _ (by omega),iR (by omega)]
theorem Ip {p:Part} {l:List Use} {m k:Nat} (hk:k<m) (a:Int):wornB p (l.take m) k a=wornB p l k a:=by
  unfold wornB
  rw [wQ _ (by omega),iR hk]
end
section
def inside (a b:Int×Int):Prop:=b.1≤a.1∧a.2≤b.2
def bH (day turns cls:Int):Use:=⟨day,turns,cls,false,0,0⟩
theorem So {p:Part} {l:List Use} (h:PartOk p l):∀ d k,k+d+1=l.length→(bR p l k).2≤(fwd p l l.length).2:=by
  intro d
  induction d with
  | zero=>intro k hk;rw [lW (by omega)];exact Int.le_refl _
  | succ d ih=>
    intro k hk
    have h1:=ih (k+1) (by omega)
    have h2:=kG h (show k+1<l.length by omega)
    rw [eI (by omega)]
    unfold meetS
    dsimp only
    omega
theorem vE (p:Part) (l:List Use):iL p l=(fwd p l l.length).2:=by
  unfold iL
  split
  · rename_i h;rw [h];rfl
  · rfl
theorem Sp {p:Part} {l:List Use} (h:PartOk p l):∀ d k,k+d=l.length→sumT l k≤sumT l l.length:=by
  intro d
  induction d with
  | zero=>intro k hk;rw [show k=l.length by omega];exact Int.le_refl _
  | succ d ih=>
    intro k hk
    have h1:=ih (k+1) (by omega)
    have hu:=h.use (show k<l.length by omega)
    unfold useOk at hu
    simp only [decide_eq_true_eq] at hu
    rw [sumT] at h1
    omega
theorem Wi {p:Part} {l:List Use} (h:PartOk p l):∀ d k,k+d+1=l.length→(l.getD k Use.zero).day≤prevD l l.length:=by
  intro d
  induction d with
  | zero=>intro k hk;rw [show l.length=k+1 by omega];exact Int.le_refl _
  | succ d ih=>
    intro k hk
    have h1:=ih (k+1) (by omega)
    have hu:=h.use (show k+1<l.length by omega)
    unfold useOk at hu
    simp only [decide_eq_true_eq] at hu
    have:prevD l (k+1)=(l.getD k Use.zero).day:=rfl
    omega
theorem mB {l:List Use} {u:Use}:(l++[u]).getD l.length Use.zero=u:=by
  rw [List.getD_eq_getElem?_getD,List.getElem?_append_right (Nat.le_refl _)];simp
theorem iF (l:List Use) (u:Use):(l++[u]).take l.length=l:=by simp
theorem Sq {p:Part} {l:List Use} (h:PartOk p l) {day turns cls:Int} (hl:l.length<40) (hd:prevD l l.length≤day∧day≤100000) (ht:0≤turns∧turns≤1000000) (hc:0≤cls∧cls≤(p.rates.length:Int)-1):PartOk p (l++[bH day turns cls]):=by
  refine ⟨h.hdr,h.rates,by simp;omega,?_⟩
  have e:(l++[bH day turns cls]).length=l.length+1:=by simp
  unfold eD
  rw [e,hH (n:=0),Bool.and_eq_true]
  constructor
  · rw [List.all_eq_true]
    intro i hi
    have hi':=List.mem_range.1 hi
    have h1:=h.use hi'
    have e1:prevD (l++[bH day turns cls]) i=prevD l i:=by
      have:=nT (l:=l++[bH day turns cls]) (m:=l.length) (k:=i) (by omega)
      rw [iF] at this;exact this.symm
    have e2:(l++[bH day turns cls]).getD i Use.zero=l.getD i Use.zero:=by
      have:=iR (l:=l++[bH day turns cls]) (m:=l.length) (k:=i) hi'
      rw [iF] at this;exact this.symm
    rw [e1,e2];exact h1
  · have e1:prevD (l++[bH day turns cls]) l.length=prevD l l.length:=by
      have:=nT (l:=l++[bH day turns cls]) (m:=l.length) (k:=l.length) (Nat.le_refl _)
      rw [iF] at this;exact this.symm
    rw [e1,mB]
    unfold useOk bH
    simp only [decide_eq_true_eq]
    refine ⟨by omega,by omega,by omega,by omega,fun _=>by constructor <;> trivial⟩
theorem Sr {p:Part} {l:List Use} {day turns cls:Int} (h:IsAt p l l.length):IsAt p (l++[bH day turns cls]) (l++[bH day turns cls]).length:=by
  have e:(l++[bH day turns cls]).length=l.length+1:=by simp
  rw [e]
  refine ⟨by omega,fun k hk=>?_,fun h=>by omega⟩
  by_cases hk2:k<l.length
  · have h1:=h.good k hk2
    have e2:=iR (l:=l++[bH day turns cls]) (m:=l.length) (k:=k) hk2
    have e3:=pI (p:=p) (l:=l++[bH day turns cls]) (m:=l.length) (k+1) (by omega)
    rw [iF] at e2 e3
    unfold fits at *
    rw [←e2,←e3];exact h1
  · rw [show k=l.length by omega]
    refine oY ?_
    rw [mB];rfl
theorem Ba {p:Part} {l:List Use} (h:PartOk p l) (hA:IsAt p l l.length) {day turns cls:Int} (hl:l.length<40) (hd:prevD l l.length≤day∧day≤100000) (ht:0≤turns∧turns≤1000000) (hc:0≤cls∧cls≤(p.rates.length:Int)-1)
    (h1:day≤p.age) (h2:sumT l l.length≤p.turns) (h3:iL p l≤p.worn*1000000) :
    (eB p (l++[bH day turns cls]) Prod.snd).2=0∧((eB p (l++[bH day turns cls]) Prod.snd).1<0↔sumT l l.length+turns≤p.turns∧iL p l+turns*(p.rates.getD cls.toNat (0,0)).2≤p.worn*1000000):=by
  have hok:=Sq h hl hd ht hc
  have hW:wearE p (l++[bH day turns cls])=0:=lX (Im hok) (Sr hA)
  rw [Yo _ hW]
  refine ⟨rfl,?_⟩
  dsimp only
  have e:(l++[bH day turns cls]).length=l.length+1:=by simp
  have early:∀ k,k<l.length→wornB p (l++[bH day turns cls]) k (Prod.snd (bR p (l++[bH day turns cls]) k))=false:=by
    intro k hk
    have t1:=Ip (p:=p) (l:=l++[bH day turns cls]) (m:=l.length) hk (Prod.snd (bR p (l++[bH day turns cls]) k))
    have t2:=Io hok (m:=l.length) (by omega) (fun j h4 h5=>by rw [show j=l.length by omega,mB];rfl) (l.length-1-k) k (by omega)
    rw [iF] at t1 t2
    rw [←t1,←t2]
    have b1:=So h (l.length-1-k) k (by omega)
    have b2:=Sp h (l.length-1-k) (k+1) (by omega)
    have b3:=Wi h (l.length-1-k) k (by omega)
    rw [vE] at h3
    unfold wornB
    simp only [Bool.or_eq_false_iff,decide_eq_false_iff_not]
    omega
  have f1:fwd p (l++[bH day turns cls]) l.length=fwd p l l.length:=by
    have:=pI (p:=p) (l:=l++[bH day turns cls]) (m:=l.length) l.length (Nat.le_refl _)
    rw [iF] at this;exact this.symm
  have s1:sumT (l++[bH day turns cls]) l.length=sumT l l.length:=by
    have:=wQ (l:=l++[bH day turns cls]) (m:=l.length) l.length (Nat.le_refl _)
    rw [iF] at this;exact this.symm
  have last:wornB p (l++[bH day turns cls]) l.length (Prod.snd (bR p (l++[bH day turns cls]) l.length))=!(decide (sumT l l.length+turns≤p.turns)&&decide (iL p l+turns*(p.rates.getD cls.toNat (0,0)).2≤p.worn*1000000)):=by
    rw [lW (by omega),e,rR (by rw [mB];rfl),f1]
    unfold wornB
    rw [sumT,s1,mB,vE]
    rw [Bool.eq_iff_iff]
    simp only [Bool.or_eq_true,decide_eq_true_eq,Bool.not_eq_true',Bool.and_eq_false_iff,decide_eq_false_iff_not]
    unfold addS cO bH
    dsimp only
    omega
  rcases yC (fun k=>wornB p (l++[bH day turns cls]) k (Prod.snd (bR p (l++[bH day turns cls]) k))) (l++[bH day turns cls]).length with ⟨g1,g2⟩|⟨k,hk,g1,g2,g3⟩
  · rw [g1]
    have g4:=g2 l.length (by omega)
    rw [last] at g4
    simp only [Bool.not_eq_false',Bool.and_eq_true,decide_eq_true_eq] at g4
    exact ⟨fun _=>g4,fun _=>by decide⟩
  · rw [g1]
    constructor
    · intro hlt;omega
    · intro hle
      exfalso
      rcases Nat.lt_or_ge k l.length with h5|h5
      · rw [early k h5] at g2;cases g2
      · rw [show k=l.length by omega,last,decide_eq_true hle.1,decide_eq_true hle.2] at g2
        cases g2
end
section
theorem Nn {p:Part} {l:List Use} (h:PartOk p l) (hA:IsAt p l l.length) {day turns cls:Int} (hl:l.length<40) (hd:prevD l l.length≤day∧day≤100000) (ht:0≤turns∧turns≤1000000) (hc:0≤cls∧cls≤(p.rates.length:Int)-1)
    (h1:day≤p.age) (h2:sumT l l.length≤p.turns) (h3:iL p l≤p.worn*1000000):bydB p (l++[bH day turns cls])=!(decide (sumT l l.length+turns≤p.turns)&&decide (iL p l+turns*(p.rates.getD cls.toNat (0,0)).2≤p.worn*1000000)):=by
  obtain ⟨e1,e2⟩:=Ba h hA hl hd ht hc h1 h2 h3
  unfold bydB
  rw [decide_eq_true e1,Bool.not_true,Bool.false_or]
  by_cases h9:sumT l l.length+turns≤p.turns∧iL p l+turns*(p.rates.getD cls.toNat (0,0)).2≤p.worn*1000000
  · have:=e2.2 h9
    rw [decide_eq_true h9.1,decide_eq_true h9.2,decide_eq_false (by omega)];rfl
  · have h8:¬ (eB p (l++[bH day turns cls]) Prod.snd).1<0:=fun h=>h9 (e2.1 h)
    rw [decide_eq_true (p:=0≤_) (by omega)]
    by_cases h7:sumT l l.length+turns≤p.turns
    · rw [decide_eq_true h7,decide_eq_false (fun h=>h9 ⟨h7,h⟩)];rfl
    · rw [decide_eq_false h7];rfl
theorem qH {p:Part} {l:List Use} (h:∀ k,k<l.length→(l.getD k Use.zero).meas=false):IsAt p l l.length:=
  ⟨Nat.le_refl _,fun k hk=>oY (h k hk),fun h=>absurd h (Nat.lt_irrefl _)⟩
def exPr:List Prm:=[⟨0,2,0,0,false⟩,⟨0,2,2,3,false⟩]
def exPt:Part:=⟨[(1,2)],1,1000000,1000⟩
def exU0 (RA:Option Addr) (rc:Nat):Unt:=⟨0,2,0,[(1,2)],RA,rc,1,1000000,1000,[],none,0,0,400000,0,0⟩
def exU1 (RA:Option Addr) (rc:Nat):Unt:=⟨1,2,0,[(1,2)],RA,rc,1,1000000,1000,[],none,0,0,1000,0,1⟩
def exU (RA:Option Addr) (rc:Nat):List Unt:=[exU0 RA rc,exU1 RA rc]
def exYr (PA:Option Addr) (pc:Nat) (XA:Option Addr) (xc:Nat) (BA:Option Addr) (bc:Nat) (QA:Option Addr) (qc:Nat) (VA:Option Addr) (vc:Nat) (RA:Option Addr) (rc:Nat):Yr:=⟨4,4,w8exW,PA,pc,exX,XA,xc,w8exP,BA,bc,6,false,exPr,QA,qc,exU RA rc,VA,vc,1,[],none,0⟩
section
variable {PA:Option Addr} {pc:Nat} {XA:Option Addr} {xc:Nat} {BA:Option Addr} {bc:Nat} {QA:Option Addr} {qc:Nat} {VA:Option Addr} {vc:Nat} {RA:Option Addr} {rc:Nat}
theorem Np:keptE 4 w8exW exX [] exPr=0:=by decide +kernel
theorem Nq (k:Nat) (hk:k<2):untB w8exW (exU RA rc) k=true:=by
  rw [iQ]
  match k,hk with
  | 0,_=>exact ⟨qE.2 ⟨⟨1,by decide,by decide,rfl⟩,fun k hk=>absurd hk (Nat.not_lt_zero k)⟩,(show untI (exU0 none 0) by decide),lX (show cG exPt []=0 by decide +kernel) (qH fun q hq=>absurd hq (Nat.not_lt_zero q))⟩
  | 1,_=>exact ⟨qE.2 ⟨⟨2,by decide,by decide,rfl⟩,fun k hk=>by
      have:k=0:=by omega
      subst this
      exact (by decide:(0:Int)≠1)⟩,(show untI (exU1 none 0) by decide),lX (show cG exPt []=0 by decide +kernel) (qH fun q hq=>absurd hq (Nat.not_lt_zero q))⟩
theorem Bb:yearE (exYr PA pc XA xc BA bc QA qc VA vc RA rc)=0:=
  uP Np (show yrI (exYr none 0 none 0 none 0 none 0 none 0 none 0) by unfold yrI;decide +kernel) (by show ¬ 6<2;decide) (bG.2 fun k hk=>Nq k hk)
end
theorem qI (l:List Use) {day turns:Int} {b:Bool} (h:cG exPt l=0) (hm:∀ k,k<l.length→(l.getD k Use.zero).meas=false) (hl:l.length<40) (hd:prevD l l.length≤day∧day≤1000) (ht:0≤turns∧turns≤1000000)
    (h2:sumT l l.length≤1000000) (h3:iL exPt l≤1000000) (hb:b=(decide (sumT l l.length+turns≤1000000)&&decide (iL exPt l+turns*2≤1000000))):bydB exPt (l++[bH day turns 0])=!b:=by
  rw [Nn (kF h) (qH hm) hl (by omega) ht (by decide) (by show day≤1000;omega) (by show _≤(1000000:Int);omega) (by show _≤(1:Int)*1000000;omega),hb]
  rfl
def us1 (d:Int) (t:Int):Use:=⟨d,t,0,false,0,0⟩
section
variable {RA:Option Addr} {rc:Nat} {J:Nat→Int}
theorem m1 {P:Use→Prop} {u:Use} (h:P u):∀ k,k<[u].length→P ([u].getD k Use.zero):=fun k hk=>by
  have:k=0:=by simp at hk;omega
  subst this
  exact h
theorem m2 {P:Use→Prop} {u v:Use} (h:P u) (h':P v):∀ k,k<[u,v].length→P ([u,v].getD k Use.zero):=fun k hk=>by
  have:k=0∨k=1:=by simp at hk;omega
  rcases this with rfl|rfl
  · exact h
  · exact h'
theorem byd0 (t:Int) (ht:t=400000∨t=1000):bydB exPt [bH 0 t 0]=false:=by
  rcases ht with rfl|rfl
  · exact qI [] (b:=true) (by decide +kernel) (fun q hq=>absurd hq (Nat.not_lt_zero q)) (by decide) (by decide) (by decide) (by decide) (by decide) (by decide +kernel)
  · exact qI [] (b:=true) (by decide +kernel) (fun q hq=>absurd hq (Nat.not_lt_zero q)) (by decide) (by decide) (by decide) (by decide) (by decide) (by decide +kernel)
theorem byd1 (d:Int) (hd:0≤d∧d≤1000):bydB exPt [us1 0 400000,bH d 400000 0]=true:=
  qI [us1 0 400000] (b:=false) (by decide +kernel) (m1 (P:=fun u=>u.meas=false) rfl) (by decide) hd (by decide) (by decide +kernel) (by decide +kernel) (by decide +kernel)
theorem byd2 (d:Int) (hd:0≤d∧d≤1000):bydB exPt [us1 0 1000,bH d 1000 0]=false:=
  qI [us1 0 1000] (b:=true) (by decide +kernel) (m1 (P:=fun u=>u.meas=false) rfl) (by decide) hd (by decide) (by decide +kernel) (by decide +kernel) (by decide +kernel)
theorem byd3:bydB exPt [us1 0 1000,us1 1 1000,bH 2 1000 0]=false:=
  qI [us1 0 1000,us1 1 1000] (b:=true) (by decide +kernel) (m2 (P:=fun u=>u.meas=false) G G) (by decide) (by decide) (by decide) (by decide +kernel) (by decide +kernel) (by decide +kernel)
theorem byd4:bydB exPt [us1 0 1000,us1 2 1000,bH 3 1000 0]=false:=
  qI [us1 0 1000,us1 2 1000] (b:=true) (by decide +kernel) (m2 (P:=fun u=>u.meas=false) G G) (by decide) (by decide) (by decide) (by decide +kernel) (by decide +kernel) (by decide +kernel)
theorem nU {u:Unt} {s:LSt} {j:Int} {d:Nat} {b b':Bool} (h:bydB u.part (s.uses++[useAt u d s.born])=b) (h2:b'=((decide (j=0)&&certN u s j d)&&!b)):runN u s j d=b':=by unfold runN;rw [h,h2]
theorem vF {u:Unt} {s:LSt} {j:Int} {d:Nat} (h:runN u s j d=true) (hr:renw j=false):stepL u s j d=⟨s.uses++[useAt u d s.born],s.born,seenN s j d⟩:=by unfold stepL;rw [hr,h];rfl
theorem Nr {u:Unt} {s:LSt} {j:Int} {d:Nat} (h:runN u s j d=false) (hr:renw j=false):stepL u s j d=⟨s.uses,s.born,seenN s j d⟩:=by unfold stepL;rw [hr,h];rfl
theorem Yv (h:J 0=0):runB' (exU0 RA rc) J 0=true:=by
  show runN (exU0 RA rc) ⟨[],0,0⟩ (J 0) 0=true
  rw [h];exact nU (byd0 400000 (.inl rfl)) rfl
theorem Zk (h:J 0=0):lifeS (exU0 RA rc) J 1=⟨[us1 0 400000],0,0⟩:=by
  show stepL (exU0 RA rc) ⟨[],0,0⟩ (J 0) 0=_
  have h1:runN (exU0 RA rc) ⟨[],0,0⟩ (J 0) 0=true:=Yv (RA:=RA) (rc:=rc) h
  rw [h] at h1 ⊢
  rw [vF h1 (by decide)];rfl
theorem Ss {d:Nat} (hd:d≤3) (s j:Int):runN (exU0 RA rc) ⟨[us1 0 400000],0,s⟩ j d=false:=
  nU (b:=true) (by
    show bydB exPt [us1 0 400000,bH ((d:Int)-0) 400000 0]=true
    rw [Int.sub_zero];exact byd1 d (by omega)) (by simp)
theorem Yw {d:Nat} (hd:d≤3) (h1:lifeS (exU0 RA rc) J d=⟨[us1 0 400000],0,0⟩) (h:J d=0):lifeS (exU0 RA rc) J (d+1)=⟨[us1 0 400000],0,0⟩:=by
  show stepL (exU0 RA rc) (lifeS (exU0 RA rc) J d) (J d) d=_
  rw [h1,h,Nr (Ss hd 0 0) (by decide)];rfl
theorem z0 (h:∀ d,J d=0) {d:Nat} (hd:d≤3):runB' (exU0 RA rc) J d=decide (d=0):=by
  have h1:=Zk (RA:=RA) (rc:=rc) (h 0)
  have h2:=Yw (by omega) h1 (h 1)
  have h3:=Yw (by omega) h2 (h 2)
  match d,hd with
  | 0,_=>exact Yv (h 0)
  | 1,_=>unfold runB';rw [h1];exact Ss (by omega) _ _
  | 2,_=>unfold runB';rw [h2];exact Ss (by omega) _ _
  | 3,_=>unfold runB';rw [h3];exact Ss (by omega) _ _
theorem Wj (h:J 0=0):runB' (exU1 RA rc) J 0=true:=by
  show runN (exU1 RA rc) ⟨[],0,0⟩ (J 0) 0=true
  rw [h];exact nU (byd0 1000 (.inr rfl)) rfl
theorem Yx (h:J 0=0):lifeS (exU1 RA rc) J 1=⟨[us1 0 1000],0,0⟩:=by
  show stepL (exU1 RA rc) ⟨[],0,0⟩ (J 0) 0=_
  have h1:runN (exU1 RA rc) ⟨[],0,0⟩ (J 0) 0=true:=Wj (RA:=RA) (rc:=rc) h
  rw [h] at h1 ⊢
  rw [vF h1 (by decide)];rfl
theorem Wl (h:∀ d,J d=0) {d:Nat} (hd:d≤3):runB' (exU1 RA rc) J d=decide (d≠3):=by
  have h1:=Yx (RA:=RA) (rc:=rc) (h 0)
  have r1:runN (exU1 RA rc) ⟨[us1 0 1000],0,0⟩ 0 1=true:=nU (byd2 1 (by decide)) rfl
  have h2:lifeS (exU1 RA rc) J 2=⟨[us1 0 1000,us1 1 1000],0,0⟩:=by
    show stepL (exU1 RA rc) (lifeS (exU1 RA rc) J 1) (J 1) 1=_
    rw [h1,h 1,vF r1 (by decide)];rfl
  have r2:runN (exU1 RA rc) ⟨[us1 0 1000,us1 1 1000],0,0⟩ 0 2=true:=nU byd3 rfl
  have h3:(lifeS (exU1 RA rc) J 3).seen=0:=by
    show (stepL (exU1 RA rc) (lifeS (exU1 RA rc) J 2) (J 2) 2).seen=_
    rw [h2,h 2,vF r2 (by decide)];rfl
  match d,hd with
  | 0,_=>exact Wj (h 0)
  | 1,_=>unfold runB';rw [h1,h 1];exact r1
  | 2,_=>unfold runB';rw [h2,h 2];exact r2
  | 3,_=>
    unfold runB' runN
    have:certN (exU1 RA rc) (lifeS (exU1 RA rc) J 3) (J 3) 3=false:=by
      unfold certN seenN
      rw [h3,h 3];rfl
    rw [this,Bool.and_false,Bool.false_and];rfl
theorem Wm (h0:J 0=0) (h1':J 1=2) (h2':J 2=0) (h3':J 3=0) {d:Nat} (hd:d≤3):runB' (exU1 RA rc) J d=decide (d≠1):=by
  have h1:=Yx (RA:=RA) (rc:=rc) h0
  have r1:runN (exU1 RA rc) ⟨[us1 0 1000],0,0⟩ 2 1=false:=by unfold runN;rfl
  have h2:lifeS (exU1 RA rc) J 2=⟨[us1 0 1000],0,1⟩:=by
    show stepL (exU1 RA rc) (lifeS (exU1 RA rc) J 1) (J 1) 1=_
    rw [h1,h1',Nr r1 (by decide)];rfl
  have r2:runN (exU1 RA rc) ⟨[us1 0 1000],0,1⟩ 0 2=true:=nU (byd2 2 (by decide)) rfl
  have h3:lifeS (exU1 RA rc) J 3=⟨[us1 0 1000,us1 2 1000],0,1⟩:=by
    show stepL (exU1 RA rc) (lifeS (exU1 RA rc) J 2) (J 2) 2=_
    rw [h2,h2',vF r2 (by decide)];rfl
  match d,hd with
  | 0,_=>exact Wj h0
  | 1,_=>unfold runB';rw [h1,h1'];exact r1
  | 2,_=>unfold runB';rw [h2,h2'];exact r2
  | 3,_=>unfold runB';rw [h3,h3'];exact nU byd4 rfl
end
end
section
def ex6 (i:Nat):Int:=[6,1,0,-1].getD i (-1)
def ex3 (i:Nat):Int:=[-1,1,0,-1].getD i (-1)
theorem Ns (out:Int) (h2:oth out false (w8exW.getD 2 Psg.zero) 0=((1:Nat):Int)) (h3:oth out false (w8exW.getD 3 Psg.zero) 1=((2:Nat):Int)) (key:∀ i:Nat,i<4→∀ k:Nat,k<5→(oth out false (w8exW.getD k Psg.zero) i<0∨ex6 (oth out false (w8exW.getD k Psg.zero) i).toNat<0∨(0≤ex6 i∧ex6 i≤ex6 (oth out false (w8exW.getD k Psg.zero) i).toNat+(w8exW.getD k Psg.zero).ticks))):FarOk 4 w8exW out false 2 ex6:=by
  have w2:Wk w8exW out false 2 2 0 []:=Wk.nil 2
  have w1:Wk w8exW out false 1 2 1 [3]:=Wk.cons (k:=3) (by decide) h3 w2
  have w0:Wk w8exW out false 0 2 6 [2,3]:=Wk.cons (k:=2) (by decide) h2 w1
  refine ⟨rfl,fun i=>?_,fun i hi h0=>?_,fun i hi k hk=>lV (key i hi k hk),fun i hi=>?_⟩
  · unfold ex6
    match i with
    | 0=>decide
    | 1=>decide
    | 2=>decide
    | 3=>decide
    | n+4=>exact Int.le_refl _
  · match i,hi with
    | 0,_=>exact ⟨_,w0⟩
    | 1,_=>exact ⟨_,w1⟩
    | 2,_=>exact ⟨_,w2⟩
    | 3,_=>exact absurd h0 (by decide)
  · have key:∀ i:Nat,i<4→ex6 i≤200:=by decide +kernel
    exact key i hi
theorem Wn:FarOk 4 w8exW 3 false 2 ex3:=by
  have w2:Wk w8exW 3 false 2 2 0 []:=Wk.nil 2
  have w1:Wk w8exW 3 false 1 2 1 [3]:=Wk.cons (k:=3) (by decide) (by decide +kernel) w2
  refine ⟨rfl,fun i=>?_,fun i hi h0=>?_,fun i hi k hk=>lV ?_,fun i hi=>?_⟩
  · unfold ex3
    match i with
    | 0=>decide
    | 1=>decide
    | 2=>decide
    | 3=>decide
    | n+4=>exact Int.le_refl _
  · match i,hi with
    | 0,_=>exact absurd h0 (by decide)
    | 1,_=>exact ⟨_,w1⟩
    | 2,_=>exact ⟨_,w2⟩
    | 3,_=>exact absurd h0 (by decide)
  · have key:∀ i:Nat,i<4→∀ k:Nat,k<5→(oth 3 false (w8exW.getD k Psg.zero) i<0∨ex3 (oth 3 false (w8exW.getD k Psg.zero) i).toNat<0∨(0≤ex3 i∧ex3 i≤ex3 (oth 3 false (w8exW.getD k Psg.zero) i).toNat+(w8exW.getD k Psg.zero).ticks)):=by decide +kernel
    exact key i hi k hk
  · have key:∀ i:Nat,i<4→ex3 i≤200:=by decide +kernel
    exact key i hi
theorem exD0:dst 4 w8exW 0 false 2 0=6:=jW exV.psv (Ns 0 (by decide +kernel) (by decide +kernel) (by decide +kernel)) (by decide)
theorem exD1:dst 4 w8exW 1 false 2 0=6:=jW exV.psv (Ns 1 (by decide +kernel) (by decide +kernel) (by decide +kernel)) (by decide)
theorem exD3:dst 4 w8exW 3 false 2 0 = -1:=jW exV.psv Wn (by decide)
def exM0:List Mv:=[⟨0,0,0,2⟩,⟨0,0,1,2⟩,⟨0,0,2,2⟩,⟨1,0,2,2⟩,⟨1,0,3,2⟩,⟨3,1,3,2⟩,⟨3,1,4,4⟩,⟨3,1,5,4⟩]
def exM1:List Mv:=[⟨0,0,0,2⟩,⟨0,0,1,2⟩,⟨0,0,2,2⟩,⟨1,0,0,2⟩,⟨1,0,1,2⟩,⟨3,1,3,2⟩,⟨3,1,4,4⟩,⟨3,1,5,4⟩]
theorem exPe:PeOk w8exP:=by
  have key:∀ k:Nat,k<4→0≤w8exP.getD k 0∧w8exP.getD k 0≤1000:=by decide
  exact key
theorem exAll0:mfv 4 6 w8exP exX (hds 0 exX w8exW)=10:=by
  have h1:=Ev (T:=6) exV (by decide:(0:Int)≤0) exPe (by decide) (show planB w8exW exX 0 w8exP exM0 4=true by decide +kernel)
  have h2:=Eu (T:=6) exV (by decide:(0:Int)≤0) exPe
  have e1:outN w8exW exX 0 w8exP exM0 4 6=10:=by decide +kernel
  have e2:sumI w8exP 4=10:=by decide +kernel
  omega
theorem exAll1:mfv 4 6 w8exP exX (hds 1 exX w8exW)=10:=by
  have h1:=Ev (T:=6) exV (by decide:(0:Int)≤1) exPe (by decide) (show planB w8exW exX 1 w8exP exM1 4=true by decide +kernel)
  have h2:=Eu (T:=6) exV (by decide:(0:Int)≤1) exPe
  have e1:outN w8exW exX 1 w8exP exM1 4 6=10:=by decide +kernel
  have e2:sumI w8exP 4=10:=by decide +kernel
  omega
def exJob:List Tsk:=[⟨1,1,1⟩]
section
variable {PA:Option Addr} {pc:Nat} {XA:Option Addr} {xc:Nat} {BA:Option Addr} {bc:Nat} {QA:Option Addr} {qc:Nat} {VA:Option Addr} {vc:Nat} {RA:Option Addr} {rc:Nat}
theorem Su:taskE (exYr PA pc XA xc BA bc QA qc VA vc RA rc) []=0:=kI Bb (by decide) rfl
theorem Sv:taskE (exYr PA pc XA xc BA bc QA qc VA vc RA rc) exJob=0:=kI Bb (by decide) (bG.2 fun k hk=>by
  have:k=0:=by have:exJob.length=1:=rfl;omega
  subst this
  rfl)
theorem Bc {l:List Tsk} {d:Nat} {a b:Bool} (ha:runsY (exYr PA pc XA xc BA bc QA qc VA vc RA rc) l 0 d=a) (hb:runsY (exYr PA pc XA xc BA bc QA qc VA vc RA rc) l 1 d=b):outY (exYr PA pc XA xc BA bc QA qc VA vc RA rc) l d 2=(if a=true then 0 else 1)+(if b=true then 0 else 2):=by
  show (0+(if runsY (exYr PA pc XA xc BA bc QA qc VA vc RA rc) l 0 d=true then 0 else 2^0))+(if runsY (exYr PA pc XA xc BA bc QA qc VA vc RA rc) l 1 d=true then 0 else 2^1)=_
  rw [ha,hb]
  cases a <;> cases b <;> rfl
theorem exR0 {l:List Tsk} (h:∀ d,jobF l 0 d=0) {d:Nat} (hd:d≤3):runsY (exYr PA pc XA xc BA bc QA qc VA vc RA rc) l 0 d=decide (d=0):=z0 (RA:=RA) (rc:=rc) h hd
theorem exJ0 (d:Nat):jobF exJob 0 d=0:=by
  unfold jobF jobV hasT exJob
  simp
theorem exR1n {d:Nat} (hd:d≤3):runsY (exYr PA pc XA xc BA bc QA qc VA vc RA rc) [] 1 d=decide (d≠3):=Wl (RA:=RA) (rc:=rc) (J:=jobF [] 1) (fun _=>rfl) hd
theorem exR1o {d:Nat} (hd:d≤3):runsY (exYr PA pc XA xc BA bc QA qc VA vc RA rc) exJob 1 d=decide (d≠1):=Wm (RA:=RA) (rc:=rc) (J:=jobF exJob 1) (by decide +kernel) (by decide +kernel) (by decide +kernel) (by decide +kernel) hd
theorem exOn {d:Nat} (hd:d≤3):outY (exYr PA pc XA xc BA bc QA qc VA vc RA rc) [] d (exYr PA pc XA xc BA bc QA qc VA vc RA rc).us.length=[0,1,1,3].getD d 0:=by
  show outY (exYr PA pc XA xc BA bc QA qc VA vc RA rc) [] d 2=_
  rw [Bc (exR0 (fun _=>rfl) hd) (exR1n hd)]
  match d,hd with
  | 0,_=>rfl
  | 1,_=>rfl
  | 2,_=>rfl
  | 3,_=>rfl
theorem exOo {d:Nat} (hd:d≤3):outY (exYr PA pc XA xc BA bc QA qc VA vc RA rc) exJob d (exYr PA pc XA xc BA bc QA qc VA vc RA rc).us.length=[0,3,1,1].getD d 0:=by
  show outY (exYr PA pc XA xc BA bc QA qc VA vc RA rc) exJob d 2=_
  rw [Bc (exR0 exJ0 hd) (exR1o hd)]
  match d,hd with
  | 0,_=>rfl
  | 1,_=>rfl
  | 2,_=>rfl
  | 3,_=>rfl
theorem rY {d out:Int} {a b:Bool} (ha:prmB (exYr PA pc XA xc BA bc QA qc VA vc RA rc) d out 0=a) (hb:prmB (exYr PA pc XA xc BA bc QA qc VA vc RA rc) d out 1=b):keepB (exYr PA pc XA xc BA bc QA qc VA vc RA rc) d out=((true&&a)&&b):=by rw [←ha,←hb];rfl
theorem Fk {d out x:Int} (h:dst 4 w8exW out false 2 0=x):prmB (exYr PA pc XA xc BA bc QA qc VA vc RA rc) d out 0=(!(decide (0≤d)&&decide (d≤0))||decide (0≤x)):=by rw [←h];rfl
theorem Fm {d out x:Int} (h:dst 4 w8exW out false 2 0=x):prmB (exYr PA pc XA xc BA bc QA qc VA vc RA rc) d out 1=(!(decide (2≤d)&&decide (d≤3))||decide (0≤x)):=by rw [←h];rfl
theorem Yy:keepB (exYr PA pc XA xc BA bc QA qc VA vc RA rc) (0:Nat) 0=true:=rY (Fk exD0) (Fm exD0)
theorem Yz:keepB (exYr PA pc XA xc BA bc QA qc VA vc RA rc) (1:Nat) 1=true:=rY (Fk exD1) (Fm exD1)
theorem Za:keepB (exYr PA pc XA xc BA bc QA qc VA vc RA rc) (2:Nat) 1=true:=rY (Fk exD1) (Fm exD1)
theorem Zb:keepB (exYr PA pc XA xc BA bc QA qc VA vc RA rc) (3:Nat) 3=false:=rY (Fk exD3) (Fm exD3)
theorem Zc:leavB (exYr PA pc XA xc BA bc QA qc VA vc RA rc) 0=true:=decide_eq_true (show mfv 4 6 w8exP exX (hds 0 exX w8exW)=sumI w8exP 4 from exAll0.trans (by decide +kernel))
theorem Uy:leavB (exYr PA pc XA xc BA bc QA qc VA vc RA rc) 1=true:=decide_eq_true (show mfv 4 6 w8exP exX (hds 1 exX w8exW)=sumI w8exP 4 from exAll1.trans (by decide +kernel))
theorem Dn {d:Nat} (hd:d≤3) {o:Int} (ho:[0,1,1,3].getD d 0=o) (hk:keepB (exYr PA pc XA xc BA bc QA qc VA vc RA rc) d o=true) (hl:leavB (exYr PA pc XA xc BA bc QA qc VA vc RA rc) o=true):faultD (exYr PA pc XA xc BA bc QA qc VA vc RA rc) [] d=0:=
  yL (by show ¬ (1:Int)<0;decide) rfl (by rw [exOn hd,ho];exact hk) (by rw [exOn hd,ho];exact hl)
theorem Nt:judgeV (exYr PA pc XA xc BA bc QA qc VA vc RA rc) []=(3,3):=by
  have h3:faultD (exYr PA pc XA xc BA bc QA qc VA vc RA rc) [] 3=3:=rW (by show ¬ (1:Int)<0;decide) rfl (by rw [exOn (by decide)];exact Zb)
  rw [lZ (d:=3) (by show 3<(4:Int).toNat;decide) (fun q hq=>?_) (by rw [h3];decide),h3]
  · rfl
  · match q,hq with
    | 0,_=>exact Dn (by decide) (o:=0) rfl Yy Zc
    | 1,_=>exact Dn (by decide) (o:=1) rfl Yz Uy
    | 2,_=>exact Dn (by decide) (o:=1) rfl Za Uy
end
end
section
def MList (ps:List Psg) (k:Nat) (ml:List Int):Prop:=ml.length≤k∧∀ m,0≤m→(hasI ml m=true↔¬ cntM ps m k=0)
theorem MList.nil {ps:List Psg}:MList ps 0 []:=⟨Nat.le_refl 0,fun m _=>by
  constructor
  · intro h;cases h
  · intro h;exact absurd rfl h⟩
theorem wS {ps:List Psg} {m:Int} {k:Nat}:cntM ps m (k+1)=cntM ps m k+(if cH ps k=m then 1 else 0):=rfl
theorem Iq {l:List Int} {x m:Int}:hasI (l++[x]) m=(hasI l m||decide (m=x)):=by unfold hasI;rw [List.any_append];simp
theorem MList.add {ps:List Psg} {k:Nat} {ml:List Int} (h:MList ps k ml):MList ps (k+1) (ml++[cH ps k]):=⟨by rw [List.length_append];have:=h.1;simp;omega,fun m hm=>by
  have h1:=h.2 m hm
  have h2:=Ek (ps:=ps) (m:=m) (k:=k)
  rw [Iq,wS,Bool.or_eq_true,decide_eq_true_eq,h1]
  by_cases e:cH ps k=m
  · rw [if_pos e];exact ⟨fun _=>by omega,fun _ => .inr e.symm⟩
  · rw [if_neg e,Int.add_zero];exact ⟨fun g=>g.resolve_right (fun g=>e g.symm),.inl⟩⟩
theorem MList.skip {ps:List Psg} {k:Nat} {ml:List Int} (h:MList ps k ml) (hk:cH ps k<0):MList ps (k+1) ml:=⟨by have:=h.1;omega,fun m hm=>by
  rw [wS,if_neg (by omega),Int.add_zero]
  exact h.2 m hm⟩
theorem MList.fresh {ps:List Psg} {k:Nat} {ml:List Int} (h:MList ps k ml) (h0:0≤(ps.getD k Psg.zero).mach) (hh:hasI ml (ps.getD k Psg.zero).mach=false):cntM ps (cH ps k) k=0:=by
  have h9:=h.2 _ h0
  rw [hh] at h9
  have h8:cH ps k=(ps.getD k Psg.zero).mach:=rfl
  rw [h8]
  simp only [Bool.false_eq_true,false_iff] at h9
  omega
theorem pJ {pl:Int} {ps:List Psg} {k:Nat} (h:psgOk pl (ps.getD k Psg.zero)=true) (hz:cntM ps (cH ps k) k=0):pasOk pl ps k=true:=by unfold pasOk;rw [h,decide_eq_true (.inr hz)];rfl
theorem pK {pl:Int} {ps:List Psg} {k:Nat} (h:psgOk pl (ps.getD k Psg.zero)=true) (hz:(ps.getD k Psg.zero).mach<0):pasOk pl ps k=true:=by unfold pasOk;rw [h,decide_eq_true (.inl hz)];rfl
theorem Sw {pl:Int} {ps:List Psg} {k:Nat} {ml:List Int} (hM:MList ps k ml) (hc:((ps.getD k Psg.zero).mach<0∨11<(ps.getD k Psg.zero).mach)∨hasI ml (ps.getD k Psg.zero).mach=true) (hk:(ps.getD k Psg.zero).kind=3∨(ps.getD k Psg.zero).kind=4):pasOk pl ps k=false:=by
  unfold pasOk
  rw [Bool.and_eq_false_iff]
  by_cases h0:0≤(ps.getD k Psg.zero).mach∧(ps.getD k Psg.zero).mach≤11
  · refine .inr (decide_eq_false ?_)
    have h9:=hM.2 _ h0.1
    have h8:cH ps k=(ps.getD k Psg.zero).mach:=rfl
    rw [h8]
    rcases hc with h7|h7
    · omega
    · rw [h7] at h9
      simp only [true_iff] at h9
      omega
  · exact .inl (fT (by omega))
theorem Sx {pl:Int} {xs:List Int} {k:Nat} (h:(0≤xs.getD k 0∧xs.getD k 0≤pl-1)∧(k=0∨xs.getD (k-1) 0<xs.getD k 0)):exOk pl xs k=true:=by unfold exOk;rw [decide_eq_true_eq];omega
theorem Sy {pl:Int} {xs:List Int} {k:Nat} (h:¬ ((0≤xs.getD k 0∧xs.getD k 0≤pl-1)∧(k=0∨xs.getD (k-1) 0<xs.getD k 0))):exOk pl xs k=false:=by unfold exOk;rw [decide_eq_false_iff_not];omega
theorem Do {l:List Int} {x:Int} {v:Value} (hv:v = .int .i64 x):∀ k j,k<l.length+1→j<1→capp l.length (icl l) (fun k' j=>([[v]].getD k' []).getD j undef) k j=icl (l++[x]) k j:=by
  intro k j hk hj
  have:j=0:=by omega
  subst this
  subst hv
  unfold capp icl
  by_cases h:k<l.length
  · rw [if_pos h,List.getD_eq_getElem?_getD,List.getD_eq_getElem?_getD,List.getElem?_append_left h]
  · have e:k=l.length:=by omega
    subst e
    rw [if_neg h,Nat.sub_self,List.getD_eq_getElem?_getD,List.getElem?_append_right (Nat.le_refl _),Nat.sub_self]
    rfl
theorem cJ (n lo hi:Int) (w:World) :
    Calls Try.prog 71 [.int .i64 n,.int .i64 lo,.int .i64 hi].toArray w (Ret (fun v w'=>v = .bool (decide (lo≤n)&&decide (n≤hi))∧w'=w)):=by
 refine enter Try.func71 rfl Try.ntmps71 rfl (fun a H=>?_)
 have S:=St.start w
 refine sS H fun K1 k1=>sr 1 rfl<|sE ?_;clear H a;intro a H
 refine k1 _ ?_;clear k1 K1
 replace H:=H.keep [0,1,2] rfl
 refine sS H fun K2 k2=>sr 4 rfl<|sg 3 3 10 13 true G G (fun hg4=>sy hg4<|sr 1 rfl<|sy hg4<|sr 1 rfl<|sy hg4<|sr 1 rfl<|sz 3 G G G)<|sa G G G<|sr 1 rfl<|sE ?_;clear H a;intro a H
 refine k2 _ ?_;clear k2 K2
 refine wp_ret ?_
 refine ret1 (fn:=Try.f71) rfl H rfl ?_
 exact ⟨rfl,rfl⟩
theorem yM (n:Int) (w:World) :
    Calls Try.prog 83 [.int .i64 n].toArray w (Ret (fun v w'=>v = .bool (decide (0≤n)&&decide (n≤4095))∧w'=w)):=by
 refine enter Try.func83 rfl Try.ntmps83 rfl (fun a H=>?_)
 have S:=St.start w
 refine sS H fun K1 k1=>sr 1 rfl<|sE ?_;clear H a;intro a H
 refine k1 _ ?_;clear k1 K1
 refine sS H fun K2 k2=>sr 1 rfl<|sc rfl Try.func71 G G (cJ _ _ _ _)<|sr 1 rfl<|sE ?_;clear H a;intro a H
 refine k2 _ ?_;clear k2 K2
 refine wp_ret ?_
 refine ret1 (fn:=Try.f83) rfl H rfl ?_
 exact ⟨rfl,rfl⟩
theorem Ta (l:List Int) (A:Option Addr) (cp:Nat) (x:Int) (w:World) (hl:InS w noF 1 A l.length (icl l)) (hn:l.length≤9223372036854775807) :
    Calls Try.prog 72 [.slice A l.length cp,.int .i64 x].toArray w (Ret (fun u w'=>u = .bool (hasI l x)∧St w noF [] w')):=by
 refine enter Try.func72 rfl Try.ntmps72 rfl (fun a H=>?_)
 have S:=St.start w
 refine sS H fun K1 k1=>sr 1 rfl<|sE ?_;clear H a;intro a H
 refine k1 _ ?_;clear k1 K1
 refine wp_seq_k fun K2 k2=>?_
 refine sS H fun K3 k3=>sr 1 rfl<|sE ?_;clear H a;intro a H
 refine k3 _ ?_;clear k3 K3
 refine wp_block ?_
 refine loop_st (X:=Nat) (R0:=_) [0,1] H rfl (fun k=>[(5,.int .i64 (k:Int))]) (fun k=>[]) (fun g k=>k≤l.length∧g+k=l.length∧(l.take k).any (fun y=>decide (x=y))=false) (l.length) 0 ?_ (S.sel [] G G) (H.keep [5,0,1] rfl) ?_
 · exact ⟨by omega,by omega,rfl⟩
 clear H S a
 intro g1 x1 a w1 hp S H K4 k4
 obtain ⟨k,rfl⟩:∃ y,y=x1:=⟨_,rfl⟩
 refine wp_seq_k fun K5 k5=>?_
 refine sS H fun K6 k6=>sr 2 rfl<|sL aT rfl<|sr 1 rfl<|sE ?_;clear H a;intro a H
 refine k6 _ ?_;clear k6 K6
 refine condL H rfl (fun hc1=>?_) (fun hc1=>?_)
 ·skip
  refine wp_skip ?_
  refine k5 _ _ ?_
  refine wp_seq_k fun K7 k7=>?_
  refine wp_block ?_
  replace H:=H.keep [0,1,5] rfl
  refine sS H fun K8 k8=>sr 2 rfl<|si aT bE G G (hl.adr (by omega)) (by omega)<|slm aC rfl (hl.rd S (by omega) (by omega))<|sr 2 rfl<|sE ?_;clear H a;intro a H
  refine k8 _ ?_;clear k8 K8
  refine condE H rfl (fun hc2=>?_) (fun hc2=>?_)
  ·skip
   refine sS H fun K9 k9=>sr 1 rfl<|sE ?_;clear H a;intro a H
   refine k9 _ ?_;clear k9 K9
   refine wp_ret ?_
   refine ret1 (fn:=Try.f72) rfl H rfl ?_
   exact ⟨by rw [Lj (k:=k) (by omega) (by omega)],(S.sel [] G G)⟩
  refine wp_skip ?_
  refine k7 _ _ ?_
  replace H:=H.keep [0,1,5] rfl
  refine sO H<|sr 1 rfl<|sd (aI G G (by unfold i64ok;omega))<|sr 1 rfl<|sE ?_;clear H a;intro a H
  exact k4 (g1-1) (k+1) a _ (by omega) (⟨by omega,by omega,zS (by omega) hp.2.2 (by omega)⟩) (S.sel [] G G) (H.keep [5,0,1] rfl)
 refine wp_exit ?_
 refine k2 _ _ ?_
 refine sS H fun K11 k11=>sr 1 rfl<|sE ?_;clear H a;intro a H
 refine k11 _ ?_;clear k11 K11
 refine wp_ret ?_
 refine ret1 (fn:=Try.f72) rfl H rfl ?_
 exact ⟨by unfold hasI;rw [←List.take_of_length_le (l:=l) (i:=k) (by omega),hp.2.2],(S.sel [] G G)⟩
theorem mC (pl:Int) (ps:List Psg) (PA:Option Addr) (pc:Nat) (xs:List Int) (XA:Option Addr) (xc:Nat) (w:World) (hps:InS w noF 7 PA ps.length (pcell ps)) (hpn:ps.length≤9223372036854775807) (hxs:InS w noF 1 XA xs.length (icl xs)) (hxn:xs.length≤9223372036854775807) :
    Calls Try.prog 47 [.agg [.int .i64 pl,.slice PA ps.length pc,.slice XA xs.length xc].toArray].toArray w (Ret (fun v w'=>v = .int .i64 (stE pl ps xs)∧St w noF [] w')):=by
 refine enter Try.func47 rfl Try.ntmps47 rfl (fun a H=>?_)
 have S:=St.start w
 refine aA fun K1 k1=>?_
 refine aO H rfl S G G ?_;clear H a S;intro b1 _ a hb1 hbw1 S H
 refine ls 1 H<|sr 1 rfl<|sE ?_;clear H a;intro a H
 refine k1 _ _ ?_;clear k1 K1
 refine wp_seq_k fun K2 k2=>?_
 replace H:=H.keep [1] rfl
 refine sS H fun K3 k3=>sf dZ rfl<|sl S 0 aC G G G<|sc rfl Try.func71 G G (cJ _ _ _ _)<|sr 2 rfl<|sg 4 4 11 15 false G G (fun hg5=>by
     have hq5:=hg5;try simp only [o1,o2,o3,o4,o5,o6,o7,o8,o9,oa] at hq5
     exact sy hg5<|sf eX rfl<|sy hg5<|sl S 0 gL G G G<|sy hg5<|sL fZ rfl<|sy hg5<|sr 1 rfl<|sz 4 G G G)<|so G G G<|sE ?_;clear H a;intro a H
 refine k3 _ ?_;clear k3 K3
 refine aR H rfl (fun hc1=>?_) (fun hc1=>?_)
 ·skip
  try simp only [o1,o2,o3,o4,o5,o6,o7,o8,o9,oa] at hc1
  replace H:=H.keep [] rfl
  refine sS H fun K4 k4=>sr 1 rfl<|sE ?_;clear H a;intro a H
  refine k4 _ ?_;clear k4 K4
  refine wp_ret ?_
  refine ret1 (fn:=Try.f47) rfl H rfl ?_
  exact ⟨congrArg _ (El (by omega)).symm,(S.sel [] G G)⟩
 try simp only [o1,o2,o3,o4,o5,o6,o7,o8,o9,oa] at hc1
 refine wp_skip ?_
 refine k2 _ _ ?_
 refine sS H fun K5 k5=>sr 1 rfl<|sE ?_;clear H a;intro a H
 refine k5 _ ?_;clear k5 K5
 refine wp_seq_k fun K6 k6=>?_
 refine sS H fun K7 k7=>sr 1 rfl<|sE ?_;clear H a;intro a H
 refine k7 _ ?_;clear k7 K7
 refine wp_block ?_
 replace S:=S.newNil 3 1 (icl [])
 refine loop_st (X:=Nat×List Int×Option Addr×Nat) (R0:=_) [1] H rfl (fun ⟨k,ml,A9,c9⟩=>[(3,.slice A9 ml.length c9),(4,.int .i64 (k:Int))]) (fun ⟨k,ml,A9,c9⟩=>[ownM 3 1 A9 ml.length c9 (icl ml)]) (fun g ⟨k,ml,A9,c9⟩=>k≤ps.length∧g+k=ps.length∧allN (pasOk pl ps) k=true∧MList ps k ml) (ps.length) (0,[],none,0) ?_ (S.sel [0,1] G G) (H.keep [3,4,1] rfl) ?_
 · exact ⟨by omega,by omega,rfl,MList.nil⟩
 clear H S a
 intro g1 x1 a w1 hp S H K8 k8
 obtain ⟨k,ml,A9,c9⟩:=x1
 dsimp only at hp S H
 obtain ⟨hkl,hgk,hA,hM⟩:=hp
 refine wp_seq_k fun K9 k9=>?_
 refine sS H fun K10 k10=>sr 1 rfl<|sf eX rfl<|sl S 1 gL G G G<|sL fZ rfl<|sr 1 rfl<|sE ?_;clear H a;intro a H
 refine k10 _ ?_;clear k10 K10
 refine condL H rfl (fun hc2=>?_) (fun hc2=>?_)
 ·skip
  refine wp_skip ?_
  refine k9 _ _ ?_
  refine wp_seq_k fun K11 k11=>?_
  refine wp_block ?_
  replace H:=H.keep [1,3,4] rfl
  refine aA fun K12 k12=>?_
  refine ls 5 H<|sf eX rfl<|sl S 1 gL G G G<|sr 1 rfl<|si fZ dN G G (hps.adr (by omega)) (by omega)<|sd ((aS iI dN rfl S hps (by omega) (by omega)))<|sE ?_;clear H a;intro a H
  refine aN H rfl S kS ?_;clear H a S;intro b5 _ a hb5 hbw5 S H
  refine aH H S (i:=0) G G G G dN G G ?_
  clear H a S;intro _ a S H
  refine k12 _ _ ?_;clear k12 K12
  refine wp_seq_k fun K13 k13=>?_
  replace H:=H.keep [1,3,4,5] rfl
  refine sS H fun K14 k14=>sf gC rfl<|sl S 0 aC G G G<|sf dZ rfl<|sl S 2 aC G G G<|sd (aP G G (by unfold i64ok;omega))<|sc rfl Try.func71 G G (cJ _ _ _ _)<|sr 2 rfl<|sg 7 7 36 43 false G G (fun hg8=>by
      have hq8:=hg8;try simp only [o1,o2,o3,o4,o5,o6,o7,o8,o9,oa] at hq8
      exact sy hg8<|sf gD rfl<|sy hg8<|sl S 0 aC G G G<|sy hg8<|sf dZ rfl<|sy hg8<|sl S 2 aC G G G<|sy hg8<|sd (aP G G (by unfold i64ok;omega))<|sy hg8<|sc rfl Try.func71 G G (cJ _ _ _ _)<|sy hg8<|sr 1 rfl<|sz 7 G G G)<|so G G G<|sr 1 rfl<|sg 5 16 45 50 false G G (fun hg17=>by
      have hq17:=hg17;try simp only [o1,o2,o3,o4,o5,o6,o7,o8,o9,oa] at hq17
      exact sy hg17<|sf gC rfl<|sy hg17<|sl S 0 aC G G G<|sy hg17<|sf gD rfl<|sy hg17<|sl S 0 aC G G G<|sy hg17<|sr 1 rfl<|sz 5 G G G)<|so G G G<|sr 1 rfl<|sg 4 23 52 56 false G G (fun hg24=>by
      have hq24:=hg24;try simp only [o1,o2,o3,o4,o5,o6,o7,o8,o9,oa] at hq24
      exact sy hg24<|sf lP rfl<|sy hg24<|sl S 0 aC G G G<|sy hg24<|sc rfl Try.func71 G G (cJ _ _ _ _)<|sy hg24<|sr 1 rfl<|sz 4 G G G)<|so G G G<|sr 1 rfl<|sg 4 29 58 62 false G G (fun hg30=>by
      have hq30:=hg30;try simp only [o1,o2,o3,o4,o5,o6,o7,o8,o9,oa] at hq30
      exact sy hg30<|sf oP rfl<|sy hg30<|sl S 0 aC G G G<|sy hg30<|sc rfl Try.func71 G G (cJ _ _ _ _)<|sy hg30<|sr 1 rfl<|sz 4 G G G)<|so G G G<|sr 1 rfl<|sg 4 35 64 68 false G G (fun hg36=>by
      have hq36:=hg36;try simp only [o1,o2,o3,o4,o5,o6,o7,o8,o9,oa] at hq36
      exact sy hg36<|sf fA rfl<|sy hg36<|sl S 0 aC G G G<|sy hg36<|sc rfl Try.func71 G G (cJ _ _ _ _)<|sy hg36<|sr 1 rfl<|sz 4 G G G)<|so G G G<|sE ?_;clear H a;intro a H
  refine k14 _ ?_;clear k14 K14
  refine aR H rfl (fun hc3=>?_) (fun hc3=>?_)
  ·skip
   try simp only [o1,o2,o3,o4,o5,o6,o7,o8,o9,oa] at hc3
   replace H:=H.keep [] rfl
   refine sS H fun K15 k15=>sr 1 rfl<|sE ?_;clear H a;intro a H
   refine k15 _ ?_;clear k15 K15
   refine wp_ret ?_
   refine ret1 (fn:=Try.f47) rfl H rfl ?_
   exact ⟨congrArg _ (kT (k:=k) (by omega) (by unfold pasOk;rw [Bool.and_eq_false_iff];exact .inl (fT (by omega)))).symm,(S.sel [] G G)⟩
  try simp only [o1,o2,o3,o4,o5,o6,o7,o8,o9,oa] at hc3
  refine wp_skip ?_
  refine k13 _ _ ?_
  refine wp_seq_k fun K16 k16=>?_
  refine sS H fun K17 k17=>sf fA rfl<|sl S 0 aC G G G<|sr 2 rfl<|sg 3 3 73 76 false G G (fun hg4=>by
      have hq4:=hg4;try simp only [o1,o2,o3,o4,o5,o6,o7,o8,o9,oa] at hq4
      exact sy hg4<|sf fA rfl<|sy hg4<|sl S 0 aC G G G<|sy hg4<|sr 1 rfl<|sz 3 G G G)<|so G G G<|sE ?_;clear H a;intro a H
  refine k17 _ ?_;clear k17 K17
  refine aR H rfl (fun hc4=>?_) (fun hc4=>?_)
  ·skip
   try simp only [o1,o2,o3,o4,o5,o6,o7,o8,o9,oa] at hc4
   refine wp_seq_k fun K18 k18=>?_
   replace H:=H.keep [1,3,4,5] rfl
   refine aA fun K19 k19=>?_
   refine ls 2 H<|sf dQ rfl<|sl S 0 aC G G G<|sE ?_;clear H a;intro a H
   refine aB H G G Try.func71 G G (cJ _ _ _ _) ?_;clear H a
   rintro _ _ a ⟨rfl,rfl⟩ H
   refine ls 2 H<|sr 2 rfl<|sE ?_;clear H a;intro a H
   apply cR (i:=4) (g:=82) (t:=86) (b:=false) 4 H S G G (by kernel_rfl) (by kernel_rfl) G G
   case h1=>
    intro hg5
    have hq5:=hg5;try simp only [o1,o2,o3,o4,o5,o6,o7,o8,o9,oa] at hq5
    refine ls 3 H<|sy hg5<|sr 1 rfl<|sy hg5<|sf dQ rfl<|sy hg5<|sl S 0 aC G G G<|sE ?_;intro a H
    refine dV H G G (by assumption) ?_
    refine aB H G G Try.func72 G G (Ta ml A9 c9 _ _ (ownM.inS S (i:=1) rfl) (by have:=hM.1;omega)) ?_
    rintro _ _ a ⟨rfl,S2⟩ H
    replace S:=S.call S2;clear S2
    exact wpList_nil ⟨H.strip 4 G G,(S.sel [0,1,2] G G)⟩
   clear H a S;intro a _ H S
   refine ls 1 H<|so G G G<|sE ?_;clear H a;intro a H
   refine k19 _ _ ?_;clear k19 K19
   refine aR H rfl (fun hc5=>?_) (fun hc5=>?_)
   ·skip
    try simp only [o1,o2,o3,o4,o5,o6,o7,o8,o9,oa] at hc5
    replace H:=H.keep [] rfl
    refine sS H fun K20 k20=>sr 1 rfl<|sE ?_;clear H a;intro a H
    refine k20 _ ?_;clear k20 K20
    refine wp_ret ?_
    refine ret1 (fn:=Try.f47) rfl H rfl ?_
    exact ⟨congrArg _ (kT (k:=k) (by omega) (Sw hM hc5 hc4)).symm,(S.sel [] G G)⟩
   try simp only [o1,o2,o3,o4,o5,o6,o7,o8,o9,oa] at hc5
   have hz:=hM.fresh hc5.1.1 hc5.2
   refine wp_skip ?_
   refine k18 _ _ ?_
   refine dX ?_
   refine ls 3 H<|sr 1 rfl<|sf dQ rfl<|sl S 0 aC G G G<|sE ?_;clear H a;intro a H
   refine aK H rfl S aT bE fS G G G G G G G G G ?_;clear H a S;intro A1 _ a hA1 S H
   refine bK H rfl S aT bE fS zK G G (i:=2) G G G (ownM.inS S (i:=0) rfl) (oR (w8one rfl)) (by have:=hM.1;omega) (by have:=hM.1;omega) ?_;clear H a S;intro A2 c2 _ a S H
   replace S:=S.recell (i:=2) rfl (cell':=icl (ml++[cH ps k])) (fun q j hq hj=>Do rfl q j hq hj)
   rw [show ml.length+1=(ml++[cH ps k]).length by simp] at H S
   refine ls 1 H<|sr 1 rfl<|sE ?_;clear H a;intro a H
   refine k16 _ _ ?_
   replace H:=H.keep [1,3,4,5] rfl
   refine sS H fun K22 k22=>sf fA rfl<|sl S 1 aC G G G<|sr 1 rfl<|sE ?_;clear H a;intro a H
   refine k22 _ ?_;clear k22 K22
   refine condE H rfl (fun hc6=>?_) (fun hc6=>?_)
   ·skip
    refine sS H fun K23 k23=>sf iO rfl<|sl S 1 aC G G G<|sc rfl Try.func71 G G (cJ _ _ _ _)<|sr 1 rfl<|sE ?_;clear H a;intro a H
    refine k23 _ ?_;clear k23 K23
    refine aR H rfl (fun hc7=>?_) (fun hc7=>?_)
    ·skip
     try simp only [o1,o2,o3,o4,o5,o6,o7,o8,o9,oa] at hc7
     refine sS H fun K24 k24=>sr 1 rfl<|sE ?_;clear H a;intro a H
     refine k24 _ ?_;clear k24 K24
     refine wp_ret ?_
     refine ret1 (fn:=Try.f47) rfl H rfl ?_
     exact ⟨congrArg _ (kT (k:=k) (by omega) (by unfold pasOk;rw [Bool.and_eq_false_iff];exact .inl (fT (by omega)))).symm,(S.sel [] G G)⟩
    try simp only [o1,o2,o3,o4,o5,o6,o7,o8,o9,oa] at hc7
    refine wp_skip ?_
    refine k11 _ _ ?_
    replace H:=H.keep [1,3,4] rfl
    refine sO H<|sr 1 rfl<|sd (aI G G (by unfold i64ok;omega))<|sr 1 rfl<|sE ?_;clear H a;intro a H
    exact k8 (g1-1) (k+1,_,_,_) a _ (by omega) (by first|exact ⟨by omega,by omega,cK hA (pJ (cC.2 (by omega)) hz),hM.add⟩|exact ⟨by omega,by omega,cK hA (pK (cC.2 (by omega)) (by omega)),hM.skip (by unfold cH;omega)⟩) (S.sel [2,3] G G) (H.keep [3,4,1] rfl)
   refine sS H fun K26 k26=>sf iO rfl<|sl S 1 aC G G G<|sr 1 rfl<|sE ?_;clear H a;intro a H
   refine k26 _ ?_;clear k26 K26
   refine condN H rfl (fun hc8=>?_) (fun hc8=>?_)
   ·skip
    refine sS H fun K27 k27=>sr 1 rfl<|sE ?_;clear H a;intro a H
    refine k27 _ ?_;clear k27 K27
    refine wp_ret ?_
    refine ret1 (fn:=Try.f47) rfl H rfl ?_
    exact ⟨congrArg _ (kT (k:=k) (by omega) (by unfold pasOk;rw [Bool.and_eq_false_iff];exact .inl (fT (by omega)))).symm,(S.sel [] G G)⟩
   refine wp_skip ?_
   refine k11 _ _ ?_
   replace H:=H.keep [1,3,4] rfl
   refine sO H<|sr 1 rfl<|sd (aI G G (by unfold i64ok;omega))<|sr 1 rfl<|sE ?_;clear H a;intro a H
   exact k8 (g1-1) (k+1,_,_,_) a _ (by omega) (by first|exact ⟨by omega,by omega,cK hA (pJ (cC.2 (by omega)) hz),hM.add⟩|exact ⟨by omega,by omega,cK hA (pK (cC.2 (by omega)) (by omega)),hM.skip (by unfold cH;omega)⟩) (S.sel [2,3] G G) (H.keep [3,4,1] rfl)
  try simp only [o1,o2,o3,o4,o5,o6,o7,o8,o9,oa] at hc4
  refine sS H fun K29 k29=>sf dQ rfl<|sl S 0 aC G G G<|sr 1 rfl<|sE ?_;clear H a;intro a H
  refine k29 _ ?_;clear k29 K29
  refine condN H rfl (fun hc9=>?_) (fun hc9=>?_)
  ·skip
   refine sS H fun K30 k30=>sr 1 rfl<|sE ?_;clear H a;intro a H
   refine k30 _ ?_;clear k30 K30
   refine wp_ret ?_
   refine ret1 (fn:=Try.f47) rfl H rfl ?_
   exact ⟨congrArg _ (kT (k:=k) (by omega) (by unfold pasOk;rw [Bool.and_eq_false_iff];exact .inl (fT (by omega)))).symm,(S.sel [] G G)⟩
  refine wp_skip ?_
  refine k16 _ _ ?_
  replace H:=H.keep [1,3,4,5] rfl
  refine sS H fun K31 k31=>sf fA rfl<|sl S 0 aC G G G<|sr 1 rfl<|sE ?_;clear H a;intro a H
  refine k31 _ ?_;clear k31 K31
  refine condE H rfl (fun hc10=>?_) (fun hc10=>?_)
  ·skip
   refine sS H fun K32 k32=>sf iO rfl<|sl S 0 aC G G G<|sc rfl Try.func71 G G (cJ _ _ _ _)<|sr 1 rfl<|sE ?_;clear H a;intro a H
   refine k32 _ ?_;clear k32 K32
   refine aR H rfl (fun hc11=>?_) (fun hc11=>?_)
   ·skip
    try simp only [o1,o2,o3,o4,o5,o6,o7,o8,o9,oa] at hc11
    refine sS H fun K33 k33=>sr 1 rfl<|sE ?_;clear H a;intro a H
    refine k33 _ ?_;clear k33 K33
    refine wp_ret ?_
    refine ret1 (fn:=Try.f47) rfl H rfl ?_
    exact ⟨congrArg _ (kT (k:=k) (by omega) (by unfold pasOk;rw [Bool.and_eq_false_iff];exact .inl (fT (by omega)))).symm,(S.sel [] G G)⟩
   try simp only [o1,o2,o3,o4,o5,o6,o7,o8,o9,oa] at hc11
   refine wp_skip ?_
   refine k11 _ _ ?_
   replace H:=H.keep [1,3,4] rfl
   refine sO H<|sr 1 rfl<|sd (aI G G (by unfold i64ok;omega))<|sr 1 rfl<|sE ?_;clear H a;intro a H
   exact k8 (g1-1) (k+1,_,_,_) a _ (by omega) (by first|exact ⟨by omega,by omega,cK hA (pJ (cC.2 (by omega)) hz),hM.add⟩|exact ⟨by omega,by omega,cK hA (pK (cC.2 (by omega)) (by omega)),hM.skip (by unfold cH;omega)⟩) (S.sel [1,2] G G) (H.keep [3,4,1] rfl)
  refine sS H fun K35 k35=>sf iO rfl<|sl S 0 aC G G G<|sr 1 rfl<|sE ?_;clear H a;intro a H
  refine k35 _ ?_;clear k35 K35
  refine condN H rfl (fun hc12=>?_) (fun hc12=>?_)
  ·skip
   refine sS H fun K36 k36=>sr 1 rfl<|sE ?_;clear H a;intro a H
   refine k36 _ ?_;clear k36 K36
   refine wp_ret ?_
   refine ret1 (fn:=Try.f47) rfl H rfl ?_
   exact ⟨congrArg _ (kT (k:=k) (by omega) (by unfold pasOk;rw [Bool.and_eq_false_iff];exact .inl (fT (by omega)))).symm,(S.sel [] G G)⟩
  refine wp_skip ?_
  refine k11 _ _ ?_
  replace H:=H.keep [1,3,4] rfl
  refine sO H<|sr 1 rfl<|sd (aI G G (by unfold i64ok;omega))<|sr 1 rfl<|sE ?_;clear H a;intro a H
  exact k8 (g1-1) (k+1,_,_,_) a _ (by omega) (by first|exact ⟨by omega,by omega,cK hA (pJ (cC.2 (by omega)) hz),hM.add⟩|exact ⟨by omega,by omega,cK hA (pK (cC.2 (by omega)) (by omega)),hM.skip (by unfold cH;omega)⟩) (S.sel [1,2] G G) (H.keep [3,4,1] rfl)
 refine wp_exit ?_
 refine k6 _ _ ?_
 refine wp_seq_k fun K38 k38=>?_
 refine sS H fun K39 k39=>sr 1 rfl<|sE ?_;clear H a;intro a H
 refine k39 _ ?_;clear k39 K39
 refine wp_block ?_
 refine loop_st (X:=Nat) (R0:=_) [1] H rfl (fun k2=>[(6,.int .i64 (k2:Int))]) (fun k2=>[]) (fun g k2=>k2≤xs.length∧g+k2=xs.length∧allN (exOk pl xs) k2=true) (xs.length) 0 ?_ (S.sel [0,1] G G) (H.keep [6,1] rfl) ?_
 · exact ⟨by omega,by omega,rfl⟩
 clear H S a
 intro g2 x2 a w2 hp S H K40 k40
 obtain ⟨k2,rfl⟩:∃ y,y=x2:=⟨_,rfl⟩
 refine wp_seq_k fun K41 k41=>?_
 refine sS H fun K42 k42=>sr 1 rfl<|sf iJ rfl<|sl S 1 eS G G G<|sL aT rfl<|sr 1 rfl<|sE ?_;clear H a;intro a H
 refine k42 _ ?_;clear k42 K42
 refine condL H rfl (fun hc13=>?_) (fun hc13=>?_)
 ·skip
  refine wp_skip ?_
  refine k41 _ _ ?_
  refine wp_seq_k fun K43 k43=>?_
  refine wp_block ?_
  replace H:=H.keep [1,6] rfl
  replace S:=S.drew
  refine sD H fun K44 k44=>sf iJ rfl<|sl S 1 eS G G G<|sr 1 rfl<|si aT bE G G (hxs.adr (by omega)) (by omega)<|slm aC rfl (hxs.rd S (by omega) (by omega))<|sf dZ rfl<|sl S 1 aC G G G<|sd (aP G G (by unfold i64ok;omega))<|sc rfl Try.func71 G G (cJ _ _ _ _)<|sr 2 rfl<|sg 16 10 123 139 false G G (fun hg11=>by
      have hq11:=hg11;try simp only [o1,o2,o3,o4,o5,o6,o7,o8,o9,oa] at hq11
      exact sy hg11<|sr 1 rfl<|sy hg11<|sr 1 rfl<|sy hg11<|sr 1 rfl<|sg 12 13 126 138 true G G (fun hg14=>by
           have hq14:=hg14;try simp only [o1,o2,o3,o4,o5,o6,o7,o8,o9,oa] at hq14
           exact sy hg14<|sf iJ rfl<|sy hg14<|sl S 1 eS G G G<|sy hg14<|sr 1 rfl<|sy hg14<|si aT bE G G (hxs.adr (by omega)) (by omega)<|sy hg14<|slm aC rfl (hxs.rd S (by omega) (by omega))<|sy hg14<|sf iJ rfl<|sy hg14<|sl S 1 eS G G G<|sy hg14<|sr 1 rfl<|sy hg14<|sd (aP G G (by unfold i64ok;omega))<|sy hg14<|sI aT bE G G (hxs.adr (by omega)) (by omega) (by omega)<|sy hg14<|slm aC rfl (hxs.rd S (by omega) (by omega))<|sy hg14<|sr 1 rfl<|sz 12 G G G)<|sy hg11<|sa G G G<|sz 5 G G G)<|so G G G<|sE ?_;clear H a;intro a H
  refine k44 _ ?_;clear k44 K44
  refine aR H rfl (fun hc14=>?_) (fun hc14=>?_)
  ·skip
   try simp only [o1,o2,o3,o4,o5,o6,o7,o8,o9,oa] at hc14
   rw [show ((k2:Int)-1).toNat=k2-1 by omega] at hc14
   replace H:=H.keep [] rfl
   refine sS H fun K45 k45=>sr 1 rfl<|sE ?_;clear H a;intro a H
   refine k45 _ ?_;clear k45 K45
   refine wp_ret ?_
   refine ret1 (fn:=Try.f47) rfl H rfl ?_
   exact ⟨congrArg _ (Ut (k:=k2) (by omega) (Sy (by omega))).symm,(S.sel [] G G)⟩
  try simp only [o1,o2,o3,o4,o5,o6,o7,o8,o9,oa] at hc14
  rw [show ((k2:Int)-1).toNat=k2-1 by omega] at hc14
  refine wp_skip ?_
  refine k43 _ _ ?_
  refine sO H<|sr 1 rfl<|sd (aI G G (by unfold i64ok;omega))<|sr 1 rfl<|sE ?_;clear H a;intro a H
  exact k40 (g2-1) (k2+1) a _ (by omega) (⟨by omega,by omega,cK hp.2.2 (Sx (by omega))⟩) (S.sel [0,1] G G) (H.keep [6,1] rfl)
 refine wp_exit ?_
 refine k38 _ _ ?_
 refine sS H fun K47 k47=>sr 1 rfl<|sE ?_;clear H a;intro a H
 refine k47 _ ?_;clear k47 K47
 refine wp_ret ?_
 refine ret1 (fn:=Try.f47) rfl H rfl ?_
 have hk9:k=ps.length:=by omega
 have hk8:k2=xs.length:=by omega
 exact ⟨congrArg _ (Uu (by omega) (hk9 ▸ hA) (hk8 ▸ hp.2.2)).symm,(S.sel [] G G)⟩
end
section
def sameI (a b:List Int):Bool:=decide (a=b)
theorem Nu {a b:List Int} (h:a.length≠b.length):sameI a b=false:=decide_eq_false fun e=>h (by rw [e])
theorem Tb {a b:List Int} {k:Nat} (h:¬ a.getD k 0=b.getD k 0):sameI a b=false:=decide_eq_false fun e=>h (by rw [e])
theorem Nv {a b:List Int} (hn:a.length=b.length) (h:∀ k,k<a.length→a.getD k 0=b.getD k 0):sameI a b=true:=decide_eq_true (List.ext_getElem hn fun k h1 h2=>by
  have:=h k h1
  rwa [List.getD_eq_getElem?_getD,List.getD_eq_getElem?_getD,List.getElem?_eq_getElem h1,List.getElem?_eq_getElem h2] at this)
theorem Tc {a b:List Int} {k:Nat} (h:∀ q,q<k→a.getD q 0=b.getD q 0) (hk:a.getD k 0=b.getD k 0):∀ q,q<k+1→a.getD q 0=b.getD q 0:=fun q hq=>by
  by_cases e:q=k
  · subst e;exact hk
  · exact h q (by omega)
end
section
theorem three {p:Nat→Prop} (h0:p 0) (h1:p 1) (h2:p 2):∀ j,j<3→p j:=by
  intro j hj
  match j,hj with
  | 0,_=>exact h0
  | 1,_=>exact h1
  | 2,_=>exact h2
theorem pL (pl:Int) (ps:List Psg) (PA:Option Addr) (pc:Nat) (xs:List Int) (XA:Option Addr) (xc:Nat) (pe:List Int) (BA:Option Addr) (bc:Nat) (w:World) (hpe:InS w noF 1 BA pe.length (icl pe)) (hpen:pe.length≤9223372036854775807) :
    Calls Try.prog 84 [.agg [.int .i64 pl,.slice PA ps.length pc,.slice XA xs.length xc].toArray,.slice BA pe.length bc].toArray w (Ret (fun v w'=>v = .bool (eR pl pe)∧St w noF [] w')):=by
 refine enter Try.func84 rfl Try.ntmps84 rfl (fun a H=>?_)
 have S:=St.start w
 refine aA fun K1 k1=>?_
 refine aO H rfl S G G ?_;clear H a S;intro b2 _ a hb2 hbw2 S H
 refine ls 1 H<|sr 1 rfl<|sE ?_;clear H a;intro a H
 refine k1 _ _ ?_;clear k1 K1
 refine wp_seq_k fun K2 k2=>?_
 refine sS H fun K3 k3=>sr 1 rfl<|sE ?_;clear H a;intro a H
 refine k3 _ ?_;clear k3 K3
 refine wp_block ?_
 refine loop_st (X:=Nat) (R0:=_) [1,2] H rfl (fun k=>[(5,.int .i64 (k:Int))]) (fun k=>[]) (fun g k=>k≤pe.length∧g+k=pe.length∧allN (fun k=>decide (0≤pe.getD k 0∧pe.getD k 0≤1000)) k=true) (pe.length) 0 ?_ (S.sel [0] G G) (H.keep [5,1,2] rfl) ?_
 · exact ⟨by omega,by omega,rfl⟩
 clear H S a
 intro g1 x1 a w1 hp S H K4 k4
 obtain ⟨k,rfl⟩:∃ y,y=x1:=⟨_,rfl⟩
 refine wp_seq_k fun K5 k5=>?_
 refine sS H fun K6 k6=>sr 2 rfl<|sL aT rfl<|sr 1 rfl<|sE ?_;clear H a;intro a H
 refine k6 _ ?_;clear k6 K6
 refine condL H rfl (fun hc1=>?_) (fun hc1=>?_)
 ·skip
  refine wp_skip ?_
  refine k5 _ _ ?_
  refine wp_seq_k fun K7 k7=>?_
  refine wp_block ?_
  replace H:=H.keep [1,2,5] rfl
  refine sS H fun K8 k8=>sr 2 rfl<|si aT bE G G (hpe.adr (by omega)) (by omega)<|slm aC rfl (hpe.rd S (by omega) (by omega))<|sc rfl Try.func71 G G (cJ _ _ _ _)<|sr 1 rfl<|sE ?_;clear H a;intro a H
  refine k8 _ ?_;clear k8 K8
  refine aR H rfl (fun hc2=>?_) (fun hc2=>?_)
  ·skip
   try simp only [o1,o2,o3,o4,o5,o6,o7,o8,o9,oa] at hc2
   refine sS H fun K9 k9=>sr 1 rfl<|sE ?_;clear H a;intro a H
   refine k9 _ ?_;clear k9 K9
   refine wp_ret ?_
   refine ret1 (fn:=Try.f84) rfl H rfl ?_
   refine ⟨congrArg Value.bool ?_,(S.sel [] G G)⟩;unfold eR;rw [gM (k:=k) (by omega) (by rw [decide_eq_false_iff_not];omega)];rfl
  try simp only [o1,o2,o3,o4,o5,o6,o7,o8,o9,oa] at hc2
  refine wp_skip ?_
  refine k7 _ _ ?_
  replace H:=H.keep [1,2,5] rfl
  refine sO H<|sr 1 rfl<|sd (aI G G (by unfold i64ok;omega))<|sr 1 rfl<|sE ?_;clear H a;intro a H
  exact k4 (g1-1) (k+1) a _ (by omega) (⟨by omega,by omega,cK hp.2.2 (by rw [decide_eq_true_eq];omega)⟩) (S.sel [0] G G) (H.keep [5,1,2] rfl)
 refine wp_exit ?_
 refine k2 _ _ ?_
 refine sS H fun K11 k11=>sr 1 rfl<|sL aT rfl<|sf dZ rfl<|sl S 0 aC G G G<|sr 2 rfl<|sE ?_;clear H a;intro a H
 refine k11 _ ?_;clear k11 K11
 refine wp_ret ?_
 refine ret1 (fn:=Try.f84) rfl H rfl ?_
 refine ⟨congrArg Value.bool ?_,(S.sel [] G G)⟩;unfold eR;rw [show pe.length=k by omega,hp.2.2,Bool.true_and]
theorem yN (pl:Int) (ps:List Psg) (PA:Option Addr) (pc:Nat) (xs:List Int) (XA:Option Addr) (xc:Nat) (day:List Hq) (HA:Option Addr) (hcp:Nat) (DA:Nat→Option Addr) (dc:Nat→Nat) (w:World) (hps:InS w noF 7 PA ps.length (pcell ps)) (hpn:ps.length≤9223372036854775807) (hxs:InS w noF 1 XA xs.length (icl xs)) (hxn:xs.length≤9223372036854775807) (hday:InS w noF 3 HA day.length (hcl day DA dc)) (hdn:day.length≤9223372036854775807) (hdp:∀ k,k<day.length→InS w noF 1 (DA k) (day.getD k Hq.zero).pe.length (icl (day.getD k Hq.zero).pe)) (hdl:∀ k,k<day.length→(day.getD k Hq.zero).pe.length≤9223372036854775807) :
    Calls Try.prog 73 [.agg [.int .i64 pl,.slice PA ps.length pc,.slice XA xs.length xc].toArray,.slice HA day.length hcp].toArray w (Ret (fun v w'=>v = .int .i64 (dayE pl ps xs day)∧St w noF [] w')):=by
 refine enter Try.func73 rfl Try.ntmps73 rfl (fun a H=>?_)
 have S:=St.start w
 refine aA fun K1 k1=>?_
 refine aO H rfl S G G ?_;clear H a S;intro b2 _ a hb2 hbw2 S H
 refine ls 1 H<|sr 1 rfl<|sE ?_;clear H a;intro a H
 refine k1 _ _ ?_;clear k1 K1
 refine aA fun K2 k2=>?_
 refine ls 1 H<|sd ((aD cL dP rfl S (i:=0) G G))<|sE ?_;clear H a;intro a H
 refine aB H G G Try.func47 G G (mC pl ps PA pc xs XA xc _ (hps.now S) hpn (hxs.now S) hxn) ?_;clear H a
 rintro _ _ a ⟨rfl,S2⟩ H
 replace S:=S.call S2;clear S2
 refine ls 1 H<|sr 1 rfl<|sE ?_;clear H a;intro a H
 refine k2 _ _ ?_;clear k2 K2
 refine wp_seq_k fun K3 k3=>?_
 refine sS H fun K4 k4=>sr 2 rfl<|sE ?_;clear H a;intro a H
 refine k4 _ ?_;clear k4 K4
 refine condN H rfl (fun hc1=>?_) (fun hc1=>?_)
 ·skip
  refine sS H fun K5 k5=>sr 2 rfl<|sE ?_;clear H a;intro a H
  refine k5 _ ?_;clear k5 K5
  refine wp_ret ?_
  refine ret1 (fn:=Try.f73) rfl H rfl ?_
  refine ⟨congrArg (Value.int .i64) ?_,(S.sel [] G G)⟩;unfold dayE;rw [if_pos hc1]
 have hst:stE pl ps xs=0:=by omega
 refine wp_skip ?_
 refine k3 _ _ ?_
 refine wp_seq_k fun K6 k6=>?_
 replace H:=H.keep [1,2] rfl
 refine sS H fun K7 k7=>sr 1 rfl<|sL mX rfl<|sr 1 rfl<|sE ?_;clear H a;intro a H
 refine k7 _ ?_;clear k7 K7
 refine condL H rfl (fun hc2=>?_) (fun hc2=>?_)
 ·skip
  refine sS H fun K8 k8=>sr 1 rfl<|sE ?_;clear H a;intro a H
  refine k8 _ ?_;clear k8 K8
  refine wp_ret ?_
  refine ret1 (fn:=Try.f73) rfl H rfl ?_
  refine ⟨congrArg (Value.int .i64) ?_,(S.sel [] G G)⟩;unfold dayE;rw [if_neg (by omega),if_neg];unfold dayOk;rw [decide_eq_false (p:=day.length≤48) (by omega),Bool.and_false];simp
 refine wp_skip ?_
 refine k6 _ _ ?_
 refine wp_seq_k fun K9 k9=>?_
 refine sS H fun K10 k10=>sr 1 rfl<|sE ?_;clear H a;intro a H
 refine k10 _ ?_;clear k10 K10
 refine wp_block ?_
 refine loop_st (X:=Nat) (R0:=_) [1,2] H rfl (fun k=>[(6,.int .i64 (k:Int))]) (fun k=>[]) (fun g k=>k≤day.length∧g+k=day.length∧allN (fun k=>hqOk pl (day.getD k Hq.zero)) k=true) (day.length) 0 ?_ (S.sel [0] G G) (H.keep [6,1,2] rfl) ?_
 · exact ⟨by omega,by omega,rfl⟩
 clear H S a
 intro g1 x1 a w1 hp S H K11 k11
 obtain ⟨k,rfl⟩:∃ y,y=x1:=⟨_,rfl⟩
 refine wp_seq_k fun K12 k12=>?_
 refine sS H fun K13 k13=>sr 2 rfl<|sL mX rfl<|sr 1 rfl<|sE ?_;clear H a;intro a H
 refine k13 _ ?_;clear k13 K13
 refine condL H rfl (fun hc3=>?_) (fun hc3=>?_)
 ·skip
  refine wp_skip ?_
  refine k12 _ _ ?_
  refine wp_seq_k fun K14 k14=>?_
  refine wp_block ?_
  by_cases hB:0≤(day.getD k Hq.zero).out∧(day.getD k Hq.zero).out≤4095
  ·skip
   replace H:=H.keep [1,2,6] rfl
   replace S:=S.drew
   refine dG [(0,true),(1,true),(2,true),(3,true),(4,true),(5,false),(6,true),(7,true),(8,true),(9,true),(10,true),(11,true),(12,true),(13,true),(14,false),(15,true),(16,true)] (by kernel_rfl) (by kernel_rfl) (S.sel [0] G G) fun K15 k15=>?_
   refine qF H<|qr 2 rfl<|qd rfl (fun _ S=>aW mX oI G G (hday.adr (by omega)) (by omega))<|qd rfl (fun _ S=>(bP rJ rfl))<|qd rfl (fun _ S=>aE aC rfl (hday.rd S (by omega) (by omega)))<|qK ?_;clear H a;intro a H
   refine aX rfl ?_
   refine aB H G G Try.func83 G G (yM _ _) ?_;clear H a
   rintro _ _ a ⟨rfl,rfl⟩ H
   rw [decide_eq_true hB.1,decide_eq_true hB.2,Bool.and_self] at H
   refine wpList_nil (And.intro (S.sel [0] G G) ?_)
   refine qF H<|qr 2 rfl<|qK ?_;clear H a;intro a H
   refine aL H G G G G (fun _ S=>(aD cL dP rfl S (i:=0) G G)) ?_;clear H a;intro a H
   refine aL H G G G G (fun _ S=>aJ rfl) ?_;clear H a;intro a H
   refine aL H G G G G (fun _ S=>aJ rfl) ?_;clear H a;intro a H
   refine aL H G G G G (fun _ S=>aW mX oI G G (hday.adr (by omega)) (by omega)) ?_;clear H a;intro a H
   refine aL H G G G G (fun _ S=>(bP Eh rfl)) ?_;clear H a;intro a H
   refine aL H G G G G (fun _ S=>aE eS rfl (hday.rd S (by omega) (by omega))) ?_;clear H a;intro a H
   refine aX rfl ?_
   refine bX H G G ?_
   refine aB H G G Try.func84 G G (pL pl ps PA pc xs XA xc (day.getD k Hq.zero).pe (DA k) (dc k) _ ((hdp k (by omega)).now S) (hdl k (by omega))) ?_;clear H a
   rintro _ _ a ⟨rfl,S2⟩ H
   replace S:=S.call S2;clear S2
   refine wpList_nil (And.intro (S.sel [0] G G) ?_)
   refine aL H G G G G (fun _ S=>jX rfl) ?_;clear H a;intro a H
   refine qF H<|qd rfl (fun _ S=>(cQ G G G))<|qK ?_;clear H a;intro a H
   refine cI ?_
   refine k15 _ _ ?_
   clear k15 K15
   refine aR H rfl (fun hc4=>?_) (fun hc4=>?_)
   ·skip
    try simp only [o1,o2,o3,o4,o5,o6,o7,o8,o9,oa] at hc4
    replace H:=H.keep [] rfl
    refine sS H fun K16 k16=>sr 1 rfl<|sE ?_;clear H a;intro a H
    refine k16 _ ?_;clear k16 K16
    refine wp_ret ?_
    refine ret1 (fn:=Try.f73) rfl H rfl ?_
    refine ⟨congrArg (Value.int .i64) ?_,(S.sel [] G G)⟩;unfold dayE;rw [if_neg (by omega),uC (k:=k) (by omega) (by unfold hqOk;rw [hc4.resolve_left (by simp),Bool.and_false])];rfl
   try simp only [o1,o2,o3,o4,o5,o6,o7,o8,o9,oa] at hc4
   refine wp_skip ?_
   refine k14 _ _ ?_
   refine sO H<|sr 1 rfl<|sd (aI G G (by unfold i64ok;omega))<|sr 1 rfl<|sE ?_;clear H a;intro a H
   exact k11 (g1-1) (k+1) a _ (by omega) (⟨by omega,by omega,cK hp.2.2 (by unfold hqOk;rw [decide_eq_true hB,hc4.2];rfl)⟩) (S.sel [0] G G) (H.keep [6,1,2] rfl)
  replace H:=H.keep [1,2,6] rfl
  replace S:=S.drew
  refine dG [(0,true),(1,true),(2,true),(3,true),(4,true),(5,false),(6,true),(7,true),(8,true),(9,true),(10,true),(11,true),(12,true),(13,true),(14,true),(15,true),(16,true)] (by kernel_rfl) (by kernel_rfl) (S.sel [0] G G) fun K18 k18=>?_
  refine qF H<|qr 2 rfl<|qd rfl (fun _ S=>aW mX oI G G (hday.adr (by omega)) (by omega))<|qd rfl (fun _ S=>(bP rJ rfl))<|qd rfl (fun _ S=>aE aC rfl (hday.rd S (by omega) (by omega)))<|qK ?_;clear H a;intro a H
  refine aX rfl ?_
  refine aB H G G Try.func83 G G (yM _ _) ?_;clear H a
  rintro _ _ a ⟨rfl,rfl⟩ H
  rw [Bool.and_eq_false_iff.2 (by simp only [decide_eq_false_iff_not];omega)] at H
  refine wpList_nil (And.intro (S.sel [0] G G) ?_)
  refine qF H<|qr 2 rfl<|qK ?_;clear H a;intro a H
  refine aQ H G G G G G ?_;clear H a;intro a H
  refine aQ H G G G G G ?_;clear H a;intro a H
  refine aQ H G G G G G ?_;clear H a;intro a H
  refine aQ H G G G G G ?_;clear H a;intro a H
  refine aQ H G G G G G ?_;clear H a;intro a H
  refine aQ H G G G G G ?_;clear H a;intro a H
  refine aQ H G G G G G ?_;clear H a;intro a H
  refine aQ H G G G G G ?_;clear H a;intro a H
  refine qF H<|qd rfl (fun _ S=>(bI G G G))<|qK ?_;clear H a;intro a H
  refine cI ?_
  refine k18 _ _ ?_
  clear k18 K18
  refine aR H rfl (fun hc5=>?_) (fun hc5=>?_)
  ·skip
   skip
   replace H:=H.keep [] rfl
   refine sS H fun K19 k19=>sr 1 rfl<|sE ?_;clear H a;intro a H
   refine k19 _ ?_;clear k19 K19
   refine wp_ret ?_
   refine ret1 (fn:=Try.f73) rfl H rfl ?_
   refine ⟨congrArg (Value.int .i64) ?_,(S.sel [] G G)⟩;unfold dayE;rw [if_neg (by omega),uC (k:=k) (by omega) (by unfold hqOk;rw [decide_eq_false hB];rfl)];rfl
  skip
  cases hc5
 refine wp_exit ?_
 refine k9 _ _ ?_
 refine sS H fun K20 k20=>sr 1 rfl<|sE ?_;clear H a;intro a H
 refine k20 _ ?_;clear k20 K20
 refine wp_ret ?_
 refine ret1 (fn:=Try.f73) rfl H rfl ?_
 obtain rfl:k=day.length:=by omega
 exact ⟨congrArg (Value.int .i64) (wF hst (by rw [zU hp.2.2];exact decide_eq_true (by omega))).symm,(S.sel [] G G)⟩
theorem pM (pl:Int) (ps:List Psg) (PA:Option Addr) (pc:Nat) (xs:List Int) (XA:Option Addr) (xc:Nat) (day:List Hq) (HA:Option Addr) (hcp:Nat) (DA:Nat→Option Addr) (dc:Nat→Nat) (l:List Prm) (LA:Option Addr) (lc:Nat) (w:World) (hps:InS w noF 7 PA ps.length (pcell ps)) (hpn:ps.length≤9223372036854775807) (hxs:InS w noF 1 XA xs.length (icl xs)) (hxn:xs.length≤9223372036854775807) (hday:InS w noF 3 HA day.length (hcl day DA dc)) (hdn:day.length≤9223372036854775807) (hdp:∀ k,k<day.length→InS w noF 1 (DA k) (day.getD k Hq.zero).pe.length (icl (day.getD k Hq.zero).pe)) (hdl:∀ k,k<day.length→(day.getD k Hq.zero).pe.length≤9223372036854775807) (hl:InS w noF 5 LA l.length (cW l)) (hln:l.length≤9223372036854775807) :
    Calls Try.prog 48 [.agg [.int .i64 pl,.slice PA ps.length pc,.slice XA xs.length xc].toArray,.slice HA day.length hcp,.slice LA l.length lc].toArray w (Ret (fun v w'=>v = .int .i64 (keptE pl ps xs day l)∧St w noF [] w')):=by
 refine enter Try.func48 rfl Try.ntmps48 rfl (fun a H=>?_)
 have S:=St.start w
 refine aA fun K1 k1=>?_
 refine aO H rfl S G G ?_;clear H a S;intro b3 _ a hb3 hbw3 S H
 refine ls 1 H<|sr 1 rfl<|sE ?_;clear H a;intro a H
 refine k1 _ _ ?_;clear k1 K1
 refine aA fun K2 k2=>?_
 refine ls 2 H<|sd ((aD cL dP rfl S (i:=0) G G))<|sr 1 rfl<|sE ?_;clear H a;intro a H
 refine aB H G G Try.func73 G G (yN pl ps PA pc xs XA xc day HA hcp DA dc _ (hps.now S) hpn (hxs.now S) hxn (hday.now S) hdn (fun k hk=>(hdp k hk).now S) hdl) ?_;clear H a
 rintro _ _ a ⟨rfl,S2⟩ H
 replace S:=S.call S2;clear S2
 refine ls 1 H<|sr 1 rfl<|sE ?_;clear H a;intro a H
 refine k2 _ _ ?_;clear k2 K2
 refine wp_seq_k fun K3 k3=>?_
 refine sS H fun K4 k4=>sr 2 rfl<|sE ?_;clear H a;intro a H
 refine k4 _ ?_;clear k4 K4
 refine condN H rfl (fun hc1=>?_) (fun hc1=>?_)
 ·skip
  replace H:=H.keep [7] rfl
  refine sS H fun K5 k5=>sr 2 rfl<|sE ?_;clear H a;intro a H
  refine k5 _ ?_;clear k5 K5
  refine wp_ret ?_
  refine ret1 (fn:=Try.f48) rfl H rfl ?_
  refine ⟨congrArg (Value.int .i64) ?_,(S.sel [] G G)⟩;unfold keptE;rw [if_pos hc1]
 have hdE:dayE pl ps xs day=0:=by omega
 have hV:=iP (oU hdE).1
 have hP10:=hV.size
 refine wp_skip ?_
 refine k3 _ _ ?_
 refine wp_seq_k fun K6 k6=>?_
 refine sS H fun K7 k7=>sr 1 rfl<|sL eU rfl<|sr 1 rfl<|sE ?_;clear H a;intro a H
 refine k7 _ ?_;clear k7 K7
 refine condL H rfl (fun hc2=>?_) (fun hc2=>?_)
 ·skip
  refine sS H fun K8 k8=>sr 1 rfl<|sE ?_;clear H a;intro a H
  refine k8 _ ?_;clear k8 K8
  refine wp_ret ?_
  refine ret1 (fn:=Try.f48) rfl H rfl ?_
  exact ⟨congrArg (Value.int .i64) (mP hdE (zV (by omega))).symm,(S.sel [] G G)⟩
 refine wp_skip ?_
 refine k6 _ _ ?_
 refine wp_seq_k fun K9 k9=>?_
 refine sS H fun K10 k10=>sr 1 rfl<|sE ?_;clear H a;intro a H
 refine k10 _ ?_;clear k10 K10
 refine wp_block ?_
 refine loop_st (X:=Nat) (R0:=_) [2,3] H rfl (fun k=>[(8,.int .i64 (k:Int))]) (fun k=>[]) (fun g k=>k≤l.length∧g+k=l.length∧allN (fun k=>prmOk pl (l.getD k Prm.zero)) k=true) (l.length) 0 ?_ (S.sel [0] G G) (H.keep [8,2,3] rfl) ?_
 · exact ⟨by omega,by omega,rfl⟩
 clear H S a
 intro g1 x1 a w1 hp S H K11 k11
 obtain ⟨k,rfl⟩:∃ y,y=x1:=⟨_,rfl⟩
 refine wp_seq_k fun K12 k12=>?_
 refine sS H fun K13 k13=>sr 2 rfl<|sL eU rfl<|sr 1 rfl<|sE ?_;clear H a;intro a H
 refine k13 _ ?_;clear k13 K13
 refine condL H rfl (fun hc3=>?_) (fun hc3=>?_)
 ·skip
  refine wp_skip ?_
  refine k12 _ _ ?_
  refine wp_seq_k fun K14 k14=>?_
  refine wp_block ?_
  replace H:=H.keep [2,3,8] rfl
  refine aA fun K15 k15=>?_
  refine ls 4 H<|sr 2 rfl<|si eU eP G G (hl.adr (by omega)) (by omega)<|sd ((aS xF eP rfl S hl (by omega) (by omega)))<|sE ?_;clear H a;intro a H
  refine aN H rfl S gF ?_;clear H a S;intro b9 _ a hb9 hbw9 S H
  refine aH H S (i:=0) G G G G eP G G ?_
  clear H a S;intro _ a S H
  refine k15 _ _ ?_;clear k15 K15
  replace H:=H.keep [2,3,8,9] rfl
  refine sS H fun K16 k16=>sf oM rfl<|sl S 0 aC G G G<|sf dZ rfl<|sl S 1 aC G G G<|sd (aP G G (by unfold i64ok;omega))<|sc rfl Try.func71 G G (cJ _ _ _ _)<|sr 2 rfl<|sg 7 7 36 43 false G G (fun hg8=>by
      have hq8:=hg8;try simp only [o1,o2,o3,o4,o5,o6,o7,o8,o9,oa] at hq8
      exact sy hg8<|sf oN rfl<|sy hg8<|sl S 0 aC G G G<|sy hg8<|sf dZ rfl<|sy hg8<|sl S 1 aC G G G<|sy hg8<|sd (aP G G (by unfold i64ok;omega))<|sy hg8<|sc rfl Try.func71 G G (cJ _ _ _ _)<|sy hg8<|sr 1 rfl<|sz 7 G G G)<|so G G G<|sr 1 rfl<|sg 6 16 45 51 false G G (fun hg17=>by
      have hq17:=hg17;try simp only [o1,o2,o3,o4,o5,o6,o7,o8,o9,oa] at hq17
      exact sy hg17<|sf oO rfl<|sy hg17<|sl S 0 aC G G G<|sy hg17<|sf mM rfl<|sy hg17<|sl S 0 aC G G G<|sy hg17<|sc rfl Try.func71 G G (cJ _ _ _ _)<|sy hg17<|sr 1 rfl<|sz 6 G G G)<|so G G G<|sr 1 rfl<|sg 3 24 53 56 false G G (fun hg25=>by
      have hq25:=hg25;try simp only [o1,o2,o3,o4,o5,o6,o7,o8,o9,oa] at hq25
      exact sy hg25<|sf mM rfl<|sy hg25<|sl S 0 aC G G G<|sy hg25<|sr 1 rfl<|sz 3 G G G)<|so G G G<|sE ?_;clear H a;intro a H
  refine k16 _ ?_;clear k16 K16
  refine aR H rfl (fun hc4=>?_) (fun hc4=>?_)
  ·skip
   try simp only [o1,o2,o3,o4,o5,o6,o7,o8,o9,oa] at hc4
   replace H:=H.keep [] rfl
   refine sS H fun K17 k17=>sr 1 rfl<|sE ?_;clear H a;intro a H
   refine k17 _ ?_;clear k17 K17
   refine wp_ret ?_
   refine ret1 (fn:=Try.f48) rfl H rfl ?_
   exact ⟨congrArg (Value.int .i64) (mP hdE (Er (k:=k) (by omega) (Lu (by omega)))).symm,(S.sel [] G G)⟩
  try simp only [o1,o2,o3,o4,o5,o6,o7,o8,o9,oa] at hc4
  refine wp_skip ?_
  refine k14 _ _ ?_
  refine sO H<|sr 1 rfl<|sd (aI G G (by unfold i64ok;omega))<|sr 1 rfl<|sE ?_;clear H a;intro a H
  exact k11 (g1-1) (k+1) a _ (by omega) (⟨by omega,by omega,cK hp.2.2 (mO.2 (by omega))⟩) (S.sel [1] G G) (H.keep [8,2,3] rfl)
 refine wp_exit ?_
 refine k9 _ _ ?_
 refine sS H fun K19 k19=>sr 1 rfl<|sE ?_;clear H a;intro a H
 refine k19 _ ?_;clear k19 K19
 refine wp_ret ?_
 refine ret1 (fn:=Try.f48) rfl H rfl ?_
 obtain rfl:k=l.length:=by omega
 exact ⟨congrArg (Value.int .i64) (uF hdE (Es hp.2.2 (by omega))).symm,(S.sel [] G G)⟩
end
section
theorem mD (pl:Int) (ps:List Psg) (PA:Option Addr) (pc:Nat) (xs:List Int) (XA:Option Addr) (xc:Nat) (out:Int) (pe:List Int) (BA:Option Addr) (bc:Nat) (T:Int) (w:World) (hps:InS w noF 7 PA ps.length (pcell ps)) (hpn:ps.length≤9223372036854775807) (hxs:InS w noF 1 XA xs.length (icl xs)) (hxn:xs.length≤9223372036854775807) (hpe:InS w noF 1 BA pe.length (icl pe)) (hpen:pe.length≤9223372036854775807) :
    Calls Try.prog 58 [.agg [.int .i64 pl,.slice PA ps.length pc,.slice XA xs.length xc].toArray,.int .i64 out,.slice BA pe.length bc,.int .i64 T].toArray w (Ret (fun v w'=>v = .int .i64 (dO pl ps xs out pe T)∧St w noF [] w')):=by
 refine enter Try.func58 rfl Try.ntmps58 rfl (fun a H=>?_)
 have S:=St.start w
 refine aA fun K1 k1=>?_
 refine aO H rfl S G G ?_;clear H a S;intro b4 _ a hb4 hbw4 S H
 refine ls 1 H<|sr 1 rfl<|sE ?_;clear H a;intro a H
 refine k1 _ _ ?_;clear k1 K1
 refine aA fun K2 k2=>?_
 refine ls 1 H<|sd ((aD cL dP rfl S (i:=0) G G))<|sE ?_;clear H a;intro a H
 refine aB H G G Try.func47 G G (mC pl ps PA pc xs XA xc _ (hps.now S) hpn (hxs.now S) hxn) ?_;clear H a
 rintro _ _ a ⟨rfl,S2⟩ H
 replace S:=S.call S2;clear S2
 refine ls 1 H<|sr 1 rfl<|sE ?_;clear H a;intro a H
 refine k2 _ _ ?_;clear k2 K2
 refine wp_seq_k fun K3 k3=>?_
 refine sS H fun K4 k4=>sr 2 rfl<|sE ?_;clear H a;intro a H
 refine k4 _ ?_;clear k4 K4
 refine condN H rfl (fun hc1=>?_) (fun hc1=>?_)
 ·skip
  refine sS H fun K5 k5=>sr 2 rfl<|sE ?_;clear H a;intro a H
  refine k5 _ ?_;clear k5 K5
  refine wp_ret ?_
  refine ret1 (fn:=Try.f58) rfl H rfl ?_
  refine ⟨?_,(S.sel [] G G)⟩;unfold dO;rw [if_pos hc1]
 refine wp_skip ?_
 refine k3 _ _ ?_
 refine wp_seq_k fun K6 k6=>?_
 replace H:=H.keep [1,2,3,4] rfl
 refine aA fun K7 k7=>?_
 refine ls 1 H<|sr 1 rfl<|sE ?_;clear H a;intro a H
 refine aB H G G Try.func83 G G (yM _ _) ?_;clear H a
 rintro _ _ a ⟨rfl,rfl⟩ H
 refine ls 2 H<|sr 2 rfl<|sE ?_;clear H a;intro a H
 apply cR (i:=3) (g:=18) (t:=22) (b:=false) 4 H S G G (by kernel_rfl) (by kernel_rfl) G G
 case h1=>
  intro hg4
  have hq4:=hg4;try simp only [o1,o2,o3,o4,o5,o6,o7,o8,o9,oa] at hq4
  refine ls 2 H<|sy hg4<|sd ((aD cL dP rfl S (i:=0) G G))<|sy hg4<|sr 1 rfl<|sE ?_;intro a H
  refine dV H G G (by assumption) ?_
  refine aB H G G Try.func84 G G (pL pl ps PA pc xs XA xc pe BA bc _ (hpe.now S) hpen) ?_
  rintro _ _ a ⟨rfl,S2⟩ H
  replace S:=S.call S2;clear S2
  refine ls 1 H<|sy hg4<|sr 1 rfl<|sE ?_;intro a H
  exact wpList_nil ⟨H.strip 4 G G,(S.sel [0] G G)⟩
 clear H a S;intro a _ H S
 refine ls 6 H<|so G G G<|sr 1 rfl<|sg 3 9 24 27 false G G (fun hg10=>by
     have hq10:=hg10;try simp only [o1,o2,o3,o4,o5,o6,o7,o8,o9,oa] at hq10
     exact sy hg10<|sr 1 rfl<|sy hg10<|sc rfl Try.func71 G G (cJ _ _ _ _)<|sy hg10<|sr 1 rfl<|sz 3 G G G)<|so G G G<|sE ?_;clear H a;intro a H
 refine k7 _ _ ?_;clear k7 K7
 refine aR H rfl (fun hc2=>?_) (fun hc2=>?_)
 ·skip
  try simp only [o1,o2,o3,o4,o5,o6,o7,o8,o9,oa] at hc2
  replace H:=H.keep [] rfl
  refine sS H fun K8 k8=>sr 1 rfl<|sE ?_;clear H a;intro a H
  refine k8 _ ?_;clear k8 K8
  refine wp_ret ?_
  refine ret1 (fn:=Try.f58) rfl H rfl ?_
  refine ⟨?_,(S.sel [] rfl rfl)⟩;unfold dO;rw [if_neg (by omega),if_neg (by simp only [Bool.and_eq_true,decide_eq_true_eq];rcases hc2 with (h|h)|h <;> first|(intro h9;omega)|(rw [h];simp))]
 try simp only [o1,o2,o3,o4,o5,o6,o7,o8,o9,oa] at hc2
 refine wp_skip ?_
 refine k6 _ _ ?_
 refine sS H fun K9 k9=>sr 1 rfl<|sE ?_;clear H a;intro a H
 refine k9 _ ?_;clear k9 K9
 refine wp_ret ?_
 refine ret1 (fn:=Try.f58) rfl H rfl ?_
 refine ⟨?_,(S.sel [] G G)⟩;unfold dO;rw [if_neg (by omega),if_pos (by simp only [Bool.and_eq_true,decide_eq_true_eq];exact ⟨⟨by omega,hc2.1.2⟩,by omega⟩)]
end
section
theorem Wo {pe:List Int} (hpp:∀ k,k<pe.length→0≤pe.getD k 0∧pe.getD k 0≤1000) (hl:pe.length≤12) {k:Nat} (hk:k≤pe.length):0≤sumI pe k∧sumI pe k≤12000:=by
  have:=Fh hpp k hk
  omega
end
section
inductive Xt where
  | nil
  | q (i:Nat) (t:Xt)
  | p (i:Nat) (t:Xt)
  | e (i:Nat) (t:Xt)
  | b2 (i:Nat) (t:Xt) (j:Nat) (u:Xt)
  | b3 (i:Nat) (t:Xt) (j:Nat) (u:Xt) (k:Nat) (v:Xt)
  | b4 (i:Nat) (t:Xt) (j:Nat) (u:Xt) (k:Nat) (v:Xt) (m:Nat) (x:Xt)
section
variable {P:Program} {ops:Array Oper} {C:World→Prop} {Qn:Act→World→Prop}
def xt (P:Program) (ops:Array Oper) (C:World→Prop) (z:Nat) (Qn:Act→World→Prop):Xt→Act→World→Prop
  | .nil,a,w=>Qn a w
  | .q i t,a,w=>∃ o v,ops[i]?=some o∧Yd P ops C o v a∧xt P ops C z Qn t (a.put o.dst v) w
  | .p i t,a,w=>∃ o v,ops[i]?=some o∧Yd P ops (fun _=>True) o v a∧xt P ops C z Qn t (a.put o.dst v) w
  | .e i t,a,w=>wpOp P ops NoQ i (fun a' w'=>(i=z∨C w')∧xt P ops C z Qn t a' w') a w
  | .b2 i t j u,a,w=>wpOp P ops NoQ i (fun a' w'=>(i=z∨C w')∧xt P ops C z Qn t a' w') a w∧wpOp P ops NoQ j (fun a' w'=>(j=z∨C w')∧xt P ops C z Qn u a' w') a w
  | .b3 i t j u k v,a,w=>wpOp P ops NoQ i (fun a' w'=>(i=z∨C w')∧xt P ops C z Qn t a' w') a w∧wpOp P ops NoQ j (fun a' w'=>(j=z∨C w')∧xt P ops C z Qn u a' w') a w∧wpOp P ops NoQ k (fun a' w'=>(k=z∨C w')∧xt P ops C z Qn v a' w') a w
  | .b4 i t j u k v m x,a,w=>wpOp P ops NoQ i (fun a' w'=>(i=z∨C w')∧xt P ops C z Qn t a' w') a w∧wpOp P ops NoQ j (fun a' w'=>(j=z∨C w')∧xt P ops C z Qn u a' w') a w∧wpOp P ops NoQ k (fun a' w'=>(k=z∨C w')∧xt P ops C z Qn v a' w') a w∧wpOp P ops NoQ m (fun a' w'=>(m=z∨C w')∧xt P ops C z Qn x a' w') a w
def ckx (ops:Array Oper) (z:Nat):Xt→Bool→Nat→Array Bool→Bool
  | .nil,_,n,listed=>Nat.beq n 0&&(Region.ready .any ops listed).isEmpty
  | .q i t,f,n,listed=>Nat.blt 0 n&&(Region.ready .any ops listed).contains i&&Region.free .any ops listed i&&rF ops z i&&!Nat.beq i z&&!f&&ckx ops z t f (n-1) (listed.setIfInBounds i true)
  | .p i t,f,n,listed=>Nat.blt 0 n&&(Region.ready .any ops listed).contains i&&Region.free .any ops listed i&&!Nat.beq i z&&ckx ops z t f (n-1) (listed.setIfInBounds i true)
  | .e i t,f,n,listed=>Nat.blt 0 n&&eqL (Region.ready .any ops listed) [i]&&ckx ops z t (f||Nat.beq i z) (n-1) (listed.setIfInBounds i true)
  | .b2 i t j u,f,n,listed=>Nat.blt 0 n&&eqL (Region.ready .any ops listed) [i,j]&&ckx ops z t (f||Nat.beq i z) (n-1) (listed.setIfInBounds i true)&&ckx ops z u (f||Nat.beq j z) (n-1) (listed.setIfInBounds j true)
  | .b3 i t j u k v,f,n,listed=>Nat.blt 0 n&&eqL (Region.ready .any ops listed) [i,j,k]&&ckx ops z t (f||Nat.beq i z) (n-1) (listed.setIfInBounds i true)&&ckx ops z u (f||Nat.beq j z) (n-1) (listed.setIfInBounds j true)&&ckx ops z v (f||Nat.beq k z) (n-1) (listed.setIfInBounds k true)
  | .b4 i t j u k v m x,f,n,listed=>Nat.blt 0 n&&eqL (Region.ready .any ops listed) [i,j,k,m]&&ckx ops z t (f||Nat.beq i z) (n-1) (listed.setIfInBounds i true)&&ckx ops z u (f||Nat.beq j z) (n-1) (listed.setIfInBounds j true)&&ckx ops z v (f||Nat.beq k z) (n-1) (listed.setIfInBounds k true)&&ckx ops z x (f||Nat.beq m z) (n-1) (listed.setIfInBounds m true)
theorem Dp {z:Nat} (hs:Region.noSelect ops=true):∀ (π:Xt) (f:Bool) (n:Nat) (listed:Array Bool) (a:Act) (w:World),ckx ops z π f n listed=true→(f=true∨C w)→xt P ops C z Qn π a w→anyZ P ops C z Qn f n listed a w:=by
  intro π
  induction π with
  | nil=>
    intro f n listed a w hc _ h
    simp only [ckx,Bool.and_eq_true] at hc
    have:n=0:=Nat.eq_of_beq_eq_true hc.1
    subst this
    exact ⟨by simpa using hc.2,h⟩
  | q i t ih=>
    intro f n listed a w hc hC h
    simp only [ckx,Bool.and_eq_true] at hc
    obtain ⟨⟨⟨⟨⟨⟨hn,hr⟩,hf⟩,hb⟩,hiz⟩,hff⟩,hc'⟩:=hc
    obtain ⟨m,rfl⟩:∃ m,n=m+1:=fK hn
    obtain ⟨o,v,ho,hy,h'⟩:=h
    have hf0:f=false:=by simpa using hff
    subst hf0
    have hC2:C w:=by
      rcases hC with h|h
      · cases h
      · exact h
    exact sU ho (by simpa using hiz) (oG hb) (Region.noSelect_spec hs) m listed a w (Region.free_spec ho hf) (by simpa using hr) hy hC2 (ih _ _ _ _ _ hc' (.inr hC2) h')
  | p i t ih=>
    intro f n listed a w hc hC h
    simp only [ckx,Bool.and_eq_true] at hc
    obtain ⟨⟨⟨⟨hn,hr⟩,hf⟩,hiz⟩,hc'⟩:=hc
    obtain ⟨m,rfl⟩:∃ m,n=m+1:=fK hn
    obtain ⟨o,v,ho,hy,h'⟩:=h
    exact vT ho (by simpa using hiz) (Region.noSelect_spec hs) m f listed a w (Region.free_spec ho hf) (by simpa using hr) hy hC (ih _ _ _ _ _ hc' hC h')
  | e i t ih=>
    intro f n listed a w hc hC h
    simp only [ckx,Bool.and_eq_true] at hc
    obtain ⟨⟨hn,hr⟩,hc'⟩:=hc
    obtain ⟨m,rfl⟩:∃ m,n=m+1:=fK hn
    have hri:=nE hr
    refine ⟨fun h0=>(by rw [hri] at h0;cases h0),fun j hj=>?_⟩
    rw [hri] at hj
    simp only [List.mem_cons,List.not_mem_nil,or_false] at hj
    subst hj
    exact wpOp_mono (fun a' w' h'=>⟨flag h'.1,ih _ _ _ _ _ hc' (flag h'.1) h'.2⟩) h
  | b2 i t j u ih1 ih2=>
    intro f n listed a w hc hC h
    simp only [ckx,Bool.and_eq_true] at hc
    obtain ⟨⟨⟨hn,hr⟩,hc1⟩,hc2⟩:=hc
    obtain ⟨m,rfl⟩:∃ m,n=m+1:=fK hn
    have hri:=nE hr
    refine ⟨fun h0=>(by rw [hri] at h0;cases h0),fun j hj=>?_⟩
    rw [hri] at hj
    simp only [List.mem_cons,List.not_mem_nil,or_false] at hj
    rcases hj with rfl|rfl
    · exact wpOp_mono (fun a' w' h'=>⟨flag h'.1,ih1 _ _ _ _ _ hc1 (flag h'.1) h'.2⟩) h.1
    · exact wpOp_mono (fun a' w' h'=>⟨flag h'.1,ih2 _ _ _ _ _ hc2 (flag h'.1) h'.2⟩) h.2
  | b3 i t j u k v ih1 ih2 ih3=>
    intro f n listed a w hc hC h
    simp only [ckx,Bool.and_eq_true] at hc
    obtain ⟨⟨⟨⟨hn,hr⟩,hc1⟩,hc2⟩,hc3⟩:=hc
    obtain ⟨m,rfl⟩:∃ m,n=m+1:=fK hn
    have hri:=nE hr
    refine ⟨fun h0=>(by rw [hri] at h0;cases h0),fun j hj=>?_⟩
    rw [hri] at hj
    simp only [List.mem_cons,List.not_mem_nil,or_false] at hj
    rcases hj with rfl|rfl|rfl
    · exact wpOp_mono (fun a' w' h'=>⟨flag h'.1,ih1 _ _ _ _ _ hc1 (flag h'.1) h'.2⟩) h.1
    · exact wpOp_mono (fun a' w' h'=>⟨flag h'.1,ih2 _ _ _ _ _ hc2 (flag h'.1) h'.2⟩) h.2.1
    · exact wpOp_mono (fun a' w' h'=>⟨flag h'.1,ih3 _ _ _ _ _ hc3 (flag h'.1) h'.2⟩) h.2.2
  | b4 i t j u k v m x ih1 ih2 ih3 ih4=>
    intro f n listed a w hc hC h
    simp only [ckx,Bool.and_eq_true] at hc
    obtain ⟨⟨⟨⟨⟨hn,hr⟩,hc1⟩,hc2⟩,hc3⟩,hc4⟩:=hc
    obtain ⟨m',rfl⟩:∃ m',n=m'+1:=fK hn
    have hri:=nE hr
    refine ⟨fun h0=>(by rw [hri] at h0;cases h0),fun j hj=>?_⟩
    rw [hri] at hj
    simp only [List.mem_cons,List.not_mem_nil,or_false] at hj
    rcases hj with rfl|rfl|rfl|rfl
    · exact wpOp_mono (fun a' w' h'=>⟨flag h'.1,ih1 _ _ _ _ _ hc1 (flag h'.1) h'.2⟩) h.1
    · exact wpOp_mono (fun a' w' h'=>⟨flag h'.1,ih2 _ _ _ _ _ hc2 (flag h'.1) h'.2⟩) h.2.1
    · exact wpOp_mono (fun a' w' h'=>⟨flag h'.1,ih3 _ _ _ _ _ hc3 (flag h'.1) h'.2⟩) h.2.2.1
    · exact wpOp_mono (fun a' w' h'=>⟨flag h'.1,ih4 _ _ _ _ _ hc4 (flag h'.1) h'.2⟩) h.2.2.2
def Dq (ops:Array Oper) (z:Nat) (π:Xt):Bool:=Region.noSelect ops&&ckx ops z π false ops.size (Array.replicate ops.size false)
theorem Ir {z:Nat} {id:Nat} {Q:Exit→Act→World→Prop} {a:Act} {w:World} (π:Xt) (hm:P.follows .mixedOrders=true) (hck:Dq ops z π=true) (hC:C w.drew)
    (h:xt P ops C z (fun a w=>Q .normal a w) π a w.drew):(Code.region id ops true).wp P Q a w:=by
  simp only [Dq,Bool.and_eq_true] at hck
  exact wp_region_any hm (lG (C:=C) (z:=z) (Qn:=fun a w=>Q .normal a w) (fun _ _ h=>h) _ _ _ _ _ (Dp hck.1 π false _ _ a _ hck.2 (.inr hC) h))
end
section
variable {P:Program} {w w0:World} {F0:Nat→Prop} {R RE:List Mem} {Q:Exit→Act→World→Prop} {Qn:Act→World→Prop} {l:List Oper} {N:FN} {L:List (Nat×Value)} {a:Act} {ty:TypeId} {pos:String} {af:Array Edge} {op:Op} {y:Code} {id z:Nat} {ops:Array Oper} {π t u v3:Xt}
theorem Wp (z:Nat) (π:Xt) (hm:P.follows .mixedOrders=true) (hck:Dq l.toArray z π=true) (SE:St w0 F0 RE w.drew)
    (h:∀ K:Act→World→Prop,(∀ a w,y.wp P Q a w→K a w)→xt P l.toArray (fun w'=>St w0 F0 RE w') z K π a w.drew):(Code.seq (.region id l.toArray true) y).wp P Q a w:=
  wp_seq (Ir π hm hck SE (h _ (fun _ _ h=>h)))
theorem dU {C:World→Prop} (h:Qn a w):xt P ops C z Qn .nil a w:=h
theorem cB {C:World→Prop} {i d:Nat} {v:Value} (H:Fr N L a) (hi:ops[i]?=some ⟨some d,op,ty,pos,af,none⟩) (hd:Nat.blt d N.n=true) (h:∀ w',C w'→Does P L ⟨some d,op,ty,pos,af,none⟩ w' v)
    (k:∀ a',Fr N ((d,v)::L) a'→xt P ops C z Qn π a' w):xt P ops C z Qn (.q i π) a w:=
  ⟨_,v,hi,.inl ⟨rfl,fun w' hC=>h w' hC a.eval (fun x u hx=>H.eval hx)⟩,k _ (H.put v hd)⟩
theorem iM {C:World→Prop} {i:Nat} {o:Oper} (hi:ops[i]?=some o) (h:wpList P ops (onlyN fun a' w'=>(i=z∨C w')∧xt P ops C z Qn π a' w') [o] a w):wpOp P ops NoQ i (fun a' w'=>(i=z∨C w')∧xt P ops C z Qn π a' w') a w:=by
  unfold wpOp
  simp only [hi]
  unfold wpList at h
  split
  · rename_i hw
    rw [if_pos hw] at h
    rcases h with h|⟨_,_,_,h⟩
    · exact .inl (mH h)
    · exact h.elim
  · rename_i hw
    rw [if_neg hw] at h
    exact h
theorem bM {C:World→Prop} {i:Nat} {o:Oper} (hi:ops[i]?=some o) (h:wpList P ops (onlyN fun a' w'=>(i=z∨C w')∧xt P ops C z Qn π a' w') [o] a w):xt P ops C z Qn (.e i π) a w:=iM hi h
theorem kY {C:World→Prop} {i j:Nat} {o o':Oper} (hi:ops[i]?=some o) (hj:ops[j]?=some o') (h:wpList P ops (onlyN fun a' w'=>(i=z∨C w')∧xt P ops C z Qn t a' w') [o] a w) (h':wpList P ops (onlyN fun a' w'=>(j=z∨C w')∧xt P ops C z Qn u a' w') [o'] a w):xt P ops C z Qn (.b2 i t j u) a w:=⟨iM hi h,iM hj h'⟩
theorem Fo {C:World→Prop} {i j k:Nat} {o o' o'':Oper} (hi:ops[i]?=some o) (hj:ops[j]?=some o') (hk:ops[k]?=some o'') (h:wpList P ops (onlyN fun a' w'=>(i=z∨C w')∧xt P ops C z Qn t a' w') [o] a w) (h':wpList P ops (onlyN fun a' w'=>(j=z∨C w')∧xt P ops C z Qn u a' w') [o'] a w) (h'':wpList P ops (onlyN fun a' w'=>(k=z∨C w')∧xt P ops C z Qn v3 a' w') [o''] a w):xt P ops C z Qn (.b3 i t j u k v3) a w:=⟨iM hi h,iM hj h',iM hk h''⟩
theorem Zd {C:World→Prop} {i j k m:Nat} {o1 o2 o3 o4:Oper} {v4:Xt} (hi:ops[i]?=some o1) (hj:ops[j]?=some o2) (hk:ops[k]?=some o3) (hm:ops[m]?=some o4) (h1:wpList P ops (onlyN fun a' w'=>(i=z∨C w')∧xt P ops C z Qn t a' w') [o1] a w) (h2:wpList P ops (onlyN fun a' w'=>(j=z∨C w')∧xt P ops C z Qn u a' w') [o2] a w) (h3:wpList P ops (onlyN fun a' w'=>(k=z∨C w')∧xt P ops C z Qn v3 a' w') [o3] a w) (h4:wpList P ops (onlyN fun a' w'=>(m=z∨C w')∧xt P ops C z Qn v4 a' w') [o4] a w):xt P ops C z Qn (.b4 i t j u k v3 m v4) a w:=⟨iM hi h1,iM hj h2,iM hk h3,iM hm h4⟩
end
end
section
theorem Wq {x1 x2 x3 x4 x5:List Value} (h:[x1,x2,x3,x4,x5]=w8exW.map fun p=>[.int .i64 p.a,.int .i64 p.b,.int .i64 p.kind,.int .i64 p.ticks,.int .i64 p.wide,.int .i64 p.mach,.int .i64 p.still]):∀ k j,k<5→j<7→([x1,x2,x3,x4,x5].getD k []).getD j undef=pcell w8exW k j:=by
  rw [h]
  intro k j hk hj
  match k,hk with
  | 0,_=>exact seven (p:=fun j=>((w8exW.map fun p=>[Value.int .i64 p.a,.int .i64 p.b,.int .i64 p.kind,.int .i64 p.ticks,.int .i64 p.wide,.int .i64 p.mach,.int .i64 p.still]).getD 0 []).getD j undef=pcell w8exW 0 j) G G G G G G G j hj
  | 1,_=>exact seven (p:=fun j=>((w8exW.map fun p=>[Value.int .i64 p.a,.int .i64 p.b,.int .i64 p.kind,.int .i64 p.ticks,.int .i64 p.wide,.int .i64 p.mach,.int .i64 p.still]).getD 1 []).getD j undef=pcell w8exW 1 j) G G G G G G G j hj
  | 2,_=>exact seven (p:=fun j=>((w8exW.map fun p=>[Value.int .i64 p.a,.int .i64 p.b,.int .i64 p.kind,.int .i64 p.ticks,.int .i64 p.wide,.int .i64 p.mach,.int .i64 p.still]).getD 2 []).getD j undef=pcell w8exW 2 j) G G G G G G G j hj
  | 3,_=>exact seven (p:=fun j=>((w8exW.map fun p=>[Value.int .i64 p.a,.int .i64 p.b,.int .i64 p.kind,.int .i64 p.ticks,.int .i64 p.wide,.int .i64 p.mach,.int .i64 p.still]).getD 3 []).getD j undef=pcell w8exW 3 j) G G G G G G G j hj
  | 4,_=>exact seven (p:=fun j=>((w8exW.map fun p=>[Value.int .i64 p.a,.int .i64 p.b,.int .i64 p.kind,.int .i64 p.ticks,.int .i64 p.wide,.int .i64 p.mach,.int .i64 p.still]).getD 4 []).getD j undef=pcell w8exW 4 j) G G G G G G G j hj
theorem Wr {x:Int}:∀ k j,k<1→j<1→([[Value.int .i64 x]].getD k []).getD j undef=icl [x] k j:=fun k j hk hj=>by
  have e:k=0:=by omega
  have e2:j=0:=by omega
  subst e;subst e2;rfl
theorem fL {x y z t:Int}:∀ k j,k<4→j<1→([[Value.int .i64 x],[.int .i64 y],[.int .i64 z],[.int .i64 t]].getD k []).getD j undef=icl [x,y,z,t] k j:=fun k j hk hj=>by
  have e2:j=0:=by omega
  subst e2
  match k,hk with
  | 0,_=>rfl
  | 1,_=>rfl
  | 2,_=>rfl
  | 3,_=>rfl
theorem fW {x1 x2:List Value} (h:[x1,x2]=exPr.map fun p=>[.int .i64 p.fr,.int .i64 p.to,.int .i64 p.first,.int .i64 p.last,.bool p.helped]):∀ k j,k<2→j<5→([x1,x2].getD k []).getD j undef=cW exPr k j:=by
  rw [h]
  intro k j hk hj
  have hj':j=0∨j=1∨j=2∨j=3∨j=4:=by omega
  have hk':k=0∨k=1:=by omega
  rcases hk' with rfl|rfl <;> rcases hj' with rfl|rfl|rfl|rfl|rfl <;> rfl
theorem iW {x1 x2:List Value} {RA:Option Addr} {rc:Nat} (h:[x1,x2]=(exU RA rc).map fun u=>[.int .i64 u.mach,.int .i64 u.every,.int .i64 u.seen,.slice u.RA u.rates.length u.rc,.int .i64 u.worn,.int .i64 u.turns,.int .i64 u.age,.slice u.UA u.uses.length u.uc,.int .i64 u.old,.int .i64 u.tn,.int .i64 u.cl,.int .i64 u.kind]):∀ k j,k<2→j<12→([x1,x2].getD k []).getD j undef=vcell (exU RA rc) k j:=by
  rw [h]
  intro k j hk hj
  have hj':j=0∨j=1∨j=2∨j=3∨j=4∨j=5∨j=6∨j=7∨j=8∨j=9∨j=10∨j=11:=by omega
  have hk':k=0∨k=1:=by omega
  rcases hk' with rfl|rfl <;> rcases hj' with rfl|rfl|rfl|rfl|rfl|rfl|rfl|rfl|rfl|rfl|rfl|rfl <;> rfl
theorem Ze:∀ k j,k<1→j<2→([[Value.int .i64 1,.int .i64 2]].getD k []).getD j undef=scell [(1,2)] k j:=fun k j hk hj=>by
  have hk':k=0:=by omega
  have hj':j=0∨j=1:=by omega
  subst hk'
  rcases hj' with rfl|rfl <;> rfl
theorem Zf:∀ k j,k<1→j<3→([[Value.int .i64 1,.int .i64 1,.int .i64 1]].getD k []).getD j undef=aV exJob k j:=fun k j hk hj=>by
  have hk':k=0:=by omega
  have hj':j=0∨j=1∨j=2:=by omega
  subst hk'
  rcases hj' with rfl|rfl|rfl <;> rfl
section
variable {w:World} {F:Nat→Prop} {PA:Option Addr} {pc:Nat} {XA:Option Addr} {xc:Nat} {BA:Option Addr} {bc:Nat} {QA:Option Addr} {qc:Nat} {VA:Option Addr} {vc:Nat} {RA:Option Addr} {rc:Nat}
theorem Nw (h1:InS w F 7 PA 5 (pcell w8exW)) (h2:InS w F 1 XA 1 (icl exX)) (h3:InS w F 1 BA 4 (icl w8exP)) (h4:InS w F 5 QA 2 (cW exPr)) (h5:InS w F 12 VA 2 (vcell (exU RA rc))) (h6:InS w F 2 RA 1 (scell [(1,2)])):YIn w F (exYr PA pc XA xc BA bc QA qc VA vc RA rc):=
  ⟨h1,h2,h3,h4,h5,InS.nil,fun k hk=>by
    have hk':k=0∨k=1:=by have:k<2:=hk;omega
    rcases hk' with rfl|rfl <;> exact h6,fun k hk=>by
    have hk':k=0∨k=1:=by have:k<2:=hk;omega
    rcases hk' with rfl|rfl <;> exact InS.nil⟩
theorem Nx:YBd (exYr PA pc XA xc BA bc QA qc VA vc RA rc):=by
  have two:∀ {p:Nat→Prop},p 0→p 1→∀ k,k<2→p k:=fun h0 h1 k hk=>by
    have hk':k=0∨k=1:=by omega
    rcases hk' with rfl|rfl
    · exact h0
    · exact h1
  exact ⟨by show 5*56≤_;decide,by show 1*8≤_;decide,by show 4*8≤_;decide,by show 2*40≤_;decide,by show 2*120≤_;decide,by show 0*24≤_;decide,two (by show 1*16≤_;decide) (by show 1*16≤_;decide),two (by show 0*48≤_;decide) (by show 0*48≤_;decide),two (by show 0≤0;decide) (by show 0≤0;decide)⟩
theorem Td:∀ k j,k<4→j<1→setsV (exYr PA pc XA xc BA bc QA qc VA vc RA rc) exJob (exYr PA pc XA xc BA bc QA qc VA vc RA rc).us.length k j=icl [0,3,1,1] k j:=fun k j hk hj=>by
  unfold setsV icl
  rw [exOo (by omega)]
theorem Is (hy:YIn w noF (exYr PA pc XA xc BA bc QA qc VA vc RA rc)) {TA:Option Addr} {tc:Nat} (hl:InS w noF 3 TA 1 (aV exJob)) :
    Calls Try.prog 13 [.agg [.int .i64 4,.int .i64 4,.slice PA 5 pc,.slice XA 1 xc,.slice BA 4 bc,.int .i64 6,.bool false,.slice QA 2 qc,.slice VA 2 vc,.int .i64 1,.slice none 0 0].toArray,.slice TA 1 tc].toArray w (Ret fun v w'=>∃ A c,v = .tuple #[.slice A 4 c,.int .i64 0]∧St w noF [ownM 3 1 A 4 c (icl [0,3,1,1])] w'):=by
  have hh:=Wh (exYr PA pc XA xc BA bc QA qc VA vc RA rc) exJob TA tc w hy Nx hl (by decide)
  refine eJ hh fun v w' h=>?_
  rcases h with ⟨h0,_⟩|⟨_,A,c,h1,h2⟩
  · exact absurd Sv h0
  · exact ⟨A,c,h1,h2.recell (i:=0) rfl Td⟩
theorem Bd (hy:YIn w noF (exYr PA pc XA xc BA bc QA qc VA vc RA rc)) :
    Calls Try.prog 12 [.agg [.int .i64 4,.int .i64 4,.slice PA 5 pc,.slice XA 1 xc,.slice BA 4 bc,.int .i64 6,.bool false,.slice QA 2 qc,.slice VA 2 vc,.int .i64 1,.slice none 0 0].toArray,.slice none 0 0].toArray w (Ret fun v w'=>v = .tuple #[.int .i64 3,.int .i64 3,.int .i64 0]∧St w noF [] w'):=by
  have hh:=pH (exYr PA pc XA xc BA bc QA qc VA vc RA rc) [] none 0 w hy Nx InS.nil (by decide)
  refine eJ hh fun v w' h=>?_
  rcases h with ⟨h0,_⟩|⟨_,h1,h2⟩
  · exact absurd Su h0
  · rw [Nt] at h1
    exact ⟨h1,h2⟩
end
theorem bW (w:World) :
    Calls Try.prog 59 [].toArray w (Ret (fun u w'=>∃ A c B d,u = .agg [.int .i64 4,.slice A 5 c,.slice B 1 d].toArray∧St w noF [ownM 128 7 A 5 c (pcell w8exW),ownM 3 1 B 1 d (icl exX)] w')):=by
 refine enter Try.func59 rfl Try.ntmps59 rfl (fun a H=>?_)
 have S:=St.start w
 refine aA fun K1 k1=>?_
 refine aN H rfl S Ui ?_;clear H a S;intro b0 _ a hb0 hbw0 S H
 refine k1 _ _ ?_;clear k1 K1
 replace H:=H.keep [0] rfl
 refine aA fun K2 k2=>?_
 refine aK H rfl S aT bE fS G G G G G G G G G ?_;clear H a S;intro A1 _ a hA1 S H
 replace S:=S.recell (i:=0) rfl (cell':=icl exX) (fun k j hk hj=>Wr k j hk hj)
 refine ls 5 H<|sd (aM tN G G)<|sd (aM tN G G)<|sd (aM tN G G)<|sd (aM tN G G)<|sd (aM tN G G)<|sE ?_;clear H a;intro a H
 refine aK H rfl S fZ dN kS G G G G G G G G G ?_;clear H a S;intro A2 _ a hA2 S H
 replace S:=S.recell (i:=0) rfl (cell':=pcell w8exW) (fun k j hk hj=>Wq rfl k j hk hj)
 refine ls 1 H<|sd (aM Yj G G)<|sE ?_;clear H a;intro a H
 refine aH H S (i:=2) G G G G dP G G ?_
 clear H a S;intro _ a S H
 refine k2 _ _ ?_;clear k2 K2
 refine wp_ret ?_
 refine retA (fn:=Try.f59) rfl H rfl cL (by exact dP) (cN S (i:=2) rfl) ?_
 exact ⟨_,_,_,_,rfl,(S.sel [0,1] G G)⟩
theorem vP (w:World) :
    Calls Try.prog 35 [].toArray w (Ret (fun u w'=>∃ PA pc XA xc BA bc QA qc VA vc RA rc,u = .agg [.int .i64 4,.int .i64 4,.slice PA 5 pc,.slice XA 1 xc,.slice BA 4 bc,.int .i64 6,.bool false,.slice QA 2 qc,.slice VA 2 vc,.int .i64 1,.slice none 0 0].toArray∧St w noF [ownM 128 7 PA 5 pc (pcell w8exW),ownM 3 1 XA 1 xc (icl exX),ownM 3 1 BA 4 bc (icl w8exP),ownM 95 5 QA 2 qc (cW exPr),ownM 65 12 VA 2 vc (vcell (exU RA rc)),ownM 68 2 RA 1 rc (scell [(1,2)])] w')):=by
 refine enter Try.func35 rfl Try.ntmps35 rfl (fun a H=>?_)
 have S:=St.start w
 refine aA fun K1 k1=>?_
 refine aN H rfl S Kj ?_;clear H a S;intro b0 _ a hb0 hbw0 S H
 refine k1 _ _ ?_;clear k1 K1
 refine aA fun K2 k2=>?_
 refine ls 1 H<|sd (aM jK G G)<|sE ?_;clear H a;intro a H
 refine aK H rfl S dH aY eH G G G G G G G G G ?_;clear H a S;intro A1 _ a hA1 S H
 replace S:=S.recell (i:=0) rfl (cell':=scell [(1,2)]) (fun k j hk hj=>Ze k j hk hj)
 refine ls 1 H<|sd (aM Yk G G)<|sE ?_;clear H a;intro a H
 refine aN H rfl S Uk ?_;clear H a S;intro b1 _ a hb1 hbw1 S H
 refine aH H S (i:=0) G G G G fY G G ?_
 clear H a S;intro _ a S H
 refine k2 _ _ ?_;clear k2 K2
 replace H:=H.keep [0,1] rfl
 replace S:=S.drew
 refine Wp 11 (.q 2 (.q 3 (.q 5 (.q 6 (.q 7 (.q 8 (.b4 0 (.b3 1 (.b2 4 (.e 9 (.q 10 (.e 11 .nil))) 9 (.e 4 (.q 10 (.e 11 .nil)))) 4 (.b2 1 (.e 9 (.q 10 (.e 11 .nil))) 9 (.e 1 (.q 10 (.e 11 .nil)))) 9 (.b2 1 (.e 4 (.q 10 (.e 11 .nil))) 4 (.e 1 (.q 10 (.e 11 .nil))))) 1 (.b3 0 (.b2 4 (.e 9 (.q 10 (.e 11 .nil))) 9 (.e 4 (.q 10 (.e 11 .nil)))) 4 (.b2 0 (.e 9 (.q 10 (.e 11 .nil))) 9 (.e 0 (.q 10 (.e 11 .nil)))) 9 (.b2 0 (.e 4 (.q 10 (.e 11 .nil))) 4 (.e 0 (.q 10 (.e 11 .nil))))) 4 (.b3 0 (.b2 1 (.e 9 (.q 10 (.e 11 .nil))) 9 (.e 1 (.q 10 (.e 11 .nil)))) 1 (.b2 0 (.e 9 (.q 10 (.e 11 .nil))) 9 (.e 0 (.q 10 (.e 11 .nil)))) 9 (.b2 0 (.e 1 (.q 10 (.e 11 .nil))) 1 (.e 0 (.q 10 (.e 11 .nil))))) 9 (.b3 0 (.b2 1 (.e 4 (.q 10 (.e 11 .nil))) 4 (.e 1 (.q 10 (.e 11 .nil)))) 1 (.b2 0 (.e 4 (.q 10 (.e 11 .nil))) 4 (.e 0 (.q 10 (.e 11 .nil)))) 4 (.b2 0 (.e 1 (.q 10 (.e 11 .nil))) 1 (.e 0 (.q 10 (.e 11 .nil)))))))))))) (by kernel_rfl) (by kernel_rfl) (S.sel [0,1] G G) fun K3 k3=>?_
 refine cB H G G (fun _ S=>aM Uq G G) ?_;clear H a;intro a H
 refine cB H G G (fun _ S=>aM Uq G G) ?_;clear H a;intro a H
 refine cB H G G (fun _ S=>(aD eT fY rfl S (i:=0) G G)) ?_;clear H a;intro a H
 refine cB H G G (fun _ S=>aM Uo G G) ?_;clear H a;intro a H
 refine cB H G G (fun _ S=>(aD eT fY rfl S (i:=0) G G)) ?_;clear H a;intro a H
 refine cB H G G (fun _ S=>aM Uo G G) ?_;clear H a;intro a H
 refine Zd G G G G ?_ ?_ ?_ ?_
 ·skip
  refine aB H G G Try.func59 G G (bW _) ?_;clear H a
  rintro _ _ a ⟨A5,c5,B5,d5,rfl,S2⟩ H
  replace S:=S.call S2;clear S2
  refine wpList_nil (And.intro (Or.inr (S.sel [2,3] G G)) ?_)
  refine Fo G G G ?_ ?_ ?_
  ·skip
   refine aK H rfl S aT bE fS G G G G G G G G G ?_;clear H a S;intro A2 _ a hA2 S H
   replace S:=S.recell (i:=0) rfl (cell':=icl w8exP) (fun k j hk hj=>fL k j hk hj)
   refine wpList_nil (And.intro (Or.inr (S.sel [3,4] G G)) ?_)
   refine kY G G ?_ ?_
   ·skip
    refine aK H rfl S eU eP gF G G G G G G G G G ?_;clear H a S;intro A3 _ a hA3 S H
    replace S:=S.recell (i:=0) rfl (cell':=cW exPr) (fun k j hk hj=>fW rfl k j hk hj)
    refine wpList_nil (And.intro (Or.inr (S.sel [4,5] G G)) ?_)
    refine bM rfl ?_
    refine aK H rfl S cS dY gO G G G G G G G G G ?_;clear H a S;intro A4 _ a hA4 S H
    replace S:=S.recell (i:=0) rfl (cell':=vcell (exU _ _)) (fun k j hk hj=>iW rfl k j hk hj)
    refine wpList_nil (And.intro (Or.inr (S.sel [5,6] G G)) ?_)
    refine cB H G G (fun _ S=>aM fJ G G) ?_;clear H a;intro a H
    refine bM rfl ?_
    refine aH H S (i:=7) G G G G aZ G G ?_
    clear H a S;intro _ a S H
    refine wpList_nil (And.intro (Or.inl rfl) ?_)
    refine dU ?_
    refine k3 _ _ ?_
    clear k3 K3
    refine wp_ret ?_
    refine retA (fn:=Try.f35) rfl H rfl bF (by exact aZ) (cN S (i:=7) rfl) ?_
    exact ⟨_,_,_,_,_,_,_,_,_,_,_,_,rfl,(S.sel [3,4,2,1,0,6] G G)⟩
   ·skip
    refine aK H rfl S cS dY gO G G G G G G G G G ?_;clear H a S;intro A5 _ a hA5 S H
    replace S:=S.recell (i:=0) rfl (cell':=vcell (exU _ _)) (fun k j hk hj=>iW rfl k j hk hj)
    refine wpList_nil (And.intro (Or.inr (S.sel [4,5] G G)) ?_)
    refine bM rfl ?_
    refine aK H rfl S eU eP gF G G G G G G G G G ?_;clear H a S;intro A6 _ a hA6 S H
    replace S:=S.recell (i:=0) rfl (cell':=cW exPr) (fun k j hk hj=>fW rfl k j hk hj)
    refine wpList_nil (And.intro (Or.inr (S.sel [5,6] G G)) ?_)
    refine cB H G G (fun _ S=>aM fJ G G) ?_;clear H a;intro a H
    refine bM rfl ?_
    refine aH H S (i:=7) G G G G aZ G G ?_
    clear H a S;intro _ a S H
    refine wpList_nil (And.intro (Or.inl rfl) ?_)
    refine dU ?_
    refine k3 _ _ ?_
    clear k3 K3
    refine wp_ret ?_
    refine retA (fn:=Try.f35) rfl H rfl bF (by exact aZ) (cN S (i:=7) rfl) ?_
    exact ⟨_,_,_,_,_,_,_,_,_,_,_,_,rfl,(S.sel [3,4,2,0,1,6] G G)⟩
  ·skip
   refine aK H rfl S eU eP gF G G G G G G G G G ?_;clear H a S;intro A7 _ a hA7 S H
   replace S:=S.recell (i:=0) rfl (cell':=cW exPr) (fun k j hk hj=>fW rfl k j hk hj)
   refine wpList_nil (And.intro (Or.inr (S.sel [3,4] G G)) ?_)
   refine kY G G ?_ ?_
   ·skip
    refine aK H rfl S aT bE fS G G G G G G G G G ?_;clear H a S;intro A8 _ a hA8 S H
    replace S:=S.recell (i:=0) rfl (cell':=icl w8exP) (fun k j hk hj=>fL k j hk hj)
    refine wpList_nil (And.intro (Or.inr (S.sel [4,5] G G)) ?_)
    refine bM rfl ?_
    refine aK H rfl S cS dY gO G G G G G G G G G ?_;clear H a S;intro A9 _ a hA9 S H
    replace S:=S.recell (i:=0) rfl (cell':=vcell (exU _ _)) (fun k j hk hj=>iW rfl k j hk hj)
    refine wpList_nil (And.intro (Or.inr (S.sel [5,6] G G)) ?_)
    refine cB H G G (fun _ S=>aM fJ G G) ?_;clear H a;intro a H
    refine bM rfl ?_
    refine aH H S (i:=7) G G G G aZ G G ?_
    clear H a S;intro _ a S H
    refine wpList_nil (And.intro (Or.inl rfl) ?_)
    refine dU ?_
    refine k3 _ _ ?_
    clear k3 K3
    refine wp_ret ?_
    refine retA (fn:=Try.f35) rfl H rfl bF (by exact aZ) (cN S (i:=7) rfl) ?_
    exact ⟨_,_,_,_,_,_,_,_,_,_,_,_,rfl,(S.sel [3,4,1,2,0,6] G G)⟩
   ·skip
    refine aK H rfl S cS dY gO G G G G G G G G G ?_;clear H a S;intro A10 _ a hA10 S H
    replace S:=S.recell (i:=0) rfl (cell':=vcell (exU _ _)) (fun k j hk hj=>iW rfl k j hk hj)
    refine wpList_nil (And.intro (Or.inr (S.sel [4,5] G G)) ?_)
    refine bM rfl ?_
    refine aK H rfl S aT bE fS G G G G G G G G G ?_;clear H a S;intro A11 _ a hA11 S H
    replace S:=S.recell (i:=0) rfl (cell':=icl w8exP) (fun k j hk hj=>fL k j hk hj)
    refine wpList_nil (And.intro (Or.inr (S.sel [5,6] G G)) ?_)
    refine cB H G G (fun _ S=>aM fJ G G) ?_;clear H a;intro a H
    refine bM rfl ?_
    refine aH H S (i:=7) G G G G aZ G G ?_
    clear H a S;intro _ a S H
    refine wpList_nil (And.intro (Or.inl rfl) ?_)
    refine dU ?_
    refine k3 _ _ ?_
    clear k3 K3
    refine wp_ret ?_
    refine retA (fn:=Try.f35) rfl H rfl bF (by exact aZ) (cN S (i:=7) rfl) ?_
    exact ⟨_,_,_,_,_,_,_,_,_,_,_,_,rfl,(S.sel [3,4,0,2,1,6] G G)⟩
  ·skip
   refine aK H rfl S cS dY gO G G G G G G G G G ?_;clear H a S;intro A12 _ a hA12 S H
   replace S:=S.recell (i:=0) rfl (cell':=vcell (exU _ _)) (fun k j hk hj=>iW rfl k j hk hj)
   refine wpList_nil (And.intro (Or.inr (S.sel [3,4] G G)) ?_)
   refine kY G G ?_ ?_
   ·skip
    refine aK H rfl S aT bE fS G G G G G G G G G ?_;clear H a S;intro A13 _ a hA13 S H
    replace S:=S.recell (i:=0) rfl (cell':=icl w8exP) (fun k j hk hj=>fL k j hk hj)
    refine wpList_nil (And.intro (Or.inr (S.sel [4,5] G G)) ?_)
    refine bM rfl ?_
    refine aK H rfl S eU eP gF G G G G G G G G G ?_;clear H a S;intro A14 _ a hA14 S H
    replace S:=S.recell (i:=0) rfl (cell':=cW exPr) (fun k j hk hj=>fW rfl k j hk hj)
    refine wpList_nil (And.intro (Or.inr (S.sel [5,6] G G)) ?_)
    refine cB H G G (fun _ S=>aM fJ G G) ?_;clear H a;intro a H
    refine bM rfl ?_
    refine aH H S (i:=7) G G G G aZ G G ?_
    clear H a S;intro _ a S H
    refine wpList_nil (And.intro (Or.inl rfl) ?_)
    refine dU ?_
    refine k3 _ _ ?_
    clear k3 K3
    refine wp_ret ?_
    refine retA (fn:=Try.f35) rfl H rfl bF (by exact aZ) (cN S (i:=7) rfl) ?_
    exact ⟨_,_,_,_,_,_,_,_,_,_,_,_,rfl,(S.sel [3,4,1,0,2,6] G G)⟩
   ·skip
    refine aK H rfl S eU eP gF G G G G G G G G G ?_;clear H a S;intro A15 _ a hA15 S H
    replace S:=S.recell (i:=0) rfl (cell':=cW exPr) (fun k j hk hj=>fW rfl k j hk hj)
    refine wpList_nil (And.intro (Or.inr (S.sel [4,5] G G)) ?_)
    refine bM rfl ?_
    refine aK H rfl S aT bE fS G G G G G G G G G ?_;clear H a S;intro A16 _ a hA16 S H
    replace S:=S.recell (i:=0) rfl (cell':=icl w8exP) (fun k j hk hj=>fL k j hk hj)
    refine wpList_nil (And.intro (Or.inr (S.sel [5,6] G G)) ?_)
    refine cB H G G (fun _ S=>aM fJ G G) ?_;clear H a;intro a H
    refine bM rfl ?_
    refine aH H S (i:=7) G G G G aZ G G ?_
    clear H a S;intro _ a S H
    refine wpList_nil (And.intro (Or.inl rfl) ?_)
    refine dU ?_
    refine k3 _ _ ?_
    clear k3 K3
    refine wp_ret ?_
    refine retA (fn:=Try.f35) rfl H rfl bF (by exact aZ) (cN S (i:=7) rfl) ?_
    exact ⟨_,_,_,_,_,_,_,_,_,_,_,_,rfl,(S.sel [3,4,0,1,2,6] G G)⟩
 ·skip
  refine aK H rfl S aT bE fS G G G G G G G G G ?_;clear H a S;intro A17 _ a hA17 S H
  replace S:=S.recell (i:=0) rfl (cell':=icl w8exP) (fun k j hk hj=>fL k j hk hj)
  refine wpList_nil (And.intro (Or.inr (S.sel [1,2] G G)) ?_)
  refine Fo G G G ?_ ?_ ?_
  ·skip
   refine aB H G G Try.func59 G G (bW _) ?_;clear H a
   rintro _ _ a ⟨A5,c5,B5,d5,rfl,S2⟩ H
   replace S:=S.call S2;clear S2
   refine wpList_nil (And.intro (Or.inr (S.sel [3,4] G G)) ?_)
   refine kY G G ?_ ?_
   ·skip
    refine aK H rfl S eU eP gF G G G G G G G G G ?_;clear H a S;intro A18 _ a hA18 S H
    replace S:=S.recell (i:=0) rfl (cell':=cW exPr) (fun k j hk hj=>fW rfl k j hk hj)
    refine wpList_nil (And.intro (Or.inr (S.sel [4,5] G G)) ?_)
    refine bM rfl ?_
    refine aK H rfl S cS dY gO G G G G G G G G G ?_;clear H a S;intro A19 _ a hA19 S H
    replace S:=S.recell (i:=0) rfl (cell':=vcell (exU _ _)) (fun k j hk hj=>iW rfl k j hk hj)
    refine wpList_nil (And.intro (Or.inr (S.sel [5,6] G G)) ?_)
    refine cB H G G (fun _ S=>aM fJ G G) ?_;clear H a;intro a H
    refine bM rfl ?_
    refine aH H S (i:=7) G G G G aZ G G ?_
    clear H a S;intro _ a S H
    refine wpList_nil (And.intro (Or.inl rfl) ?_)
    refine dU ?_
    refine k3 _ _ ?_
    clear k3 K3
    refine wp_ret ?_
    refine retA (fn:=Try.f35) rfl H rfl bF (by exact aZ) (cN S (i:=7) rfl) ?_
    exact ⟨_,_,_,_,_,_,_,_,_,_,_,_,rfl,(S.sel [2,3,4,1,0,6] G G)⟩
   ·skip
    refine aK H rfl S cS dY gO G G G G G G G G G ?_;clear H a S;intro A20 _ a hA20 S H
    replace S:=S.recell (i:=0) rfl (cell':=vcell (exU _ _)) (fun k j hk hj=>iW rfl k j hk hj)
    refine wpList_nil (And.intro (Or.inr (S.sel [4,5] G G)) ?_)
    refine bM rfl ?_
    refine aK H rfl S eU eP gF G G G G G G G G G ?_;clear H a S;intro A21 _ a hA21 S H
    replace S:=S.recell (i:=0) rfl (cell':=cW exPr) (fun k j hk hj=>fW rfl k j hk hj)
    refine wpList_nil (And.intro (Or.inr (S.sel [5,6] G G)) ?_)
    refine cB H G G (fun _ S=>aM fJ G G) ?_;clear H a;intro a H
    refine bM rfl ?_
    refine aH H S (i:=7) G G G G aZ G G ?_
    clear H a S;intro _ a S H
    refine wpList_nil (And.intro (Or.inl rfl) ?_)
    refine dU ?_
    refine k3 _ _ ?_
    clear k3 K3
    refine wp_ret ?_
    refine retA (fn:=Try.f35) rfl H rfl bF (by exact aZ) (cN S (i:=7) rfl) ?_
    exact ⟨_,_,_,_,_,_,_,_,_,_,_,_,rfl,(S.sel [2,3,4,0,1,6] G G)⟩
  ·skip
   refine aK H rfl S eU eP gF G G G G G G G G G ?_;clear H a S;intro A22 _ a hA22 S H
   replace S:=S.recell (i:=0) rfl (cell':=cW exPr) (fun k j hk hj=>fW rfl k j hk hj)
   refine wpList_nil (And.intro (Or.inr (S.sel [2,3] G G)) ?_)
   refine kY G G ?_ ?_
   ·skip
    refine aB H G G Try.func59 G G (bW _) ?_;clear H a
    rintro _ _ a ⟨A5,c5,B5,d5,rfl,S2⟩ H
    replace S:=S.call S2;clear S2
    refine wpList_nil (And.intro (Or.inr (S.sel [4,5] G G)) ?_)
    refine bM rfl ?_
    refine aK H rfl S cS dY gO G G G G G G G G G ?_;clear H a S;intro A23 _ a hA23 S H
    replace S:=S.recell (i:=0) rfl (cell':=vcell (exU _ _)) (fun k j hk hj=>iW rfl k j hk hj)
    refine wpList_nil (And.intro (Or.inr (S.sel [5,6] G G)) ?_)
    refine cB H G G (fun _ S=>aM fJ G G) ?_;clear H a;intro a H
    refine bM rfl ?_
    refine aH H S (i:=7) G G G G aZ G G ?_
    clear H a S;intro _ a S H
    refine wpList_nil (And.intro (Or.inl rfl) ?_)
    refine dU ?_
    refine k3 _ _ ?_
    clear k3 K3
    refine wp_ret ?_
    refine retA (fn:=Try.f35) rfl H rfl bF (by exact aZ) (cN S (i:=7) rfl) ?_
    exact ⟨_,_,_,_,_,_,_,_,_,_,_,_,rfl,(S.sel [1,2,4,3,0,6] G G)⟩
   ·skip
    refine aK H rfl S cS dY gO G G G G G G G G G ?_;clear H a S;intro A24 _ a hA24 S H
    replace S:=S.recell (i:=0) rfl (cell':=vcell (exU _ _)) (fun k j hk hj=>iW rfl k j hk hj)
    refine wpList_nil (And.intro (Or.inr (S.sel [3,4] G G)) ?_)
    refine bM rfl ?_
    refine aB H G G Try.func59 G G (bW _) ?_;clear H a
    rintro _ _ a ⟨A5,c5,B5,d5,rfl,S2⟩ H
    replace S:=S.call S2;clear S2
    refine wpList_nil (And.intro (Or.inr (S.sel [5,6] G G)) ?_)
    refine cB H G G (fun _ S=>aM fJ G G) ?_;clear H a;intro a H
    refine bM rfl ?_
    refine aH H S (i:=7) G G G G aZ G G ?_
    clear H a S;intro _ a S H
    refine wpList_nil (And.intro (Or.inl rfl) ?_)
    refine dU ?_
    refine k3 _ _ ?_
    clear k3 K3
    refine wp_ret ?_
    refine retA (fn:=Try.f35) rfl H rfl bF (by exact aZ) (cN S (i:=7) rfl) ?_
    exact ⟨_,_,_,_,_,_,_,_,_,_,_,_,rfl,(S.sel [0,1,4,3,2,6] G G)⟩
  ·skip
   refine aK H rfl S cS dY gO G G G G G G G G G ?_;clear H a S;intro A25 _ a hA25 S H
   replace S:=S.recell (i:=0) rfl (cell':=vcell (exU _ _)) (fun k j hk hj=>iW rfl k j hk hj)
   refine wpList_nil (And.intro (Or.inr (S.sel [2,3] G G)) ?_)
   refine kY G G ?_ ?_
   ·skip
    refine aB H G G Try.func59 G G (bW _) ?_;clear H a
    rintro _ _ a ⟨A5,c5,B5,d5,rfl,S2⟩ H
    replace S:=S.call S2;clear S2
    refine wpList_nil (And.intro (Or.inr (S.sel [4,5] G G)) ?_)
    refine bM rfl ?_
    refine aK H rfl S eU eP gF G G G G G G G G G ?_;clear H a S;intro A26 _ a hA26 S H
    replace S:=S.recell (i:=0) rfl (cell':=cW exPr) (fun k j hk hj=>fW rfl k j hk hj)
    refine wpList_nil (And.intro (Or.inr (S.sel [5,6] G G)) ?_)
    refine cB H G G (fun _ S=>aM fJ G G) ?_;clear H a;intro a H
    refine bM rfl ?_
    refine aH H S (i:=7) G G G G aZ G G ?_
    clear H a S;intro _ a S H
    refine wpList_nil (And.intro (Or.inl rfl) ?_)
    refine dU ?_
    refine k3 _ _ ?_
    clear k3 K3
    refine wp_ret ?_
    refine retA (fn:=Try.f35) rfl H rfl bF (by exact aZ) (cN S (i:=7) rfl) ?_
    exact ⟨_,_,_,_,_,_,_,_,_,_,_,_,rfl,(S.sel [1,2,4,0,3,6] G G)⟩
   ·skip
    refine aK H rfl S eU eP gF G G G G G G G G G ?_;clear H a S;intro A27 _ a hA27 S H
    replace S:=S.recell (i:=0) rfl (cell':=cW exPr) (fun k j hk hj=>fW rfl k j hk hj)
    refine wpList_nil (And.intro (Or.inr (S.sel [3,4] G G)) ?_)
    refine bM rfl ?_
    refine aB H G G Try.func59 G G (bW _) ?_;clear H a
    rintro _ _ a ⟨A5,c5,B5,d5,rfl,S2⟩ H
    replace S:=S.call S2;clear S2
    refine wpList_nil (And.intro (Or.inr (S.sel [5,6] G G)) ?_)
    refine cB H G G (fun _ S=>aM fJ G G) ?_;clear H a;intro a H
    refine bM rfl ?_
    refine aH H S (i:=7) G G G G aZ G G ?_
    clear H a S;intro _ a S H
    refine wpList_nil (And.intro (Or.inl rfl) ?_)
    refine dU ?_
    refine k3 _ _ ?_
    clear k3 K3
    refine wp_ret ?_
    refine retA (fn:=Try.f35) rfl H rfl bF (by exact aZ) (cN S (i:=7) rfl) ?_
    exact ⟨_,_,_,_,_,_,_,_,_,_,_,_,rfl,(S.sel [0,1,4,2,3,6] G G)⟩
 ·skip
  refine aK H rfl S eU eP gF G G G G G G G G G ?_;clear H a S;intro A28 _ a hA28 S H
  replace S:=S.recell (i:=0) rfl (cell':=cW exPr) (fun k j hk hj=>fW rfl k j hk hj)
  refine wpList_nil (And.intro (Or.inr (S.sel [1,2] G G)) ?_)
  refine Fo G G G ?_ ?_ ?_
  ·skip
   refine aB H G G Try.func59 G G (bW _) ?_;clear H a
   rintro _ _ a ⟨A5,c5,B5,d5,rfl,S2⟩ H
   replace S:=S.call S2;clear S2
   refine wpList_nil (And.intro (Or.inr (S.sel [3,4] G G)) ?_)
   refine kY G G ?_ ?_
   ·skip
    refine aK H rfl S aT bE fS G G G G G G G G G ?_;clear H a S;intro A29 _ a hA29 S H
    replace S:=S.recell (i:=0) rfl (cell':=icl w8exP) (fun k j hk hj=>fL k j hk hj)
    refine wpList_nil (And.intro (Or.inr (S.sel [4,5] G G)) ?_)
    refine bM rfl ?_
    refine aK H rfl S cS dY gO G G G G G G G G G ?_;clear H a S;intro A30 _ a hA30 S H
    replace S:=S.recell (i:=0) rfl (cell':=vcell (exU _ _)) (fun k j hk hj=>iW rfl k j hk hj)
    refine wpList_nil (And.intro (Or.inr (S.sel [5,6] G G)) ?_)
    refine cB H G G (fun _ S=>aM fJ G G) ?_;clear H a;intro a H
    refine bM rfl ?_
    refine aH H S (i:=7) G G G G aZ G G ?_
    clear H a S;intro _ a S H
    refine wpList_nil (And.intro (Or.inl rfl) ?_)
    refine dU ?_
    refine k3 _ _ ?_
    clear k3 K3
    refine wp_ret ?_
    refine retA (fn:=Try.f35) rfl H rfl bF (by exact aZ) (cN S (i:=7) rfl) ?_
    exact ⟨_,_,_,_,_,_,_,_,_,_,_,_,rfl,(S.sel [2,3,1,4,0,6] G G)⟩
   ·skip
    refine aK H rfl S cS dY gO G G G G G G G G G ?_;clear H a S;intro A31 _ a hA31 S H
    replace S:=S.recell (i:=0) rfl (cell':=vcell (exU _ _)) (fun k j hk hj=>iW rfl k j hk hj)
    refine wpList_nil (And.intro (Or.inr (S.sel [4,5] G G)) ?_)
    refine bM rfl ?_
    refine aK H rfl S aT bE fS G G G G G G G G G ?_;clear H a S;intro A32 _ a hA32 S H
    replace S:=S.recell (i:=0) rfl (cell':=icl w8exP) (fun k j hk hj=>fL k j hk hj)
    refine wpList_nil (And.intro (Or.inr (S.sel [5,6] G G)) ?_)
    refine cB H G G (fun _ S=>aM fJ G G) ?_;clear H a;intro a H
    refine bM rfl ?_
    refine aH H S (i:=7) G G G G aZ G G ?_
    clear H a S;intro _ a S H
    refine wpList_nil (And.intro (Or.inl rfl) ?_)
    refine dU ?_
    refine k3 _ _ ?_
    clear k3 K3
    refine wp_ret ?_
    refine retA (fn:=Try.f35) rfl H rfl bF (by exact aZ) (cN S (i:=7) rfl) ?_
    exact ⟨_,_,_,_,_,_,_,_,_,_,_,_,rfl,(S.sel [2,3,0,4,1,6] G G)⟩
  ·skip
   refine aK H rfl S aT bE fS G G G G G G G G G ?_;clear H a S;intro A33 _ a hA33 S H
   replace S:=S.recell (i:=0) rfl (cell':=icl w8exP) (fun k j hk hj=>fL k j hk hj)
   refine wpList_nil (And.intro (Or.inr (S.sel [2,3] G G)) ?_)
   refine kY G G ?_ ?_
   ·skip
    refine aB H G G Try.func59 G G (bW _) ?_;clear H a
    rintro _ _ a ⟨A5,c5,B5,d5,rfl,S2⟩ H
    replace S:=S.call S2;clear S2
    refine wpList_nil (And.intro (Or.inr (S.sel [4,5] G G)) ?_)
    refine bM rfl ?_
    refine aK H rfl S cS dY gO G G G G G G G G G ?_;clear H a S;intro A34 _ a hA34 S H
    replace S:=S.recell (i:=0) rfl (cell':=vcell (exU _ _)) (fun k j hk hj=>iW rfl k j hk hj)
    refine wpList_nil (And.intro (Or.inr (S.sel [5,6] G G)) ?_)
    refine cB H G G (fun _ S=>aM fJ G G) ?_;clear H a;intro a H
    refine bM rfl ?_
    refine aH H S (i:=7) G G G G aZ G G ?_
    clear H a S;intro _ a S H
    refine wpList_nil (And.intro (Or.inl rfl) ?_)
    refine dU ?_
    refine k3 _ _ ?_
    clear k3 K3
    refine wp_ret ?_
    refine retA (fn:=Try.f35) rfl H rfl bF (by exact aZ) (cN S (i:=7) rfl) ?_
    exact ⟨_,_,_,_,_,_,_,_,_,_,_,_,rfl,(S.sel [1,2,3,4,0,6] G G)⟩
   ·skip
    refine aK H rfl S cS dY gO G G G G G G G G G ?_;clear H a S;intro A35 _ a hA35 S H
    replace S:=S.recell (i:=0) rfl (cell':=vcell (exU _ _)) (fun k j hk hj=>iW rfl k j hk hj)
    refine wpList_nil (And.intro (Or.inr (S.sel [3,4] G G)) ?_)
    refine bM rfl ?_
    refine aB H G G Try.func59 G G (bW _) ?_;clear H a
    rintro _ _ a ⟨A5,c5,B5,d5,rfl,S2⟩ H
    replace S:=S.call S2;clear S2
    refine wpList_nil (And.intro (Or.inr (S.sel [5,6] G G)) ?_)
    refine cB H G G (fun _ S=>aM fJ G G) ?_;clear H a;intro a H
    refine bM rfl ?_
    refine aH H S (i:=7) G G G G aZ G G ?_
    clear H a S;intro _ a S H
    refine wpList_nil (And.intro (Or.inl rfl) ?_)
    refine dU ?_
    refine k3 _ _ ?_
    clear k3 K3
    refine wp_ret ?_
    refine retA (fn:=Try.f35) rfl H rfl bF (by exact aZ) (cN S (i:=7) rfl) ?_
    exact ⟨_,_,_,_,_,_,_,_,_,_,_,_,rfl,(S.sel [0,1,3,4,2,6] G G)⟩
  ·skip
   refine aK H rfl S cS dY gO G G G G G G G G G ?_;clear H a S;intro A36 _ a hA36 S H
   replace S:=S.recell (i:=0) rfl (cell':=vcell (exU _ _)) (fun k j hk hj=>iW rfl k j hk hj)
   refine wpList_nil (And.intro (Or.inr (S.sel [2,3] G G)) ?_)
   refine kY G G ?_ ?_
   ·skip
    refine aB H G G Try.func59 G G (bW _) ?_;clear H a
    rintro _ _ a ⟨A5,c5,B5,d5,rfl,S2⟩ H
    replace S:=S.call S2;clear S2
    refine wpList_nil (And.intro (Or.inr (S.sel [4,5] G G)) ?_)
    refine bM rfl ?_
    refine aK H rfl S aT bE fS G G G G G G G G G ?_;clear H a S;intro A37 _ a hA37 S H
    replace S:=S.recell (i:=0) rfl (cell':=icl w8exP) (fun k j hk hj=>fL k j hk hj)
    refine wpList_nil (And.intro (Or.inr (S.sel [5,6] G G)) ?_)
    refine cB H G G (fun _ S=>aM fJ G G) ?_;clear H a;intro a H
    refine bM rfl ?_
    refine aH H S (i:=7) G G G G aZ G G ?_
    clear H a S;intro _ a S H
    refine wpList_nil (And.intro (Or.inl rfl) ?_)
    refine dU ?_
    refine k3 _ _ ?_
    clear k3 K3
    refine wp_ret ?_
    refine retA (fn:=Try.f35) rfl H rfl bF (by exact aZ) (cN S (i:=7) rfl) ?_
    exact ⟨_,_,_,_,_,_,_,_,_,_,_,_,rfl,(S.sel [1,2,0,4,3,6] G G)⟩
   ·skip
    refine aK H rfl S aT bE fS G G G G G G G G G ?_;clear H a S;intro A38 _ a hA38 S H
    replace S:=S.recell (i:=0) rfl (cell':=icl w8exP) (fun k j hk hj=>fL k j hk hj)
    refine wpList_nil (And.intro (Or.inr (S.sel [3,4] G G)) ?_)
    refine bM rfl ?_
    refine aB H G G Try.func59 G G (bW _) ?_;clear H a
    rintro _ _ a ⟨A5,c5,B5,d5,rfl,S2⟩ H
    replace S:=S.call S2;clear S2
    refine wpList_nil (And.intro (Or.inr (S.sel [5,6] G G)) ?_)
    refine cB H G G (fun _ S=>aM fJ G G) ?_;clear H a;intro a H
    refine bM rfl ?_
    refine aH H S (i:=7) G G G G aZ G G ?_
    clear H a S;intro _ a S H
    refine wpList_nil (And.intro (Or.inl rfl) ?_)
    refine dU ?_
    refine k3 _ _ ?_
    clear k3 K3
    refine wp_ret ?_
    refine retA (fn:=Try.f35) rfl H rfl bF (by exact aZ) (cN S (i:=7) rfl) ?_
    exact ⟨_,_,_,_,_,_,_,_,_,_,_,_,rfl,(S.sel [0,1,2,4,3,6] G G)⟩
 ·skip
  refine aK H rfl S cS dY gO G G G G G G G G G ?_;clear H a S;intro A39 _ a hA39 S H
  replace S:=S.recell (i:=0) rfl (cell':=vcell (exU _ _)) (fun k j hk hj=>iW rfl k j hk hj)
  refine wpList_nil (And.intro (Or.inr (S.sel [1,2] G G)) ?_)
  refine Fo G G G ?_ ?_ ?_
  ·skip
   refine aB H G G Try.func59 G G (bW _) ?_;clear H a
   rintro _ _ a ⟨A5,c5,B5,d5,rfl,S2⟩ H
   replace S:=S.call S2;clear S2
   refine wpList_nil (And.intro (Or.inr (S.sel [3,4] G G)) ?_)
   refine kY G G ?_ ?_
   ·skip
    refine aK H rfl S aT bE fS G G G G G G G G G ?_;clear H a S;intro A40 _ a hA40 S H
    replace S:=S.recell (i:=0) rfl (cell':=icl w8exP) (fun k j hk hj=>fL k j hk hj)
    refine wpList_nil (And.intro (Or.inr (S.sel [4,5] G G)) ?_)
    refine bM rfl ?_
    refine aK H rfl S eU eP gF G G G G G G G G G ?_;clear H a S;intro A41 _ a hA41 S H
    replace S:=S.recell (i:=0) rfl (cell':=cW exPr) (fun k j hk hj=>fW rfl k j hk hj)
    refine wpList_nil (And.intro (Or.inr (S.sel [5,6] G G)) ?_)
    refine cB H G G (fun _ S=>aM fJ G G) ?_;clear H a;intro a H
    refine bM rfl ?_
    refine aH H S (i:=7) G G G G aZ G G ?_
    clear H a S;intro _ a S H
    refine wpList_nil (And.intro (Or.inl rfl) ?_)
    refine dU ?_
    refine k3 _ _ ?_
    clear k3 K3
    refine wp_ret ?_
    refine retA (fn:=Try.f35) rfl H rfl bF (by exact aZ) (cN S (i:=7) rfl) ?_
    exact ⟨_,_,_,_,_,_,_,_,_,_,_,_,rfl,(S.sel [2,3,1,0,4,6] G G)⟩
   ·skip
    refine aK H rfl S eU eP gF G G G G G G G G G ?_;clear H a S;intro A42 _ a hA42 S H
    replace S:=S.recell (i:=0) rfl (cell':=cW exPr) (fun k j hk hj=>fW rfl k j hk hj)
    refine wpList_nil (And.intro (Or.inr (S.sel [4,5] G G)) ?_)
    refine bM rfl ?_
    refine aK H rfl S aT bE fS G G G G G G G G G ?_;clear H a S;intro A43 _ a hA43 S H
    replace S:=S.recell (i:=0) rfl (cell':=icl w8exP) (fun k j hk hj=>fL k j hk hj)
    refine wpList_nil (And.intro (Or.inr (S.sel [5,6] G G)) ?_)
    refine cB H G G (fun _ S=>aM fJ G G) ?_;clear H a;intro a H
    refine bM rfl ?_
    refine aH H S (i:=7) G G G G aZ G G ?_
    clear H a S;intro _ a S H
    refine wpList_nil (And.intro (Or.inl rfl) ?_)
    refine dU ?_
    refine k3 _ _ ?_
    clear k3 K3
    refine wp_ret ?_
    refine retA (fn:=Try.f35) rfl H rfl bF (by exact aZ) (cN S (i:=7) rfl) ?_
    exact ⟨_,_,_,_,_,_,_,_,_,_,_,_,rfl,(S.sel [2,3,0,1,4,6] G G)⟩
  ·skip
   refine aK H rfl S aT bE fS G G G G G G G G G ?_;clear H a S;intro A44 _ a hA44 S H
   replace S:=S.recell (i:=0) rfl (cell':=icl w8exP) (fun k j hk hj=>fL k j hk hj)
   refine wpList_nil (And.intro (Or.inr (S.sel [2,3] G G)) ?_)
   refine kY G G ?_ ?_
   ·skip
    refine aB H G G Try.func59 G G (bW _) ?_;clear H a
    rintro _ _ a ⟨A5,c5,B5,d5,rfl,S2⟩ H
    replace S:=S.call S2;clear S2
    refine wpList_nil (And.intro (Or.inr (S.sel [4,5] G G)) ?_)
    refine bM rfl ?_
    refine aK H rfl S eU eP gF G G G G G G G G G ?_;clear H a S;intro A45 _ a hA45 S H
    replace S:=S.recell (i:=0) rfl (cell':=cW exPr) (fun k j hk hj=>fW rfl k j hk hj)
    refine wpList_nil (And.intro (Or.inr (S.sel [5,6] G G)) ?_)
    refine cB H G G (fun _ S=>aM fJ G G) ?_;clear H a;intro a H
    refine bM rfl ?_
    refine aH H S (i:=7) G G G G aZ G G ?_
    clear H a S;intro _ a S H
    refine wpList_nil (And.intro (Or.inl rfl) ?_)
    refine dU ?_
    refine k3 _ _ ?_
    clear k3 K3
    refine wp_ret ?_
    refine retA (fn:=Try.f35) rfl H rfl bF (by exact aZ) (cN S (i:=7) rfl) ?_
    exact ⟨_,_,_,_,_,_,_,_,_,_,_,_,rfl,(S.sel [1,2,3,0,4,6] G G)⟩
   ·skip
    refine aK H rfl S eU eP gF G G G G G G G G G ?_;clear H a S;intro A46 _ a hA46 S H
    replace S:=S.recell (i:=0) rfl (cell':=cW exPr) (fun k j hk hj=>fW rfl k j hk hj)
    refine wpList_nil (And.intro (Or.inr (S.sel [3,4] G G)) ?_)
    refine bM rfl ?_
    refine aB H G G Try.func59 G G (bW _) ?_;clear H a
    rintro _ _ a ⟨A5,c5,B5,d5,rfl,S2⟩ H
    replace S:=S.call S2;clear S2
    refine wpList_nil (And.intro (Or.inr (S.sel [5,6] G G)) ?_)
    refine cB H G G (fun _ S=>aM fJ G G) ?_;clear H a;intro a H
    refine bM rfl ?_
    refine aH H S (i:=7) G G G G aZ G G ?_
    clear H a S;intro _ a S H
    refine wpList_nil (And.intro (Or.inl rfl) ?_)
    refine dU ?_
    refine k3 _ _ ?_
    clear k3 K3
    refine wp_ret ?_
    refine retA (fn:=Try.f35) rfl H rfl bF (by exact aZ) (cN S (i:=7) rfl) ?_
    exact ⟨_,_,_,_,_,_,_,_,_,_,_,_,rfl,(S.sel [0,1,3,2,4,6] G G)⟩
  ·skip
   refine aK H rfl S eU eP gF G G G G G G G G G ?_;clear H a S;intro A47 _ a hA47 S H
   replace S:=S.recell (i:=0) rfl (cell':=cW exPr) (fun k j hk hj=>fW rfl k j hk hj)
   refine wpList_nil (And.intro (Or.inr (S.sel [2,3] G G)) ?_)
   refine kY G G ?_ ?_
   ·skip
    refine aB H G G Try.func59 G G (bW _) ?_;clear H a
    rintro _ _ a ⟨A5,c5,B5,d5,rfl,S2⟩ H
    replace S:=S.call S2;clear S2
    refine wpList_nil (And.intro (Or.inr (S.sel [4,5] G G)) ?_)
    refine bM rfl ?_
    refine aK H rfl S aT bE fS G G G G G G G G G ?_;clear H a S;intro A48 _ a hA48 S H
    replace S:=S.recell (i:=0) rfl (cell':=icl w8exP) (fun k j hk hj=>fL k j hk hj)
    refine wpList_nil (And.intro (Or.inr (S.sel [5,6] G G)) ?_)
    refine cB H G G (fun _ S=>aM fJ G G) ?_;clear H a;intro a H
    refine bM rfl ?_
    refine aH H S (i:=7) G G G G aZ G G ?_
    clear H a S;intro _ a S H
    refine wpList_nil (And.intro (Or.inl rfl) ?_)
    refine dU ?_
    refine k3 _ _ ?_
    clear k3 K3
    refine wp_ret ?_
    refine retA (fn:=Try.f35) rfl H rfl bF (by exact aZ) (cN S (i:=7) rfl) ?_
    exact ⟨_,_,_,_,_,_,_,_,_,_,_,_,rfl,(S.sel [1,2,0,3,4,6] G G)⟩
   ·skip
    refine aK H rfl S aT bE fS G G G G G G G G G ?_;clear H a S;intro A49 _ a hA49 S H
    replace S:=S.recell (i:=0) rfl (cell':=icl w8exP) (fun k j hk hj=>fL k j hk hj)
    refine wpList_nil (And.intro (Or.inr (S.sel [3,4] G G)) ?_)
    refine bM rfl ?_
    refine aB H G G Try.func59 G G (bW _) ?_;clear H a
    rintro _ _ a ⟨A5,c5,B5,d5,rfl,S2⟩ H
    replace S:=S.call S2;clear S2
    refine wpList_nil (And.intro (Or.inr (S.sel [5,6] G G)) ?_)
    refine cB H G G (fun _ S=>aM fJ G G) ?_;clear H a;intro a H
    refine bM rfl ?_
    refine aH H S (i:=7) G G G G aZ G G ?_
    clear H a S;intro _ a S H
    refine wpList_nil (And.intro (Or.inl rfl) ?_)
    refine dU ?_
    refine k3 _ _ ?_
    clear k3 K3
    refine wp_ret ?_
    refine retA (fn:=Try.f35) rfl H rfl bF (by exact aZ) (cN S (i:=7) rfl) ?_
    exact ⟨_,_,_,_,_,_,_,_,_,_,_,_,rfl,(S.sel [0,1,2,3,4,6] G G)⟩
theorem Dr (x y:List Int) (AA BA:Option Addr) (ac bc:Nat) (w:World) (ha:InS w noF 1 AA x.length (icl x)) (hb:InS w noF 1 BA y.length (icl y)) (han:x.length≤9223372036854775807) (hbn:y.length≤9223372036854775807) :
    Calls Try.prog 25 [.slice AA x.length ac,.slice BA y.length bc].toArray w (Ret (fun u w'=>u = .bool (sameI x y)∧St w noF [] w')):=by
 refine enter Try.func25 rfl Try.ntmps25 rfl (fun a H=>?_)
 have S:=St.start w
 refine sS H fun K1 k1=>sr 1 rfl<|sE ?_;clear H a;intro a H
 refine k1 _ ?_;clear k1 K1
 refine wp_seq_k fun K2 k2=>?_
 refine sS H fun K3 k3=>sr 1 rfl<|sL aT rfl<|sr 1 rfl<|sL aT rfl<|sr 1 rfl<|sE ?_;clear H a;intro a H
 refine k3 _ ?_;clear k3 K3
 refine condN H rfl (fun hc1=>?_) (fun hc1=>?_)
 ·skip
  refine sS H fun K4 k4=>sr 1 rfl<|sE ?_;clear H a;intro a H
  refine k4 _ ?_;clear k4 K4
  refine wp_ret ?_
  refine ret1 (fn:=Try.f25) rfl H rfl ?_
  exact ⟨by rw [Nu (by omega)],(S.sel [] G G)⟩
 refine wp_skip ?_
 refine k2 _ _ ?_
 refine wp_seq_k fun K5 k5=>?_
 refine sS H fun K6 k6=>sr 1 rfl<|sE ?_;clear H a;intro a H
 refine k6 _ ?_;clear k6 K6
 refine wp_block ?_
 refine loop_st (X:=Nat) (R0:=_) [0,1] H rfl (fun k=>[(5,.int .i64 (k:Int))]) (fun k=>[]) (fun g k=>k≤x.length∧g+k=x.length∧∀ q,q<k→x.getD q 0=y.getD q 0) (x.length) 0 ?_ (S.sel [] G G) (H.keep [5,0,1] rfl) ?_
 · exact ⟨by omega,by omega,fun q hq=>absurd hq (Nat.not_lt_zero q)⟩
 clear H S a
 intro g1 x1 a w1 hp S H K7 k7
 obtain ⟨k,rfl⟩:∃ y,y=x1:=⟨_,rfl⟩
 refine wp_seq_k fun K8 k8=>?_
 refine sS H fun K9 k9=>sr 2 rfl<|sL aT rfl<|sr 1 rfl<|sE ?_;clear H a;intro a H
 refine k9 _ ?_;clear k9 K9
 refine condL H rfl (fun hc2=>?_) (fun hc2=>?_)
 ·skip
  refine wp_skip ?_
  refine k8 _ _ ?_
  refine wp_seq_k fun K10 k10=>?_
  refine wp_block ?_
  replace H:=H.keep [0,1,5] rfl
  replace S:=S.drew
  refine sD H fun K11 k11=>sr 2 rfl<|si aT bE G G (ha.adr (by omega)) (by omega)<|slm aC rfl (ha.rd S (by omega) (by omega))<|sr 2 rfl<|si aT bE G G (hb.adr (by omega)) (by omega)<|slm aC rfl (hb.rd S (by omega) (by omega))<|sr 1 rfl<|sE ?_;clear H a;intro a H
  refine k11 _ ?_;clear k11 K11
  refine condN H rfl (fun hc3=>?_) (fun hc3=>?_)
  ·skip
   replace H:=H.keep [] rfl
   refine sS H fun K12 k12=>sr 1 rfl<|sE ?_;clear H a;intro a H
   refine k12 _ ?_;clear k12 K12
   refine wp_ret ?_
   refine ret1 (fn:=Try.f25) rfl H rfl ?_
   exact ⟨by rw [Tb (k:=k) (by omega)],(S.sel [] G G)⟩
  refine wp_skip ?_
  refine k10 _ _ ?_
  refine sO H<|sr 1 rfl<|sd (aI G G (by unfold i64ok;omega))<|sr 1 rfl<|sE ?_;clear H a;intro a H
  exact k7 (g1-1) (k+1) a _ (by omega) (⟨by omega,by omega,Tc hp.2.2 (by omega)⟩) (S.sel [] G G) (H.keep [5,0,1] rfl)
 refine wp_exit ?_
 refine k5 _ _ ?_
 refine sS H fun K14 k14=>sr 1 rfl<|sE ?_;clear H a;intro a H
 refine k14 _ ?_;clear k14 K14
 refine wp_ret ?_
 refine ret1 (fn:=Try.f25) rfl H rfl ?_
 exact ⟨by rw [Nv (by omega) (fun q hq=>hp.2.2 q (by omega))],(S.sel [] G G)⟩
theorem mE (w:World) :
    Calls Try.prog 11 [].toArray w (Ret (fun u w'=>u = .bool true∧St w noF [] w')):=by
 refine enter Try.func11 rfl Try.ntmps11 rfl (fun a H=>?_)
 have S:=St.start w
 refine sS H fun K1 k1=>sr 1 rfl<|sE ?_;clear H a;intro a H
 refine k1 _ ?_;clear k1 K1
 refine aA fun K2 k2=>?_
 refine aB H G G Try.func35 G G (vP _) ?_;clear H a
 rintro _ _ a ⟨PA,pc,XA,xc,BA,bc,QA,qc,VA,vc,RA,rc,rfl,S2⟩ H
 replace S:=S.call S2;clear S2
 refine aN H rfl S Kj ?_;clear H a S;intro b1 _ a hb1 hbw1 S H
 refine aH H S (i:=0) G G G G aZ G G ?_
 clear H a S;intro _ a S H
 refine k2 _ _ ?_;clear k2 K2
 replace H:=H.keep [1] rfl
 refine aA fun K3 k3=>?_
 refine ls 2 H<|sd ((aD bF aZ rfl S (i:=0) G G))<|sd (aM Un G G)<|sE ?_;clear H a;intro a H
 refine aK H rfl S bN bJ gE G G G G G G G G G ?_;clear H a S;intro A1 _ a hA1 S H
 have hcl9:=Is (PA:=PA) (pc:=pc) (XA:=XA) (xc:=xc) (BA:=BA) (bc:=bc) (QA:=QA) (qc:=qc) (VA:=VA) (vc:=vc) (RA:=RA) (rc:=rc) (tc:=1) (Nw (ownM.inS S (i:=2) rfl) (ownM.inS S (i:=3) rfl) (ownM.inS S (i:=4) rfl) (ownM.inS S (i:=5) rfl) (ownM.inS S (i:=6) rfl) (ownM.inS S (i:=7) rfl)) ((ownM.inS S (i:=0) rfl).congr (fun k j hk hj=>Zf k j hk hj))
 refine aB H G G Try.func13 G G hcl9 ?_;clear H a hcl9
 rintro _ _ a ⟨A6,c6,rfl,S2⟩ H
 replace S:=S.call S2;clear S2
 refine ls 5 H<|sr 5 rfl<|sE ?_;clear H a;intro a H
 refine k3 _ _ ?_;clear k3 K3
 replace H:=H.keep [1,2,3] rfl
 refine aA fun K4 k4=>?_
 refine ls 1 H<|sd ((aD bF aZ rfl S (i:=2) G G))<|sE ?_;clear H a;intro a H
 have hcl9:=Bd (PA:=PA) (pc:=pc) (XA:=XA) (xc:=xc) (BA:=BA) (bc:=bc) (QA:=QA) (qc:=qc) (VA:=VA) (vc:=vc) (RA:=RA) (rc:=rc) (Nw (ownM.inS S (i:=3) rfl) (ownM.inS S (i:=4) rfl) (ownM.inS S (i:=5) rfl) (ownM.inS S (i:=6) rfl) (ownM.inS S (i:=7) rfl) (ownM.inS S (i:=8) rfl))
 refine aB H G G Try.func12 G G hcl9 ?_;clear H a hcl9
 rintro _ _ a ⟨rfl,S2⟩ H
 replace S:=S.call S2;clear S2
 refine ls 7 H<|sr 7 rfl<|sE ?_;clear H a;intro a H
 refine k4 _ _ ?_;clear k4 K4
 replace H:=H.keep [2,3,4,5,6] rfl
 refine aA fun K5 k5=>?_
 refine ls 8 H<|sr 3 rfl<|sy rfl<|sr 1 rfl<|sy rfl<|sr 1 rfl<|sa G G G<|sr 1 rfl<|sy rfl<|sr 1 rfl<|sE ?_;clear H a;intro a H
 refine bX H G G ?_
 refine aK H rfl S aT bE fS G G G G G G G G G ?_;clear H a S;intro A2 _ a hA2 S H
 refine bX H G G ?_
 refine aB H G G Try.func25 G G (Dr [0,3,1,1] [0,3,1,1] A6 _ c6 _ _ (ownM.inS S (i:=1) rfl) ((ownM.inS S (i:=0) rfl).congr (fun k j hk hj=>fL k j hk hj)) (by decide) (by decide)) ?_;clear H a
 rintro _ _ a ⟨rfl,S2⟩ H
 replace S:=S.call S2;clear S2
 refine ls 10 H<|sa G G G<|sr 1 rfl<|sy rfl<|sr 1 rfl<|sy rfl<|sr 1 rfl<|sa G G G<|sr 1 rfl<|sy rfl<|sr 1 rfl<|sy rfl<|sr 1 rfl<|sa G G G<|sr 1 rfl<|sE ?_;clear H a;intro a H
 refine k5 _ _ ?_;clear k5 K5
 refine wp_ret ?_
 refine ret1 (fn:=Try.f11) rfl H rfl ?_
 exact ⟨rfl,(S.sel [] G G)⟩
end
section
open Classical in
noncomputable def yrB (y:Yr):Bool:=if yrI y then true else false
theorem Ny {y:Yr} (h:yrI y):yrB y=true:=by unfold yrB;rw [if_pos h]
theorem Nz {y:Yr} (h:¬ yrI y):yrB y=false:=by unfold yrB;rw [if_neg h]
theorem Te {y:Yr}:yrB y=true↔yrI y:=⟨fun h=>Classical.byContradiction (fun h2=>by rw [Nz h2] at h;cases h),Ny⟩
theorem Tf {pl:Int} {ps:List Psg} {xs pe:List Int} {T:Int} (h:stE pl ps xs=0):dO pl ps xs 0 pe T=0↔((pe.length:Int)=pl∧∀ k,k<pe.length→0≤pe.getD k 0∧pe.getD k 0≤1000)∧(0≤T∧T≤60):=by
  constructor
  · intro h1
    obtain ⟨_,_,h2,h3⟩:=pZ h1
    have h4:=tP h2
    exact ⟨⟨h4.2,h4.1⟩,h3⟩
  · rintro ⟨⟨h1,h2⟩,h3⟩
    unfold dO
    rw [if_neg (by omega),if_pos]
    have h4:eR pl pe=true:=by unfold eR;rw [decide_eq_true h1,Bool.and_true,bG];exact fun k hk=>decide_eq_true (h2 k hk)
    rw [h4,decide_eq_true h3]
    rfl
theorem Oa {ps:List Psg} {us:List Unt} {n i:Nat} {m:Int}:freeN ps us n (i+1) m=(freeN ps us n i m&&!decide ((us.getD i Unt.zero).mach=m)):=by
  unfold freeN
  simp only [allN,Bool.and_assoc]
theorem It {p:Part} {l:List Use} (h:cG p l=0):wearE p l=0↔(refO p l).2.1=false:=by
  unfold refO
  rw [if_neg (by omega)]
  constructor
  · intro h1
    rw [if_neg (by rw [yE (kV h1).2];omega)]
  · intro h1
    split at h1
    · cases h1
    · exact lX h (Rb.2 (by have:=(yD p l).le;omega))
theorem Iu {l:List Use} {o:Int} (h0:0≤o) (h:¬ (0<l.length∧o<(l.getD ((l.length:Int)-1).toNat Use.zero).day)):prevD l l.length≤o:=by
  rcases Nat.eq_zero_or_pos l.length with e|e
  · rw [e];exact h0
  · have h1:=nS (l:=l) (k:=((l.length:Int)-1).toNat) (by omega)
    omega
theorem Iv {l:List Use} {o:Int} (e:0<l.length) (h:o<(l.getD ((l.length:Int)-1).toNat Use.zero).day):o<prevD l l.length:=by
  have h1:=nS (l:=l) (k:=((l.length:Int)-1).toNat) (by omega)
  omega
theorem cT (n lo hi:Int) (w:World) :
    Calls Try.prog 33 [.int .i64 n,.int .i64 lo,.int .i64 hi].toArray w (Ret (fun v w'=>v = .bool (decide (lo≤n)&&decide (n≤hi))∧w'=w)):=by
 refine enter Try.func33 rfl Try.ntmps33 rfl (fun a H=>?_)
 have S:=St.start w
 refine sS H fun K1 k1=>sr 1 rfl<|sE ?_;clear H a;intro a H
 refine k1 _ ?_;clear k1 K1
 replace H:=H.keep [0,1,2] rfl
 refine sS H fun K2 k2=>sr 4 rfl<|sg 3 3 10 13 true G G (fun hg4=>sy hg4<|sr 1 rfl<|sy hg4<|sr 1 rfl<|sy hg4<|sr 1 rfl<|sz 3 G G G)<|sa G G G<|sr 1 rfl<|sE ?_;clear H a;intro a H
 refine k2 _ ?_;clear k2 K2
 refine wp_ret ?_
 refine ret1 (fn:=Try.f33) rfl H rfl ?_
 exact ⟨rfl,rfl⟩
theorem Iw (a b:Tsk) (w:World) :
    Calls Try.prog 34 [.agg [.int .i64 a.day,.int .i64 a.unit,.int .i64 a.kind].toArray,.agg [.int .i64 b.day,.int .i64 b.unit,.int .i64 b.kind].toArray].toArray w (Ret (fun v w'=>v = .bool (befB a b)∧St w noF [] w')):=by
 refine enter Try.func34 rfl Try.ntmps34 rfl (fun a H=>?_)
 have S:=St.start w
 refine aA fun K1 k1=>?_
 refine aO H rfl S G G ?_;clear H a S;intro b2 _ a hb2 hbw2 S H
 refine aO H rfl S G G ?_;clear H a S;intro b3 _ a hb3 hbw3 S H
 refine ls 1 H<|sr 1 rfl<|sE ?_;clear H a;intro a H
 refine k1 _ _ ?_;clear k1 K1
 refine wp_seq_k fun K2 k2=>?_
 refine sS H fun K3 k3=>sf dM rfl<|sl S 1 aC G G G<|sf dM rfl<|sl S 0 aC G G G<|sr 1 rfl<|sE ?_;clear H a;intro a H
 refine k3 _ ?_;clear k3 K3
 refine condN H rfl (fun hc1=>?_) (fun hc1=>?_)
 ·skip
  replace H:=H.keep [2,3] rfl
  refine sS H fun K4 k4=>sf dM rfl<|sl S 1 aC G G G<|sf dM rfl<|sl S 0 aC G G G<|sr 2 rfl<|sE ?_;clear H a;intro a H
  refine k4 _ ?_;clear k4 K4
  refine wp_ret ?_
  refine ret1 (fn:=Try.f34) rfl H rfl ?_
  refine ⟨?_,(S.sel [] G G)⟩;unfold befB;rw [if_pos hc1]
 refine wp_skip ?_
 refine k2 _ _ ?_
 refine wp_seq_k fun K5 k5=>?_
 replace H:=H.keep [2,3] rfl
 refine sS H fun K6 k6=>sf eA rfl<|sl S 1 aC G G G<|sf eA rfl<|sl S 0 aC G G G<|sr 1 rfl<|sE ?_;clear H a;intro a H
 refine k6 _ ?_;clear k6 K6
 refine condN H rfl (fun hc2=>?_) (fun hc2=>?_)
 ·skip
  replace H:=H.keep [2,3] rfl
  refine sS H fun K7 k7=>sf eA rfl<|sl S 1 aC G G G<|sf eA rfl<|sl S 0 aC G G G<|sr 2 rfl<|sE ?_;clear H a;intro a H
  refine k7 _ ?_;clear k7 K7
  refine wp_ret ?_
  refine ret1 (fn:=Try.f34) rfl H rfl ?_
  refine ⟨?_,(S.sel [] G G)⟩;unfold befB;rw [if_neg (fun h=>h (by omega)),if_pos hc2]
 refine wp_skip ?_
 refine k5 _ _ ?_
 replace H:=H.keep [2,3] rfl
 refine sS H fun K8 k8=>sf gI rfl<|sl S 1 aC G G G<|sf gI rfl<|sl S 0 aC G G G<|sr 2 rfl<|sE ?_;clear H a;intro a H
 refine k8 _ ?_;clear k8 K8
 refine wp_ret ?_
 refine ret1 (fn:=Try.f34) rfl H rfl ?_
 refine ⟨?_,(S.sel [] G G)⟩;unfold befB;rw [if_neg (fun h=>h (by omega)),if_neg (fun h=>h (by omega))]
theorem Ix (y:Yr) (w:World) (hy:YIn w noF y) (hyb:YBd y) (hst:stE y.pl y.ps y.xs=0) :
    Calls Try.prog 49 [.agg [.int .i64 y.days,.int .i64 y.pl,.slice y.PA y.ps.length y.pc,.slice y.XA y.xs.length y.xc,.slice y.BA y.pe.length y.bc,.int .i64 y.limit,.bool y.help,.slice y.QA y.prs.length y.qc,.slice y.VA y.us.length y.vc,.int .i64 y.crew,.slice y.SA y.sps.length y.sc].toArray].toArray w (Ret (fun v w'=>v = .bool (yrB y)∧St w noF [] w')):=by
 have hlv:=Tf (pe:=y.pe) (T:=y.limit) hst;have hn4:=hyb.spn
 refine enter Try.func49 rfl Try.ntmps49 rfl (fun a H=>?_)
 have S:=St.start w
 refine aA fun K1 k1=>?_
 refine aO H rfl S G G ?_;clear H a S;intro b1 _ a hb1 hbw1 S H
 refine ls 1 H<|sr 1 rfl<|sE ?_;clear H a;intro a H
 refine k1 _ _ ?_;clear k1 K1
 refine wp_seq_k fun K2 k2=>?_
 replace H:=H.keep [1] rfl
 refine aA fun K3 k3=>?_
 refine ls 2 H<|sf dL rfl<|sl S 0 aC G G G<|sE ?_;clear H a;intro a H
 refine aB H G G Try.func33 G G (cT _ _ _ _) ?_;clear H a
 rintro _ _ a ⟨rfl,rfl⟩ H
 refine ls 2 H<|sr 2 rfl<|sE ?_;clear H a;intro a H
 apply cR (i:=4) (g:=9) (t:=17) (b:=false) 8 H S G G (by kernel_rfl) (by kernel_rfl) G G
 case h1=>
  intro hg5
  refine ls 6 H<|sy hg5<|sf eQ rfl<|sy hg5<|sd ((aD cL dP rfl S (i:=0) G G))<|sy hg5<|sf jR rfl<|sy hg5<|sl S 0 eS G G G<|sy hg5<|sf mJ rfl<|sy hg5<|sl S 0 aC G G G<|sE ?_;intro a H
  refine dV H G G (by assumption) ?_
  refine aB H G G Try.func58 G G (mD y.pl y.ps y.PA y.pc y.xs y.XA y.xc 0 y.pe y.BA y.bc y.limit _ (hy.ps.now S) hyb.psn (hy.xs.now S) hyb.xsn (hy.pe.now S) hyb.pen) ?_
  rintro _ _ a ⟨rfl,S2⟩ H
  replace S:=S.call S2;clear S2
  refine ls 1 H<|sy hg5<|sr 1 rfl<|sE ?_;intro a H
  exact wpList_nil ⟨H.strip 8 G G,(S.sel [0] G G)⟩
 clear H a S;intro a _ H S
 refine ls 13 H<|so G G G<|sr 1 rfl<|sg 4 14 19 23 false G G (fun hg15=>sy hg15<|sf xO rfl<|sy hg15<|sl S 0 aC G G G<|sy hg15<|sc rfl Try.func33 G G (cT _ _ _ _)<|sy hg15<|sr 1 rfl<|sz 4 G G G)<|so G G G<|sr 1 rfl<|sg 4 20 25 29 false G G (fun hg21=>sy hg21<|sf kQ rfl<|sy hg21<|sl S 0 nJ G G G<|sy hg21<|sL oJ rfl<|sy hg21<|sr 1 rfl<|sz 4 G G G)<|so G G G<|sE ?_;clear H a;intro a H
 refine k3 _ _ ?_;clear k3 K3
 refine aR H rfl (fun hc1=>?_) (fun hc1=>?_)
 ·skip
  try simp only [o1,o2,o3,o4,o5,o6,o7,o8,o9,oa] at hc1
  replace H:=H.keep [] rfl
  refine sS H fun K4 k4=>sr 1 rfl<|sE ?_;clear H a;intro a H
  refine k4 _ ?_;clear k4 K4
  refine wp_ret ?_
  refine ret1 (fn:=Try.f49) rfl H rfl ?_
  rw [Nz (fun h=>by unfold yrI at h;have h9:=hlv.2 ⟨h.2.1,h.2.2.1⟩;omega)];exact ⟨rfl,(S.sel [] G G)⟩
 try simp only [o1,o2,o3,o4,o5,o6,o7,o8,o9,oa] at hc1
 refine wp_skip ?_
 refine k2 _ _ ?_
 refine wp_seq_k fun K5 k5=>?_
 refine sS H fun K6 k6=>sr 1 rfl<|sE ?_;clear H a;intro a H
 refine k6 _ ?_;clear k6 K6
 refine wp_block ?_
 refine loop_st (X:=Nat) (R0:=_) [1] H rfl (fun k=>[(3,.int .i64 (k:Int))]) (fun k=>[]) (fun g k=>k≤y.sps.length∧g+k=y.sps.length∧∀ q,q<k→sprB y.days (y.sps.getD q Spr.zero)=true) (y.sps.length) 0 ?_ (S.sel [0] G G) (H.keep [3,1] rfl) ?_
 · exact ⟨by omega,by omega,fun q hq=>absurd hq (Nat.not_lt_zero q)⟩
 clear H S a
 intro g1 x1 a w1 hp S H K7 k7
 obtain ⟨k,rfl⟩:∃ y,y=x1:=⟨_,rfl⟩
 refine wp_seq_k fun K8 k8=>?_
 refine sS H fun K9 k9=>sr 1 rfl<|sf kQ rfl<|sl S 0 nJ G G G<|sL oJ rfl<|sr 1 rfl<|sE ?_;clear H a;intro a H
 refine k9 _ ?_;clear k9 K9
 refine condL H rfl (fun hc2=>?_) (fun hc2=>?_)
 ·skip
  refine wp_skip ?_
  refine k8 _ _ ?_
  refine wp_seq_k fun K10 k10=>?_
  refine wp_block ?_
  replace H:=H.keep [1,3] rfl
  refine aA fun K11 k11=>?_
  refine ls 5 H<|sf kQ rfl<|sl S 0 nJ G G G<|sr 1 rfl<|si oJ kP G G (hy.sps.adr (by omega)) (by omega)<|sd ((aS xK kP rfl S hy.sps (by omega) (by omega)))<|sE ?_;clear H a;intro a H
  refine aN H rfl S Cb ?_;clear H a S;intro b4 _ a hb4 hbw4 S H
  refine aH H S (i:=0) G G G G kP G G ?_
  clear H a S;intro _ a S H
  refine k11 _ _ ?_;clear k11 K11
  replace H:=H.keep [1,3,4] rfl
  refine sS H fun K12 k12=>sf tI rfl<|sl S 0 aC G G G<|sf dL rfl<|sl S 1 aC G G G<|sd (aP G G (by unfold i64ok;omega))<|sc rfl Try.func33 G G (cT _ _ _ _)<|sr 2 rfl<|sg 4 7 50 54 false G G (fun hg8=>sy hg8<|sf tJ rfl<|sy hg8<|sl S 0 aC G G G<|sy hg8<|sc rfl Try.func33 G G (cT _ _ _ _)<|sy hg8<|sr 1 rfl<|sz 4 G G G)<|so G G G<|sr 1 rfl<|sg 4 13 56 60 false G G (fun hg14=>sy hg14<|sf tK rfl<|sy hg14<|sl S 0 aC G G G<|sy hg14<|sc rfl Try.func33 G G (cT _ _ _ _)<|sy hg14<|sr 1 rfl<|sz 4 G G G)<|so G G G<|sE ?_;clear H a;intro a H
  refine k12 _ ?_;clear k12 K12
  refine aR H rfl (fun hc3=>?_) (fun hc3=>?_)
  ·skip
   try simp only [o1,o2,o3,o4,o5,o6,o7,o8,o9,oa] at hc3
   replace H:=H.keep [] rfl
   refine sS H fun K13 k13=>sr 1 rfl<|sE ?_;clear H a;intro a H
   refine k13 _ ?_;clear k13 K13
   refine wp_ret ?_
   refine ret1 (fn:=Try.f49) rfl H rfl ?_
   rw [Nz (fun h=>by have h9:=mA.1 (h.2.2.2.2.2 k (by omega));omega)];exact ⟨rfl,(S.sel [] G G)⟩
  try simp only [o1,o2,o3,o4,o5,o6,o7,o8,o9,oa] at hc3
  refine wp_skip ?_
  refine k10 _ _ ?_
  refine sO H<|sr 1 rfl<|sd (aI G G (by unfold i64ok;omega))<|sr 1 rfl<|sE ?_;clear H a;intro a H
  exact k7 (g1-1) (k+1) a _ (by omega) (⟨by omega,by omega,fD (f:=fun q=>sprB y.days (y.sps.getD q Spr.zero)) hp.2.2 (mA.2 (by omega))⟩) (S.sel [1] G G) (H.keep [3,1] rfl)
 refine wp_exit ?_
 refine k5 _ _ ?_
 refine sS H fun K15 k15=>sr 1 rfl<|sE ?_;clear H a;intro a H
 refine k15 _ ?_;clear k15 K15
 refine wp_ret ?_
 refine ret1 (fn:=Try.f49) rfl H rfl ?_
 have h9:=hlv.1 (by omega)
 have h8:=hp.2.2
 rw [Ny (by unfold yrI;exact ⟨by omega,h9.1,h9.2,by omega,by omega,fun q hq=>h8 q (by omega)⟩)];exact ⟨rfl,(S.sel [] G G)⟩
theorem Iy (y:Yr) (i:Nat) (w:World) (hy:YIn w noF y) (hyb:YBd y) (hi:i<y.us.length) :
    Calls Try.prog 50 [.agg [.int .i64 y.days,.int .i64 y.pl,.slice y.PA y.ps.length y.pc,.slice y.XA y.xs.length y.xc,.slice y.BA y.pe.length y.bc,.int .i64 y.limit,.bool y.help,.slice y.QA y.prs.length y.qc,.slice y.VA y.us.length y.vc,.int .i64 y.crew,.slice y.SA y.sps.length y.sc].toArray,.int .i64 (i:Int)].toArray w (Ret (fun v w'=>v = .bool (untB y.ps y.us i)∧St w noF [] w')):=by
 have hn1:=hyb.psn;have hn3:=hyb.usn;have hn5:(y.us.getD i Unt.zero).uses.length≤9223372036854775807:=hyb.uln hi;have hn6:(y.us.getD i Unt.zero).rates.length≤9223372036854775807:=hyb.rtn hi
 refine enter Try.func50 rfl Try.ntmps50 rfl (fun a H=>?_)
 have S:=St.start w
 refine aA fun K1 k1=>?_
 refine aO H rfl S G G ?_;clear H a S;intro b2 _ a hb2 hbw2 S H
 refine ls 1 H<|sr 1 rfl<|sE ?_;clear H a;intro a H
 refine k1 _ _ ?_;clear k1 K1
 refine aA fun K2 k2=>?_
 refine ls 5 H<|sf dE rfl<|sl S 0 eM G G G<|sr 1 rfl<|si cS dY G G (hy.us.adr (by omega)) (by omega)<|sd ((aS pU dY rfl S hy.us (by omega) (by omega)))<|sE ?_;clear H a;intro a H
 refine aN H rfl S gO ?_;clear H a S;intro b5 _ a hb5 hbw5 S H
 refine aH H S (i:=0) G G G G dY G G ?_
 clear H a S;intro _ a S H
 refine k2 _ _ ?_;clear k2 K2
 replace H:=H.keep [1,2,5] rfl
 refine sS H fun K3 k3=>sr 1 rfl<|sE ?_;clear H a;intro a H
 refine k3 _ ?_;clear k3 K3
 refine wp_seq_k fun K4 k4=>?_
 refine sS H fun K5 k5=>sr 1 rfl<|sE ?_;clear H a;intro a H
 refine k5 _ ?_;clear k5 K5
 refine wp_block ?_
 refine loop_st (X:=Nat) (R0:=_) [1,2,5] H rfl (fun k=>[(6,.bool (freeN y.ps y.us k 0 (y.us.getD i Unt.zero).mach)),(7,.int .i64 (k:Int))]) (fun k=>[]) (fun g k=>k≤y.ps.length∧g+k=y.ps.length) (y.ps.length) 0 ?_ (S.sel [0,1] G G) (H.keep [6,7,1,2,5] rfl) ?_
 · exact ⟨by omega,by omega⟩
 clear H S a
 intro g1 x1 a w1 hp S H K6 k6
 obtain ⟨k,rfl⟩:∃ y,y=x1:=⟨_,rfl⟩
 refine wp_seq_k fun K7 k7=>?_
 refine sS H fun K8 k8=>sr 1 rfl<|sf eQ rfl<|sf eX rfl<|sl S 1 gL G G G<|sL fZ rfl<|sr 1 rfl<|sE ?_;clear H a;intro a H
 refine k8 _ ?_;clear k8 K8
 refine condL H rfl (fun hc1=>?_) (fun hc1=>?_)
 ·skip
  refine wp_skip ?_
  refine k7 _ _ ?_
  refine wp_seq_k fun K9 k9=>?_
  refine wp_block ?_
  replace H:=H.keep [1,2,5,6,7] rfl
  refine aA fun K10 k10=>?_
  refine ls 6 H<|sf eQ rfl<|sf eX rfl<|sl S 1 gL G G G<|sr 1 rfl<|si fZ dN G G (hy.ps.adr (by omega)) (by omega)<|sd ((aS iI dN rfl S hy.ps (by omega) (by omega)))<|sE ?_;clear H a;intro a H
  refine aN H rfl S kS ?_;clear H a S;intro b8 _ a hb8 hbw8 S H
  refine aH H S (i:=0) G G G G dN G G ?_
  clear H a S;intro _ a S H
  refine k10 _ _ ?_;clear k10 K10
  replace H:=H.keep [1,2,5,6,7,8] rfl
  refine sO H<|sr 2 rfl<|sg 10 1 33 43 false G G (fun hg2=>by
      have hq2:=hg2;try simp only [o1,o2,o3,o4,o5,o6,o7,o8,o9,oa] at hq2
      exact sy hg2<|sf dQ rfl<|sy hg2<|sl S 0 aC G G G<|sy hg2<|sr 1 rfl<|sy hg2<|sr 1 rfl<|sg 5 5 37 42 true G G (fun hg6=>by
           have hq6:=hg6;try simp only [o1,o2,o3,o4,o5,o6,o7,o8,o9,oa] at hq6
           exact sy hg6<|sf dQ rfl<|sy hg6<|sl S 0 aC G G G<|sy hg6<|sf mK rfl<|sy hg6<|sl S 1 aC G G G<|sy hg6<|sr 1 rfl<|sz 5 G G G)<|sy hg2<|sa G G G<|sz 6 G G G)<|so G G G<|sr 1 rfl<|sE ?_;clear H a;intro a H
  refine k9 _ _ ?_
  replace H:=H.keep [1,2,5,6,7] rfl
  refine sO H<|sr 1 rfl<|sd (aI G G (by unfold i64ok;omega))<|sr 1 rfl<|sE ?_;clear H a;intro a H
  rw [←Am (ps:=y.ps) (us:=y.us)] at H
  exact k6 (g1-1) (k+1) a _ (by omega) (⟨by omega,by omega⟩) (S.sel [1,2] G G) (H.keep [6,7,1,2,5] rfl)
 refine wp_exit ?_
 refine k4 _ _ ?_
 refine wp_seq_k fun K13 k13=>?_
 refine sS H fun K14 k14=>sr 1 rfl<|sE ?_;clear H a;intro a H
 refine k14 _ ?_;clear k14 K14
 refine wp_block ?_
 obtain rfl:k=y.ps.length:=by omega
 refine loop_st (X:=Nat) (R0:=_) [1,2,5] H rfl (fun k=>[(6,.bool (freeN y.ps y.us y.ps.length k (y.us.getD i Unt.zero).mach)),(9,.int .i64 (k:Int))]) (fun k=>[]) (fun g k=>k≤i∧g+k=i) (i) 0 ?_ (S.sel [0,1] G G) (H.keep [6,9,1,2,5] rfl) ?_
 · exact ⟨by omega,by omega⟩
 clear H S a
 intro g2 x2 a w2 hp S H K15 k15
 obtain ⟨k,rfl⟩:∃ y,y=x2:=⟨_,rfl⟩
 refine wp_seq_k fun K16 k16=>?_
 refine sS H fun K17 k17=>sr 3 rfl<|sE ?_;clear H a;intro a H
 refine k17 _ ?_;clear k17 K17
 refine condL H rfl (fun hc2=>?_) (fun hc2=>?_)
 ·skip
  refine wp_skip ?_
  refine k16 _ _ ?_
  refine wp_seq_k fun K18 k18=>?_
  refine wp_block ?_
  replace H:=H.keep [1,2,5,6,9] rfl
  replace S:=S.drew
  refine sP H<|sr 2 rfl<|sg 9 1 51 60 true G G (fun hg2=>by
      have hq2:=hg2;try simp only [o1,o2,o3,o4,o5,o6,o7,o8,o9,oa] at hq2
      exact sy hg2<|sf dE rfl<|sy hg2<|sl S 1 eM G G G<|sy hg2<|sr 1 rfl<|sy hg2<|si cS dY G G (hy.us.adr (by omega)) (by omega)<|sy hg2<|sp mK rfl<|sy hg2<|slm aC rfl (hy.us.rd S (by omega) (by omega))<|sy hg2<|sf mK rfl<|sy hg2<|sl S 0 aC G G G<|sy hg2<|sr 1 rfl<|sz 9 G G G)<|sa G G G<|sr 1 rfl<|sE ?_;clear H a;intro a H
  refine k18 _ _ ?_
  replace H:=H.keep [1,2,5,6,9] rfl
  refine sO H<|sr 1 rfl<|sd (aI G G (by unfold i64ok;omega))<|sr 1 rfl<|sE ?_;clear H a;intro a H
  rw [←Oa (ps:=y.ps) (us:=y.us)] at H
  exact k15 (g2-1) (k+1) a _ (by omega) (⟨by omega,by omega⟩) (S.sel [0,1] G G) (H.keep [6,9,1,2,5] rfl)
 refine wp_exit ?_
 refine k13 _ _ ?_
 refine wp_seq_k fun K21 k21=>?_
 obtain rfl:i=k:=by omega
 replace H:=H.keep [5,6] rfl
 refine aA fun K22 k22=>?_
 refine ls 21 H<|sr 3 rfl<|sg 4 2 64 68 false G G (fun hg3=>by
     have hq3:=hg3;try simp only [o1,o2,o3,o4,o5,o6,o7,o8,o9,oa] at hq3
     exact sy hg3<|sf rL rfl<|sy hg3<|sl S 0 aC G G G<|sy hg3<|sc rfl Try.func33 G G (cT _ _ _ _)<|sy hg3<|sr 1 rfl<|sz 4 G G G)<|so G G G<|sr 1 rfl<|sg 4 8 70 74 false G G (fun hg9=>by
     have hq9:=hg9;try simp only [o1,o2,o3,o4,o5,o6,o7,o8,o9,oa] at hq9
     exact sy hg9<|sf xQ rfl<|sy hg9<|sl S 0 aC G G G<|sy hg9<|sc rfl Try.func33 G G (cT _ _ _ _)<|sy hg9<|sr 1 rfl<|sz 4 G G G)<|so G G G<|sr 1 rfl<|sg 4 14 76 80 false G G (fun hg15=>by
     have hq15:=hg15;try simp only [o1,o2,o3,o4,o5,o6,o7,o8,o9,oa] at hq15
     exact sy hg15<|sf xR rfl<|sy hg15<|sl S 0 aC G G G<|sy hg15<|sc rfl Try.func33 G G (cT _ _ _ _)<|sy hg15<|sr 1 rfl<|sz 4 G G G)<|so G G G<|sr 1 rfl<|sE ?_;clear H a;intro a H
 apply cR (i:=20) (g:=82) (t:=88) (b:=false) 6 H S G G (by kernel_rfl) (by kernel_rfl) G G
 case h1=>
  intro hg21
  have hq21:=hg21;try simp only [o1,o2,o3,o4,o5,o6,o7,o8,o9,oa] at hq21
  refine ls 4 H<|sy hg21<|sf mL rfl<|sy hg21<|sd ((aD eT fY rfl S (i:=0) G G))<|sy hg21<|sf gZ rfl<|sy hg21<|sl S 0 jI G G G<|sE ?_;intro a H
  refine dV H G G (by assumption) ?_
  refine aB H G G Try.func74 G G (nB (y.us.getD i Unt.zero).rates (y.us.getD i Unt.zero).worn (y.us.getD i Unt.zero).turns (y.us.getD i Unt.zero).age (y.us.getD i Unt.zero).RA (y.us.getD i Unt.zero).rc (y.us.getD i Unt.zero).uses (y.us.getD i Unt.zero).UA (y.us.getD i Unt.zero).uc _ ((hy.rt i hi).now S) (hyb.rtn hi) ((hy.ul i hi).now S) (hyb.uln hi)) ?_
  rintro _ _ a ⟨rfl,S2⟩ H
  replace S:=S.call S2;clear S2
  refine ls 1 H<|sy hg21<|sr 1 rfl<|sE ?_;intro a H
  exact wpList_nil ⟨H.strip 6 G G,(S.sel [0,1] G G)⟩
 clear H a S;intro a _ H S
 refine ls 7 H<|so G G G<|sr 1 rfl<|sg 4 28 90 94 false G G (fun hg29=>by
     have hq29:=hg29;try simp only [o1,o2,o3,o4,o5,o6,o7,o8,o9,oa] at hq29
     exact sy hg29<|sf gZ rfl<|sy hg29<|sl S 0 jI G G G<|sy hg29<|sL dI rfl<|sy hg29<|sr 1 rfl<|sz 4 G G G)<|so G G G<|sE ?_;clear H a;intro a H
 refine k22 _ _ ?_;clear k22 K22
 refine aR H rfl (fun hc3=>?_) (fun hc3=>?_)
 ·skip
  try simp only [o1,o2,o3,o4,o5,o6,o7,o8,o9,oa] at hc3
  replace H:=H.keep [] rfl
  refine sS H fun K23 k23=>sr 1 rfl<|sE ?_;clear H a;intro a H
  refine k23 _ ?_;clear k23 K23
  refine wp_ret ?_
  refine ret1 (fn:=Try.f50) rfl H rfl ?_
  rw [An (fun h=>by have h1:freeN y.ps y.us y.ps.length i (y.us.getD i Unt.zero).mach=true:=h.free;have h2:=h.i;have h3:cG ⟨(y.us.getD i Unt.zero).rates,(y.us.getD i Unt.zero).worn,(y.us.getD i Unt.zero).turns,(y.us.getD i Unt.zero).age⟩ (y.us.getD i Unt.zero).uses=0:=(kV h.wear).1;unfold untI at h2;rw [h1] at hc3;simp only [Bool.true_eq_false,Bool.not_true,Bool.false_eq_true,not_true_eq_false,false_or] at hc3;omega)];exact ⟨rfl,(S.sel [] G G)⟩
 try simp only [o1,o2,o3,o4,o5,o6,o7,o8,o9,oa] at hc3
 have hcp:cG (y.us.getD i Unt.zero).part (y.us.getD i Unt.zero).uses=0:=by show cG ⟨_,_,_,_⟩ _=0;omega
 have hrw:=It hcp
 refine wp_skip ?_
 refine k21 _ _ ?_
 replace H:=H.keep [5] rfl
 refine aA fun K24 k24=>?_
 refine ls 4 H<|sf mL rfl<|sd ((aD eT fY rfl S (i:=0) G G))<|sf gZ rfl<|sl S 0 jI G G G<|sE ?_;clear H a;intro a H
 refine aB H G G Try.func75 G G (zZ (y.us.getD i Unt.zero).rates (y.us.getD i Unt.zero).worn (y.us.getD i Unt.zero).turns (y.us.getD i Unt.zero).age (y.us.getD i Unt.zero).RA (y.us.getD i Unt.zero).rc (y.us.getD i Unt.zero).uses (y.us.getD i Unt.zero).UA (y.us.getD i Unt.zero).uc _ ((hy.rt i hi).now S) (hyb.rtn hi) ((hy.ul i hi).now S) (hyb.uln hi)) ?_;clear H a
 rintro _ _ a ⟨rfl,S2⟩ H
 replace S:=S.call S2;clear S2
 refine ls 7 H<|sr 7 rfl<|sE ?_;clear H a;intro a H
 refine k24 _ _ ?_;clear k24 K24
 refine wp_seq_k fun K25 k25=>?_
 replace H:=H.keep [5,11] rfl
 replace S:=S.drew
 refine sD H fun K26 k26=>sr 2 rfl<|sg 4 1 106 110 false G G (fun hg2=>by
     have hq2:=hg2;try simp only [o1,o2,o3,o4,o5,o6,o7,o8,o9,oa] at hq2
     exact sy hg2<|sf rM rfl<|sy hg2<|sl S 0 aC G G G<|sy hg2<|sc rfl Try.func33 G G (cT _ _ _ _)<|sy hg2<|sr 1 rfl<|sz 4 G G G)<|so G G G<|sr 1 rfl<|sg 18 7 112 130 false G G (fun hg8=>by
     have hq8:=hg8;try simp only [o1,o2,o3,o4,o5,o6,o7,o8,o9,oa] at hq8
     exact sy hg8<|sf gZ rfl<|sy hg8<|sl S 0 jI G G G<|sy hg8<|sL dI rfl<|sy hg8<|sr 1 rfl<|sy hg8<|sr 1 rfl<|sg 12 12 117 129 true G G (fun hg13=>by
          have hq13:=hg13;try simp only [o1,o2,o3,o4,o5,o6,o7,o8,o9,oa] at hq13
          exact sy hg13<|sf rM rfl<|sy hg13<|sl S 0 aC G G G<|sy hg13<|sf gZ rfl<|sy hg13<|sl S 0 jI G G G<|sy hg13<|sf gZ rfl<|sy hg13<|sl S 0 jI G G G<|sy hg13<|sL dI rfl<|sy hg13<|sd (aP G G (by unfold i64ok;omega))<|sy hg13<|sI dI eO G G ((hy.ul i hi).adr (by omega)) (by omega) (by omega)<|sy hg13<|sp iY rfl<|sy hg13<|slm aC rfl ((hy.ul i hi).rd S (by omega) (by omega))<|sy hg13<|sr 1 rfl<|sz 12 G G G)<|sy hg8<|sa G G G<|sz 7 G G G)<|so G G G<|sE ?_;clear H a;intro a H
 refine k26 _ ?_;clear k26 K26
 refine aR H rfl (fun hc4=>?_) (fun hc4=>?_)
 ·skip
  try simp only [o1,o2,o3,o4,o5,o6,o7,o8,o9,oa] at hc4
  replace H:=H.keep [] rfl
  refine sS H fun K27 k27=>sr 1 rfl<|sE ?_;clear H a;intro a H
  refine k27 _ ?_;clear k27 K27
  refine wp_ret ?_
  refine ret1 (fn:=Try.f50) rfl H rfl ?_
  rw [An (fun h=>by
    have h2:=h.i;have h3:=vB h.wear;unfold untI at h2
    have h5:=hrw.1 h.wear
    rcases hc4 with (h9|h9)|h9
    · have h6:(refO (y.us.getD i Unt.zero).part (y.us.getD i Unt.zero).uses).2.1=true:=h9
      rw [h5] at h6;cases h6
    · omega
    · have h7:=Iv (l:=(y.us.getD i Unt.zero).uses) (by omega) h9.2;omega)];exact ⟨rfl,(S.sel [] G G)⟩
 try simp only [o1,o2,o3,o4,o5,o6,o7,o8,o9,oa] at hc4
 refine wp_skip ?_
 refine k25 _ _ ?_
 replace H:=H.keep [5] rfl
 refine sS H fun K28 k28=>sf rN rfl<|sl S 0 aC G G G<|sc rfl Try.func33 G G (cT _ _ _ _)<|sr 1 rfl<|sg 8 3 135 143 true G G (fun hg4=>by
     have hq4:=hg4;try simp only [o1,o2,o3,o4,o5,o6,o7,o8,o9,oa] at hq4
     exact sy hg4<|sf rO rfl<|sy hg4<|sl S 0 aC G G G<|sy hg4<|sf mL rfl<|sy hg4<|sf fR rfl<|sy hg4<|sl S 0 hZ G G G<|sy hg4<|sL dH rfl<|sy hg4<|sd (aP G G (by unfold i64ok;omega))<|sy hg4<|sc rfl Try.func33 G G (cT _ _ _ _)<|sz 8 G G G)<|sa G G G<|sr 1 rfl<|sE ?_;clear H a;intro a H
 refine k28 _ ?_;clear k28 K28
 refine wp_ret ?_
 refine ret1 (fn:=Try.f50) rfl H rfl ?_
 refine ⟨congrArg Value.bool ?_,(S.sel [] G G)⟩
 rw [Bool.eq_iff_iff,iQ]
 simp only [Bool.and_eq_true,decide_eq_true_eq]
 constructor
 · intro h9
   refine ⟨?_,?_,hrw.2 ?_⟩
   · show freeN _ _ _ _ _=true;rcases hc3 with ⟨⟨⟨⟨⟨h1,_⟩,_⟩,_⟩,_⟩,_⟩;exact h1
   · have h8:=Iu (l:=(y.us.getD i Unt.zero).uses) (o:=(y.us.getD i Unt.zero).old) (by omega) (by omega)
     unfold untI;omega
   · rcases hc4 with ⟨⟨h1,_⟩,_⟩;exact h1
 · intro h9
   have h2:=h9.i
   unfold untI at h2
   omega
theorem fU (y:Yr) (w:World) (hy:YIn w noF y) (hyb:YBd y) :
    Calls Try.prog 19 [.agg [.int .i64 y.days,.int .i64 y.pl,.slice y.PA y.ps.length y.pc,.slice y.XA y.xs.length y.xc,.slice y.BA y.pe.length y.bc,.int .i64 y.limit,.bool y.help,.slice y.QA y.prs.length y.qc,.slice y.VA y.us.length y.vc,.int .i64 y.crew,.slice y.SA y.sps.length y.sc].toArray].toArray w (Ret (fun v w'=>v = .int .i64 (yearE y)∧St w noF [] w')):=by
 have hn3:=hyb.usn
 refine enter Try.func19 rfl Try.ntmps19 rfl (fun a H=>?_)
 have S:=St.start w
 refine aA fun K1 k1=>?_
 refine aO H rfl S G G ?_;clear H a S;intro b1 _ a hb1 hbw1 S H
 refine ls 1 H<|sr 1 rfl<|sE ?_;clear H a;intro a H
 refine k1 _ _ ?_;clear k1 K1
 refine aA fun K2 k2=>?_
 refine ls 2 H<|sf eQ rfl<|sd ((aD cL dP rfl S (i:=0) G G))<|sE ?_;clear H a;intro a H
 refine aB H G G Try.func47 G G (mC y.pl y.ps y.PA y.pc y.xs y.XA y.xc _ (hy.ps.now S) hyb.psn (hy.xs.now S) hyb.xsn) ?_;clear H a
 rintro _ _ a ⟨rfl,S2⟩ H
 replace S:=S.call S2;clear S2
 refine ls 1 H<|sr 1 rfl<|sE ?_;clear H a;intro a H
 refine k2 _ _ ?_;clear k2 K2
 refine wp_seq_k fun K3 k3=>?_
 refine sS H fun K4 k4=>sr 2 rfl<|sE ?_;clear H a;intro a H
 refine k4 _ ?_;clear k4 K4
 refine condN H rfl (fun hc1=>?_) (fun hc1=>?_)
 ·skip
  replace H:=H.keep [3] rfl
  refine sS H fun K5 k5=>sr 2 rfl<|sE ?_;clear H a;intro a H
  refine k5 _ ?_;clear k5 K5
  refine wp_ret ?_
  refine ret1 (fn:=Try.f19) rfl H rfl ?_
  have e9:=uE (day:=[]) (l:=y.prs) hc1
  rw [nQ (by rw [e9];exact hc1),e9];exact ⟨rfl,(S.sel [] G G)⟩
 refine wp_skip ?_
 refine k3 _ _ ?_
 refine aA fun K6 k6=>?_
 refine ls 4 H<|sf eQ rfl<|sd ((aD cL dP rfl S (i:=0) G G))<|sf rI rfl<|sl S 0 xE G G G<|sE ?_;clear H a;intro a H
 refine aB H G G Try.func48 G G (pM y.pl y.ps y.PA y.pc y.xs y.XA y.xc ([]:List Hq) none 0 (fun _=>none) (fun _=>0) y.prs y.QA y.qc _ (hy.ps.now S) hyb.psn (hy.xs.now S) hyb.xsn InS.nil (by decide) (fun k hk=>absurd hk (Nat.not_lt_zero k)) (fun k hk=>absurd hk (Nat.not_lt_zero k)) (hy.prs.now S) hyb.prn) ?_;clear H a
 rintro _ _ a ⟨rfl,S2⟩ H
 replace S:=S.call S2;clear S2
 refine ls 1 H<|sr 1 rfl<|sE ?_;clear H a;intro a H
 refine k6 _ _ ?_;clear k6 K6
 refine wp_seq_k fun K7 k7=>?_
 replace H:=H.keep [1,3] rfl
 refine sS H fun K8 k8=>sr 2 rfl<|sE ?_;clear H a;intro a H
 refine k8 _ ?_;clear k8 K8
 refine condN H rfl (fun hc2=>?_) (fun hc2=>?_)
 ·skip
  refine sS H fun K9 k9=>sr 2 rfl<|sE ?_;clear H a;intro a H
  refine k9 _ ?_;clear k9 K9
  refine wp_ret ?_
  refine ret1 (fn:=Try.f19) rfl H rfl ?_
  exact ⟨congrArg _ (nQ hc2).symm,(S.sel [] G G)⟩
 refine wp_skip ?_
 refine k7 _ _ ?_
 refine wp_seq_k fun K10 k10=>?_
 refine aA fun K11 k11=>?_
 refine ls 1 H<|sd ((aD bF aZ rfl S (i:=0) G G))<|sE ?_;clear H a;intro a H
 refine aB H G G Try.func49 G G (Ix y _ (hy.now S) hyb (by omega)) ?_;clear H a
 rintro _ _ a ⟨rfl,S2⟩ H
 replace S:=S.call S2;clear S2
 refine ls 1 H<|sr 1 rfl<|sE ?_;clear H a;intro a H
 refine k11 _ _ ?_;clear k11 K11
 refine aR H rfl (fun hc3=>?_) (fun hc3=>?_)
 ·skip
  try simp only [o1,o2,o3,o4,o5,o6,o7,o8,o9,oa] at hc3
  refine sS H fun K12 k12=>sr 1 rfl<|sE ?_;clear H a;intro a H
  refine k12 _ ?_;clear k12 K12
  refine wp_ret ?_
  refine ret1 (fn:=Try.f19) rfl H rfl ?_
  rw [pD (by omega) (fun h=>by rw [Ny h] at hc3;simp at hc3)];exact ⟨rfl,(S.sel [] G G)⟩
 try simp only [o1,o2,o3,o4,o5,o6,o7,o8,o9,oa] at hc3
 have hyi:=Te.1 (by simpa using hc3)
 refine wp_skip ?_
 refine k10 _ _ ?_
 refine wp_seq_k fun K13 k13=>?_
 replace H:=H.keep [1] rfl
 refine sS H fun K14 k14=>sf dE rfl<|sl S 0 eM G G G<|sL cS rfl<|sr 1 rfl<|sE ?_;clear H a;intro a H
 refine k14 _ ?_;clear k14 K14
 refine condL H rfl (fun hc4=>?_) (fun hc4=>?_)
 ·skip
  refine sS H fun K15 k15=>sr 1 rfl<|sE ?_;clear H a;intro a H
  refine k15 _ ?_;clear k15 K15
  refine wp_ret ?_
  refine ret1 (fn:=Try.f19) rfl H rfl ?_
  rw [uN (by omega) hyi (by omega)];exact ⟨rfl,(S.sel [] G G)⟩
 refine wp_skip ?_
 refine k13 _ _ ?_
 refine wp_seq_k fun K16 k16=>?_
 refine sS H fun K17 k17=>sr 1 rfl<|sE ?_;clear H a;intro a H
 refine k17 _ ?_;clear k17 K17
 refine wp_block ?_
 refine loop_st (X:=Nat) (R0:=_) [1] H rfl (fun k=>[(4,.int .i64 (k:Int))]) (fun k=>[]) (fun g k=>k≤y.us.length∧g+k=y.us.length∧∀ q,q<k→untB y.ps y.us q=true) (y.us.length) 0 ?_ (S.sel [0] G G) (H.keep [4,1] rfl) ?_
 · exact ⟨by omega,by omega,fun q hq=>absurd hq (Nat.not_lt_zero q)⟩
 clear H S a
 intro g1 x1 a w1 hp S H K18 k18
 obtain ⟨k,rfl⟩:∃ y,y=x1:=⟨_,rfl⟩
 refine wp_seq_k fun K19 k19=>?_
 refine sS H fun K20 k20=>sr 1 rfl<|sf dE rfl<|sl S 0 eM G G G<|sL cS rfl<|sr 1 rfl<|sE ?_;clear H a;intro a H
 refine k20 _ ?_;clear k20 K20
 refine condL H rfl (fun hc5=>?_) (fun hc5=>?_)
 ·skip
  refine wp_skip ?_
  refine k19 _ _ ?_
  refine wp_seq_k fun K21 k21=>?_
  refine wp_block ?_
  refine aA fun K22 k22=>?_
  refine ls 2 H<|sd ((aD bF aZ rfl S (i:=0) G G))<|sr 1 rfl<|sE ?_;clear H a;intro a H
  refine aB H G G Try.func50 G G (Iy y k _ (hy.now S) hyb (by omega)) ?_;clear H a
  rintro _ _ a ⟨rfl,S2⟩ H
  replace S:=S.call S2;clear S2
  refine ls 1 H<|sr 1 rfl<|sE ?_;clear H a;intro a H
  refine k22 _ _ ?_;clear k22 K22
  refine aR H rfl (fun hc6=>?_) (fun hc6=>?_)
  ·skip
   try simp only [o1,o2,o3,o4,o5,o6,o7,o8,o9,oa] at hc6
   replace H:=H.keep [] rfl
   refine sS H fun K23 k23=>sr 1 rfl<|sE ?_;clear H a;intro a H
   refine k23 _ ?_;clear k23 K23
   refine wp_ret ?_
   refine ret1 (fn:=Try.f19) rfl H rfl ?_
   rw [uO (by omega) hyi (by omega) (show k<y.us.length by omega) (by simpa using hc6)];exact ⟨rfl,(S.sel [] G G)⟩
  try simp only [o1,o2,o3,o4,o5,o6,o7,o8,o9,oa] at hc6
  refine wp_skip ?_
  refine k21 _ _ ?_
  refine sO H<|sr 1 rfl<|sd (aI G G (by unfold i64ok;omega))<|sr 1 rfl<|sE ?_;clear H a;intro a H
  exact k18 (g1-1) (k+1) a _ (by omega) (⟨by omega,by omega,fD (f:=untB y.ps y.us) hp.2.2 (by simpa using hc6)⟩) (S.sel [0] G G) (H.keep [4,1] rfl)
 refine wp_exit ?_
 refine k16 _ _ ?_
 refine sS H fun K25 k25=>sr 1 rfl<|sE ?_;clear H a;intro a H
 refine k25 _ ?_;clear k25 K25
 refine wp_ret ?_
 refine ret1 (fn:=Try.f19) rfl H rfl ?_
 rw [uP (by omega) hyi (by omega) (bG.2 fun q hq=>hp.2.2 q (by omega))];exact ⟨rfl,(S.sel [] G G)⟩
theorem Ob (y:Yr) (l:List Tsk) (LA:Option Addr) (lc:Nat) (w:World) (hy:YIn w noF y) (hyb:YBd y) (hl:InS w noF 3 LA l.length (aV l)) (hln:l.length≤9223372036854775807) :
    Calls Try.prog 10 [.agg [.int .i64 y.days,.int .i64 y.pl,.slice y.PA y.ps.length y.pc,.slice y.XA y.xs.length y.xc,.slice y.BA y.pe.length y.bc,.int .i64 y.limit,.bool y.help,.slice y.QA y.prs.length y.qc,.slice y.VA y.us.length y.vc,.int .i64 y.crew,.slice y.SA y.sps.length y.sc].toArray,.slice LA l.length lc].toArray w (Ret (fun v w'=>v = .int .i64 (taskE y l)∧St w noF [] w')):=by
 have hn3:=hyb.usn
 refine enter Try.func10 rfl Try.ntmps10 rfl (fun a H=>?_)
 have S:=St.start w
 refine aA fun K1 k1=>?_
 refine aO H rfl S G G ?_;clear H a S;intro b2 _ a hb2 hbw2 S H
 refine ls 1 H<|sr 1 rfl<|sE ?_;clear H a;intro a H
 refine k1 _ _ ?_;clear k1 K1
 refine aA fun K2 k2=>?_
 refine ls 1 H<|sd ((aD bF aZ rfl S (i:=0) G G))<|sE ?_;clear H a;intro a H
 refine aB H G G Try.func19 G G (fU y _ (hy.now S) hyb) ?_;clear H a
 rintro _ _ a ⟨rfl,S2⟩ H
 replace S:=S.call S2;clear S2
 refine ls 1 H<|sr 1 rfl<|sE ?_;clear H a;intro a H
 refine k2 _ _ ?_;clear k2 K2
 refine wp_seq_k fun K3 k3=>?_
 refine sS H fun K4 k4=>sr 2 rfl<|sE ?_;clear H a;intro a H
 refine k4 _ ?_;clear k4 K4
 refine condN H rfl (fun hc1=>?_) (fun hc1=>?_)
 ·skip
  refine sS H fun K5 k5=>sr 2 rfl<|sE ?_;clear H a;intro a H
  refine k5 _ ?_;clear k5 K5
  refine wp_ret ?_
  refine ret1 (fn:=Try.f10) rfl H rfl ?_
  exact ⟨congrArg _ (uQ hc1).symm,(S.sel [] G G)⟩
 have hye:yearE y=0:=by omega
 have hyi:=(kX hye).yr
 unfold yrI at hyi
 refine wp_skip ?_
 refine k3 _ _ ?_
 refine wp_seq_k fun K6 k6=>?_
 replace H:=H.keep [1,2] rfl
 refine sS H fun K7 k7=>sr 1 rfl<|sL bN rfl<|sr 1 rfl<|sE ?_;clear H a;intro a H
 refine k7 _ ?_;clear k7 K7
 refine condL H rfl (fun hc2=>?_) (fun hc2=>?_)
 ·skip
  refine sS H fun K8 k8=>sr 1 rfl<|sE ?_;clear H a;intro a H
  refine k8 _ ?_;clear k8 K8
  refine wp_ret ?_
  refine ret1 (fn:=Try.f10) rfl H rfl ?_
  rw [uR hye (by omega)];exact ⟨rfl,(S.sel [] G G)⟩
 refine wp_skip ?_
 refine k6 _ _ ?_
 refine wp_seq_k fun K9 k9=>?_
 refine sS H fun K10 k10=>sr 1 rfl<|sE ?_;clear H a;intro a H
 refine k10 _ ?_;clear k10 K10
 refine wp_block ?_
 refine loop_st (X:=Nat) (R0:=_) [1,2] H rfl (fun k=>[(6,.int .i64 (k:Int))]) (fun k=>[]) (fun g k=>k≤l.length∧g+k=l.length∧∀ q,q<k→tskB y l q=true) (l.length) 0 ?_ (S.sel [0] G G) (H.keep [6,1,2] rfl) ?_
 · exact ⟨by omega,by omega,fun q hq=>absurd hq (Nat.not_lt_zero q)⟩
 clear H S a
 intro g1 x1 a w1 hp S H K11 k11
 obtain ⟨k,rfl⟩:∃ y,y=x1:=⟨_,rfl⟩
 refine wp_seq_k fun K12 k12=>?_
 refine sS H fun K13 k13=>sr 2 rfl<|sL bN rfl<|sr 1 rfl<|sE ?_;clear H a;intro a H
 refine k13 _ ?_;clear k13 K13
 refine condL H rfl (fun hc3=>?_) (fun hc3=>?_)
 ·skip
  refine wp_skip ?_
  refine k12 _ _ ?_
  refine wp_seq_k fun K14 k14=>?_
  refine wp_block ?_
  rcases chk5 (0≤(l.getD k Tsk.zero).day∧(l.getD k Tsk.zero).day≤y.days-1) (0≤(l.getD k Tsk.zero).unit∧(l.getD k Tsk.zero).unit≤(y.us.length:Int)-1) (1≤(l.getD k Tsk.zero).kind∧(l.getD k Tsk.zero).kind≤2) k with hB|hB|hB|hB|hB
  ·skip
   skip
   replace H:=H.keep [1,2,6] rfl
   replace S:=S.drew
   refine dG [(0,true),(1,true),(2,true),(3,true),(4,true),(5,true),(6,true),(7,true),(8,false),(9,true),(10,true),(11,true),(12,true),(13,true),(14,true),(15,true),(16,true),(17,true),(18,true),(19,true),(20,true),(21,true),(22,true),(23,true),(24,true),(25,true),(26,true),(27,true),(28,true),(29,true),(30,true),(31,true),(32,true),(33,true),(34,true),(35,true),(36,true),(37,true),(38,true),(39,true),(40,true),(41,true),(42,true),(43,true),(44,true),(45,true),(46,true),(47,true),(48,true)] (by kernel_rfl) (by kernel_rfl) (S.sel [0] G G) fun K15 k15=>?_
   refine qF H<|qr 2 rfl<|qd rfl (fun _ S=>aW bN bJ G G (hl.adr (by omega)) (by omega))<|qd rfl (fun _ S=>(bP dM rfl))<|qd rfl (fun _ S=>aE aC rfl (hl.rd S (by omega) (by omega)))<|qd rfl (fun _ S=>(aF dL rfl))<|qd rfl (fun _ S=>aE aC rfl (boxM.rd S (i:=0) G G))<|qd rfl (fun _ S=>aP G G (by unfold i64ok;omega))<|qK ?_;clear H a;intro a H
   refine aX rfl ?_
   refine aB H G G Try.func33 G G (cT _ _ _ _) ?_;clear H a
   rintro _ _ a ⟨rfl,rfl⟩ H
   refine wpList_nil (And.intro (S.sel [0] G G) ?_)
   refine qF H<|qd rfl (fun _ S=>gR rfl (by omega))<|qr 1 rfl<|qK ?_;clear H a;intro a H
   refine aQ H G G G G G ?_;clear H a;intro a H
   refine aQ H G G G G G ?_;clear H a;intro a H
   refine aQ H G G G G G ?_;clear H a;intro a H
   refine aQ H G G G G G ?_;clear H a;intro a H
   refine aQ H G G G G G ?_;clear H a;intro a H
   refine aQ H G G G G G ?_;clear H a;intro a H
   refine aQ H G G G G G ?_;clear H a;intro a H
   refine aQ H G G G G G ?_;clear H a;intro a H
   refine aQ H G G G G G ?_;clear H a;intro a H
   refine aQ H G G G G G ?_;clear H a;intro a H
   refine aQ H G G G G G ?_;clear H a;intro a H
   refine qF H<|qd rfl (fun _ S=>(bI G G G))<|qr 1 rfl<|qK ?_;clear H a;intro a H
   refine aQ H G G G G G ?_;clear H a;intro a H
   refine aQ H G G G G G ?_;clear H a;intro a H
   refine aQ H G G G G G ?_;clear H a;intro a H
   refine aQ H G G G G G ?_;clear H a;intro a H
   refine aQ H G G G G G ?_;clear H a;intro a H
   refine aQ H G G G G G ?_;clear H a;intro a H
   refine aQ H G G G G G ?_;clear H a;intro a H
   refine qF H<|qd rfl (fun _ S=>(bI G G G))<|qr 1 rfl<|qK ?_;clear H a;intro a H
   refine aQ H G G G G G ?_;clear H a;intro a H
   refine aQ H G G G G G ?_;clear H a;intro a H
   refine aQ H G G G G G ?_;clear H a;intro a H
   refine bU H G G G G ?_;clear H a;intro a H
   refine bU H G G G G ?_;clear H a;intro a H
   refine bU H G G G G ?_;clear H a;intro a H
   refine bU H G G G G ?_;clear H a;intro a H
   refine bU H G G G G ?_;clear H a;intro a H
   refine bU H G G G G ?_;clear H a;intro a H
   refine bU H G G G G ?_;clear H a;intro a H
   refine bU H G G G G ?_;clear H a;intro a H
   refine bU H G G G G ?_;clear H a;intro a H
   refine bU H G G G G ?_;clear H a;intro a H
   refine bU H G G G G ?_;clear H a;intro a H
   refine aQ H G G G G G ?_;clear H a;intro a H
   refine qF H<|qd rfl (fun _ S=>(bI G G G))<|qK ?_;clear H a;intro a H
   refine cI ?_
   refine k15 _ _ ?_
   clear k15 K15
   refine aR H rfl (fun hc4=>?_) (fun hc4=>?_)
   ·skip
    skip
    replace H:=H.keep [] rfl
    refine sS H fun K16 k16=>sr 1 rfl<|sE ?_;clear H a;intro a H
    refine k16 _ ?_;clear k16 K16
    refine wp_ret ?_
    refine ret1 (fn:=Try.f10) rfl H rfl ?_
    rw [gQ hye (by omega) (show k<l.length by omega) (kJ (by omega))];exact ⟨rfl,(S.sel [] G G)⟩
   skip
   cases hc4
  ·skip
   skip
   replace H:=H.keep [1,2,6] rfl
   replace S:=S.drew
   refine dG [(0,true),(1,true),(2,true),(3,true),(4,true),(5,true),(6,true),(7,true),(8,false),(9,true),(10,true),(11,true),(12,true),(13,true),(14,true),(15,true),(16,true),(17,true),(18,true),(19,true),(20,false),(21,true),(22,true),(23,true),(24,true),(25,true),(26,true),(27,true),(28,true),(29,true),(30,true),(31,true),(32,true),(33,true),(34,true),(35,true),(36,true),(37,true),(38,true),(39,true),(40,true),(41,true),(42,true),(43,true),(44,true),(45,true),(46,true),(47,true),(48,true)] (by kernel_rfl) (by kernel_rfl) (S.sel [0] G G) fun K17 k17=>?_
   refine qF H<|qr 2 rfl<|qd rfl (fun _ S=>aW bN bJ G G (hl.adr (by omega)) (by omega))<|qd rfl (fun _ S=>(bP dM rfl))<|qd rfl (fun _ S=>aE aC rfl (hl.rd S (by omega) (by omega)))<|qd rfl (fun _ S=>(aF dL rfl))<|qd rfl (fun _ S=>aE aC rfl (boxM.rd S (i:=0) G G))<|qd rfl (fun _ S=>aP G G (by unfold i64ok;omega))<|qK ?_;clear H a;intro a H
   refine aX rfl ?_
   refine aB H G G Try.func33 G G (cT _ _ _ _) ?_;clear H a
   rintro _ _ a ⟨rfl,rfl⟩ H
   refine wpList_nil (And.intro (S.sel [0] G G) ?_)
   refine qF H<|qd rfl (fun _ S=>bV rfl (by omega))<|qr 1 rfl<|qK ?_;clear H a;intro a H
   refine aL H G G G G (fun _ S=>aJ rfl) ?_;clear H a;intro a H
   refine aL H G G G G (fun _ S=>aJ rfl) ?_;clear H a;intro a H
   refine aL H G G G G (fun _ S=>aW bN bJ G G (hl.adr (by omega)) (by omega)) ?_;clear H a;intro a H
   refine aL H G G G G (fun _ S=>(bP eA rfl)) ?_;clear H a;intro a H
   refine aL H G G G G (fun _ S=>aE aC rfl (hl.rd S (by omega) (by omega))) ?_;clear H a;intro a H
   refine aL H G G G G (fun _ S=>(aF dE rfl)) ?_;clear H a;intro a H
   refine aL H G G G G (fun _ S=>aE eM rfl (boxM.rd S (i:=0) G G)) ?_;clear H a;intro a H
   refine aL H G G G G (fun _ S=>cX cS rfl) ?_;clear H a;intro a H
   refine aL H G G G G (fun _ S=>aP G G (by unfold i64ok;omega)) ?_;clear H a;intro a H
   refine aX rfl ?_
   refine bX H G G ?_
   refine aB H G G Try.func33 G G (cT _ _ _ _) ?_;clear H a
   rintro _ _ a ⟨rfl,rfl⟩ H
   refine wpList_nil (And.intro (S.sel [0] G G) ?_)
   refine aL H G G G G (fun _ S=>gR rfl (by omega)) ?_;clear H a;intro a H
   refine qF H<|qd rfl (fun _ S=>(cQ G G G))<|qr 1 rfl<|qK ?_;clear H a;intro a H
   refine aQ H G G G G G ?_;clear H a;intro a H
   refine aQ H G G G G G ?_;clear H a;intro a H
   refine aQ H G G G G G ?_;clear H a;intro a H
   refine aQ H G G G G G ?_;clear H a;intro a H
   refine aQ H G G G G G ?_;clear H a;intro a H
   refine aQ H G G G G G ?_;clear H a;intro a H
   refine aQ H G G G G G ?_;clear H a;intro a H
   refine qF H<|qd rfl (fun _ S=>(bI G G G))<|qr 1 rfl<|qK ?_;clear H a;intro a H
   refine aQ H G G G G G ?_;clear H a;intro a H
   refine aQ H G G G G G ?_;clear H a;intro a H
   refine aQ H G G G G G ?_;clear H a;intro a H
   refine bU H G G G G ?_;clear H a;intro a H
   refine bU H G G G G ?_;clear H a;intro a H
   refine bU H G G G G ?_;clear H a;intro a H
   refine bU H G G G G ?_;clear H a;intro a H
   refine bU H G G G G ?_;clear H a;intro a H
   refine bU H G G G G ?_;clear H a;intro a H
   refine bU H G G G G ?_;clear H a;intro a H
   refine bU H G G G G ?_;clear H a;intro a H
   refine bU H G G G G ?_;clear H a;intro a H
   refine bU H G G G G ?_;clear H a;intro a H
   refine bU H G G G G ?_;clear H a;intro a H
   refine aQ H G G G G G ?_;clear H a;intro a H
   refine qF H<|qd rfl (fun _ S=>(bI G G G))<|qK ?_;clear H a;intro a H
   refine cI ?_
   refine k17 _ _ ?_
   clear k17 K17
   refine aR H rfl (fun hc5=>?_) (fun hc5=>?_)
   ·skip
    skip
    replace H:=H.keep [] rfl
    refine sS H fun K18 k18=>sr 1 rfl<|sE ?_;clear H a;intro a H
    refine k18 _ ?_;clear k18 K18
    refine wp_ret ?_
    refine ret1 (fn:=Try.f10) rfl H rfl ?_
    rw [gQ hye (by omega) (show k<l.length by omega) (kJ (by omega))];exact ⟨rfl,(S.sel [] G G)⟩
   skip
   cases hc5
  ·skip
   skip
   replace H:=H.keep [1,2,6] rfl
   replace S:=S.drew
   refine dG [(0,true),(1,true),(2,true),(3,true),(4,true),(5,true),(6,true),(7,true),(8,false),(9,true),(10,true),(11,true),(12,true),(13,true),(14,true),(15,true),(16,true),(17,true),(18,true),(19,true),(20,false),(21,true),(22,true),(23,true),(24,true),(25,true),(26,true),(27,true),(28,true),(29,false),(30,true),(31,true),(32,true),(33,true),(34,true),(35,true),(36,true),(37,true),(38,true),(39,true),(40,true),(41,true),(42,true),(43,true),(44,true),(45,true),(46,true),(47,true),(48,true)] (by kernel_rfl) (by kernel_rfl) (S.sel [0] G G) fun K19 k19=>?_
   refine qF H<|qr 2 rfl<|qd rfl (fun _ S=>aW bN bJ G G (hl.adr (by omega)) (by omega))<|qd rfl (fun _ S=>(bP dM rfl))<|qd rfl (fun _ S=>aE aC rfl (hl.rd S (by omega) (by omega)))<|qd rfl (fun _ S=>(aF dL rfl))<|qd rfl (fun _ S=>aE aC rfl (boxM.rd S (i:=0) G G))<|qd rfl (fun _ S=>aP G G (by unfold i64ok;omega))<|qK ?_;clear H a;intro a H
   refine aX rfl ?_
   refine aB H G G Try.func33 G G (cT _ _ _ _) ?_;clear H a
   rintro _ _ a ⟨rfl,rfl⟩ H
   refine wpList_nil (And.intro (S.sel [0] G G) ?_)
   refine qF H<|qd rfl (fun _ S=>bV rfl (by omega))<|qr 1 rfl<|qK ?_;clear H a;intro a H
   refine aL H G G G G (fun _ S=>aJ rfl) ?_;clear H a;intro a H
   refine aL H G G G G (fun _ S=>aJ rfl) ?_;clear H a;intro a H
   refine aL H G G G G (fun _ S=>aW bN bJ G G (hl.adr (by omega)) (by omega)) ?_;clear H a;intro a H
   refine aL H G G G G (fun _ S=>(bP eA rfl)) ?_;clear H a;intro a H
   refine aL H G G G G (fun _ S=>aE aC rfl (hl.rd S (by omega) (by omega))) ?_;clear H a;intro a H
   refine aL H G G G G (fun _ S=>(aF dE rfl)) ?_;clear H a;intro a H
   refine aL H G G G G (fun _ S=>aE eM rfl (boxM.rd S (i:=0) G G)) ?_;clear H a;intro a H
   refine aL H G G G G (fun _ S=>cX cS rfl) ?_;clear H a;intro a H
   refine aL H G G G G (fun _ S=>aP G G (by unfold i64ok;omega)) ?_;clear H a;intro a H
   refine aX rfl ?_
   refine bX H G G ?_
   refine aB H G G Try.func33 G G (cT _ _ _ _) ?_;clear H a
   rintro _ _ a ⟨rfl,rfl⟩ H
   refine wpList_nil (And.intro (S.sel [0] G G) ?_)
   refine aL H G G G G (fun _ S=>bV rfl (by omega)) ?_;clear H a;intro a H
   refine qF H<|qd rfl (fun _ S=>(cQ G G G))<|qr 1 rfl<|qK ?_;clear H a;intro a H
   refine aL H G G G G (fun _ S=>aJ rfl) ?_;clear H a;intro a H
   refine aL H G G G G (fun _ S=>aJ rfl) ?_;clear H a;intro a H
   refine aL H G G G G (fun _ S=>aW bN bJ G G (hl.adr (by omega)) (by omega)) ?_;clear H a;intro a H
   refine aL H G G G G (fun _ S=>(bP gI rfl)) ?_;clear H a;intro a H
   refine aL H G G G G (fun _ S=>aE aC rfl (hl.rd S (by omega) (by omega))) ?_;clear H a;intro a H
   refine aX rfl ?_
   refine bX H G G ?_
   refine aB H G G Try.func33 G G (cT _ _ _ _) ?_;clear H a
   rintro _ _ a ⟨rfl,rfl⟩ H
   refine wpList_nil (And.intro (S.sel [0] G G) ?_)
   refine aL H G G G G (fun _ S=>gR rfl (by omega)) ?_;clear H a;intro a H
   refine qF H<|qd rfl (fun _ S=>(cQ G G G))<|qr 1 rfl<|qK ?_;clear H a;intro a H
   refine aQ H G G G G G ?_;clear H a;intro a H
   refine aQ H G G G G G ?_;clear H a;intro a H
   refine aQ H G G G G G ?_;clear H a;intro a H
   refine bU H G G G G ?_;clear H a;intro a H
   refine bU H G G G G ?_;clear H a;intro a H
   refine bU H G G G G ?_;clear H a;intro a H
   refine bU H G G G G ?_;clear H a;intro a H
   refine bU H G G G G ?_;clear H a;intro a H
   refine bU H G G G G ?_;clear H a;intro a H
   refine bU H G G G G ?_;clear H a;intro a H
   refine bU H G G G G ?_;clear H a;intro a H
   refine bU H G G G G ?_;clear H a;intro a H
   refine bU H G G G G ?_;clear H a;intro a H
   refine bU H G G G G ?_;clear H a;intro a H
   refine aQ H G G G G G ?_;clear H a;intro a H
   refine qF H<|qd rfl (fun _ S=>(bI G G G))<|qK ?_;clear H a;intro a H
   refine cI ?_
   refine k19 _ _ ?_
   clear k19 K19
   refine aR H rfl (fun hc6=>?_) (fun hc6=>?_)
   ·skip
    skip
    replace H:=H.keep [] rfl
    refine sS H fun K20 k20=>sr 1 rfl<|sE ?_;clear H a;intro a H
    refine k20 _ ?_;clear k20 K20
    refine wp_ret ?_
    refine ret1 (fn:=Try.f10) rfl H rfl ?_
    rw [gQ hye (by omega) (show k<l.length by omega) (kJ (by omega))];exact ⟨rfl,(S.sel [] G G)⟩
   skip
   cases hc6
  ·skip
   skip
   replace H:=H.keep [1,2,6] rfl
   replace S:=S.drew
   refine dG [(0,true),(1,true),(2,true),(3,true),(4,true),(5,true),(6,true),(7,true),(8,false),(9,true),(10,true),(11,true),(12,true),(13,true),(14,true),(15,true),(16,true),(17,true),(18,true),(19,true),(20,false),(21,true),(22,true),(23,true),(24,true),(25,true),(26,true),(27,true),(28,true),(29,false),(30,true),(31,true),(32,true),(33,true),(34,true),(35,true),(36,true),(37,true),(38,true),(39,true),(40,true),(41,true),(42,true),(43,true),(44,true),(45,true),(46,true),(47,true),(48,true)] (by kernel_rfl) (by kernel_rfl) (S.sel [0] G G) fun K21 k21=>?_
   refine qF H<|qr 2 rfl<|qd rfl (fun _ S=>aW bN bJ G G (hl.adr (by omega)) (by omega))<|qd rfl (fun _ S=>(bP dM rfl))<|qd rfl (fun _ S=>aE aC rfl (hl.rd S (by omega) (by omega)))<|qd rfl (fun _ S=>(aF dL rfl))<|qd rfl (fun _ S=>aE aC rfl (boxM.rd S (i:=0) G G))<|qd rfl (fun _ S=>aP G G (by unfold i64ok;omega))<|qK ?_;clear H a;intro a H
   refine aX rfl ?_
   refine aB H G G Try.func33 G G (cT _ _ _ _) ?_;clear H a
   rintro _ _ a ⟨rfl,rfl⟩ H
   refine wpList_nil (And.intro (S.sel [0] G G) ?_)
   refine qF H<|qd rfl (fun _ S=>bV rfl (by omega))<|qr 1 rfl<|qK ?_;clear H a;intro a H
   refine aL H G G G G (fun _ S=>aJ rfl) ?_;clear H a;intro a H
   refine aL H G G G G (fun _ S=>aJ rfl) ?_;clear H a;intro a H
   refine aL H G G G G (fun _ S=>aW bN bJ G G (hl.adr (by omega)) (by omega)) ?_;clear H a;intro a H
   refine aL H G G G G (fun _ S=>(bP eA rfl)) ?_;clear H a;intro a H
   refine aL H G G G G (fun _ S=>aE aC rfl (hl.rd S (by omega) (by omega))) ?_;clear H a;intro a H
   refine aL H G G G G (fun _ S=>(aF dE rfl)) ?_;clear H a;intro a H
   refine aL H G G G G (fun _ S=>aE eM rfl (boxM.rd S (i:=0) G G)) ?_;clear H a;intro a H
   refine aL H G G G G (fun _ S=>cX cS rfl) ?_;clear H a;intro a H
   refine aL H G G G G (fun _ S=>aP G G (by unfold i64ok;omega)) ?_;clear H a;intro a H
   refine aX rfl ?_
   refine bX H G G ?_
   refine aB H G G Try.func33 G G (cT _ _ _ _) ?_;clear H a
   rintro _ _ a ⟨rfl,rfl⟩ H
   refine wpList_nil (And.intro (S.sel [0] G G) ?_)
   refine aL H G G G G (fun _ S=>bV rfl (by omega)) ?_;clear H a;intro a H
   refine qF H<|qd rfl (fun _ S=>(cQ G G G))<|qr 1 rfl<|qK ?_;clear H a;intro a H
   refine aL H G G G G (fun _ S=>aJ rfl) ?_;clear H a;intro a H
   refine aL H G G G G (fun _ S=>aJ rfl) ?_;clear H a;intro a H
   refine aL H G G G G (fun _ S=>aW bN bJ G G (hl.adr (by omega)) (by omega)) ?_;clear H a;intro a H
   refine aL H G G G G (fun _ S=>(bP gI rfl)) ?_;clear H a;intro a H
   refine aL H G G G G (fun _ S=>aE aC rfl (hl.rd S (by omega) (by omega))) ?_;clear H a;intro a H
   refine aX rfl ?_
   refine bX H G G ?_
   refine aB H G G Try.func33 G G (cT _ _ _ _) ?_;clear H a
   rintro _ _ a ⟨rfl,rfl⟩ H
   refine wpList_nil (And.intro (S.sel [0] G G) ?_)
   refine aL H G G G G (fun _ S=>bV rfl (by omega)) ?_;clear H a;intro a H
   refine qF H<|qd rfl (fun _ S=>(cQ G G G))<|qr 1 rfl<|qK ?_;clear H a;intro a H
   refine aL H G G G G (fun _ S=>aJ rfl) ?_;clear H a;intro a H
   refine aL H G G G G (fun _ S=>pP G G (by omega)) ?_;clear H a;intro a H
   refine aL H G G G G (fun _ S=>aJ rfl) ?_;clear H a;intro a H
   refine aQ H G G G G G ?_;clear H a;intro a H
   refine aQ H G G G G G ?_;clear H a;intro a H
   refine aQ H G G G G G ?_;clear H a;intro a H
   refine aQ H G G G G G ?_;clear H a;intro a H
   refine aQ H G G G G G ?_;clear H a;intro a H
   refine aQ H G G G G G ?_;clear H a;intro a H
   refine aQ H G G G G G ?_;clear H a;intro a H
   refine aQ H G G G G G ?_;clear H a;intro a H
   refine aQ H G G G G G ?_;clear H a;intro a H
   refine aQ H G G G G G ?_;clear H a;intro a H
   refine aQ H G G G G G ?_;clear H a;intro a H
   refine aL H G G G G (fun _ S=>(bI G G G)) ?_;clear H a;intro a H
   refine qF H<|qd rfl (fun _ S=>(cQ G G G))<|qK ?_;clear H a;intro a H
   refine cI ?_
   refine k21 _ _ ?_
   clear k21 K21
   refine aR H rfl (fun hc7=>?_) (fun hc7=>?_)
   ·skip
    skip
    cases hc7
   skip
   refine wp_skip ?_
   refine k14 _ _ ?_
   replace H:=H.keep [1,2,6] rfl
   refine sO H<|sr 1 rfl<|sd (aI G G (by unfold i64ok;omega))<|sr 1 rfl<|sE ?_;clear H a;intro a H
   exact k11 (g1-1) (k+1) a _ (by omega) (by first|exact ⟨by omega,by omega,fD (f:=tskB y l) hp.2.2 (mT hB)⟩|exact ⟨by omega,by omega,fD (f:=tskB y l) hp.2.2 (mU hB hc8)⟩) (S.sel [0] G G) (H.keep [6,1,2] rfl)
  skip
  replace H:=H.keep [1,2,6] rfl
  replace S:=S.drew
  refine dG [(0,true),(1,true),(2,true),(3,true),(4,true),(5,true),(6,true),(7,true),(8,false),(9,true),(10,true),(11,true),(12,true),(13,true),(14,true),(15,true),(16,true),(17,true),(18,true),(19,true),(20,false),(21,true),(22,true),(23,true),(24,true),(25,true),(26,true),(27,true),(28,true),(29,false),(30,true),(31,true),(32,true),(33,true),(34,true),(35,true),(36,true),(37,true),(38,true),(39,true),(40,true),(41,true),(42,true),(43,true),(44,true),(45,false),(46,true),(47,true),(48,true)] (by kernel_rfl) (by kernel_rfl) (S.sel [0] G G) fun K23 k23=>?_
  refine qF H<|qr 2 rfl<|qd rfl (fun _ S=>aW bN bJ G G (hl.adr (by omega)) (by omega))<|qd rfl (fun _ S=>(bP dM rfl))<|qd rfl (fun _ S=>aE aC rfl (hl.rd S (by omega) (by omega)))<|qd rfl (fun _ S=>(aF dL rfl))<|qd rfl (fun _ S=>aE aC rfl (boxM.rd S (i:=0) G G))<|qd rfl (fun _ S=>aP G G (by unfold i64ok;omega))<|qK ?_;clear H a;intro a H
  refine aX rfl ?_
  refine aB H G G Try.func33 G G (cT _ _ _ _) ?_;clear H a
  rintro _ _ a ⟨rfl,rfl⟩ H
  refine wpList_nil (And.intro (S.sel [0] G G) ?_)
  refine qF H<|qd rfl (fun _ S=>bV rfl (by omega))<|qr 1 rfl<|qK ?_;clear H a;intro a H
  refine aL H G G G G (fun _ S=>aJ rfl) ?_;clear H a;intro a H
  refine aL H G G G G (fun _ S=>aJ rfl) ?_;clear H a;intro a H
  refine aL H G G G G (fun _ S=>aW bN bJ G G (hl.adr (by omega)) (by omega)) ?_;clear H a;intro a H
  refine aL H G G G G (fun _ S=>(bP eA rfl)) ?_;clear H a;intro a H
  refine aL H G G G G (fun _ S=>aE aC rfl (hl.rd S (by omega) (by omega))) ?_;clear H a;intro a H
  refine aL H G G G G (fun _ S=>(aF dE rfl)) ?_;clear H a;intro a H
  refine aL H G G G G (fun _ S=>aE eM rfl (boxM.rd S (i:=0) G G)) ?_;clear H a;intro a H
  refine aL H G G G G (fun _ S=>cX cS rfl) ?_;clear H a;intro a H
  refine aL H G G G G (fun _ S=>aP G G (by unfold i64ok;omega)) ?_;clear H a;intro a H
  refine aX rfl ?_
  refine bX H G G ?_
  refine aB H G G Try.func33 G G (cT _ _ _ _) ?_;clear H a
  rintro _ _ a ⟨rfl,rfl⟩ H
  refine wpList_nil (And.intro (S.sel [0] G G) ?_)
  refine aL H G G G G (fun _ S=>bV rfl (by omega)) ?_;clear H a;intro a H
  refine qF H<|qd rfl (fun _ S=>(cQ G G G))<|qr 1 rfl<|qK ?_;clear H a;intro a H
  refine aL H G G G G (fun _ S=>aJ rfl) ?_;clear H a;intro a H
  refine aL H G G G G (fun _ S=>aJ rfl) ?_;clear H a;intro a H
  refine aL H G G G G (fun _ S=>aW bN bJ G G (hl.adr (by omega)) (by omega)) ?_;clear H a;intro a H
  refine aL H G G G G (fun _ S=>(bP gI rfl)) ?_;clear H a;intro a H
  refine aL H G G G G (fun _ S=>aE aC rfl (hl.rd S (by omega) (by omega))) ?_;clear H a;intro a H
  refine aX rfl ?_
  refine bX H G G ?_
  refine aB H G G Try.func33 G G (cT _ _ _ _) ?_;clear H a
  rintro _ _ a ⟨rfl,rfl⟩ H
  refine wpList_nil (And.intro (S.sel [0] G G) ?_)
  refine aL H G G G G (fun _ S=>bV rfl (by omega)) ?_;clear H a;intro a H
  refine qF H<|qd rfl (fun _ S=>(cQ G G G))<|qr 1 rfl<|qK ?_;clear H a;intro a H
  refine aL H G G G G (fun _ S=>aJ rfl) ?_;clear H a;intro a H
  refine aL H G G G G (fun _ S=>pO G G (by omega)) ?_;clear H a;intro a H
  refine aL H G G G G (fun _ S=>aJ rfl) ?_;clear H a;intro a H
  refine aL H G G G G (fun _ S=>aJ rfl) ?_;clear H a;intro a H
  refine aL H G G G G (fun _ S=>aJ rfl) ?_;clear H a;intro a H
  refine aL H G G G G (fun _ S=>aP G G (by unfold i64ok;omega)) ?_;clear H a;intro a H
  refine aL H G G G G (fun _ S=>cE bN bJ G G (hl.adr (by omega)) (by omega) (by omega)) ?_;clear H a;intro a H
  refine aL H G G G G (fun _ S=>(aS iS bJ rfl S hl (by omega) (by omega))) ?_;clear H a;intro a H
  refine aL H G G G G (fun _ S=>aJ rfl) ?_;clear H a;intro a H
  refine aL H G G G G (fun _ S=>aJ rfl) ?_;clear H a;intro a H
  refine aL H G G G G (fun _ S=>aW bN bJ G G (hl.adr (by omega)) (by omega)) ?_;clear H a;intro a H
  refine aL H G G G G (fun _ S=>(aS iS bJ rfl S hl (by omega) (by omega))) ?_;clear H a;intro a H
  refine aX rfl ?_
  refine bX H G G ?_
  refine aB H G G Try.func34 G G (Iw (l.getD ((k:Int)-1).toNat Tsk.zero) (l.getD k Tsk.zero) _) ?_;clear H a
  rintro _ _ a ⟨rfl,S2⟩ H
  replace S:=S.call S2;clear S2
  refine wpList_nil (And.intro (S.sel [0] G G) ?_)
  refine aL H G G G G (fun _ S=>jX rfl) ?_;clear H a;intro a H
  refine aL H G G G G (fun _ S=>(lD G G G)) ?_;clear H a;intro a H
  refine qF H<|qd rfl (fun _ S=>(cQ G G G))<|qK ?_;clear H a;intro a H
  refine cI ?_
  refine k23 _ _ ?_
  clear k23 K23
  refine aR H rfl (fun hc8=>?_) (fun hc8=>?_)
  ·skip
   try simp only [o1,o2,o3,o4,o5,o6,o7,o8,o9,oa] at hc8
   replace hc8:befB (l.getD ((k:Int)-1).toNat Tsk.zero) (l.getD k Tsk.zero)=false:=by simpa using hc8
   replace H:=H.keep [] rfl
   refine sS H fun K24 k24=>sr 1 rfl<|sE ?_;clear H a;intro a H
   refine k24 _ ?_;clear k24 K24
   refine wp_ret ?_
   refine ret1 (fn:=Try.f10) rfl H rfl ?_
   rw [gQ hye (by omega) (show k<l.length by omega) (Ax hB hc8)];exact ⟨rfl,(S.sel [] G G)⟩
  try simp only [o1,o2,o3,o4,o5,o6,o7,o8,o9,oa] at hc8
  replace hc8:befB (l.getD ((k:Int)-1).toNat Tsk.zero) (l.getD k Tsk.zero)=true:=by simpa using hc8
  refine wp_skip ?_
  refine k14 _ _ ?_
  refine sO H<|sr 1 rfl<|sd (aI G G (by unfold i64ok;omega))<|sr 1 rfl<|sE ?_;clear H a;intro a H
  exact k11 (g1-1) (k+1) a _ (by omega) (by first|exact ⟨by omega,by omega,fD (f:=tskB y l) hp.2.2 (mT hB)⟩|exact ⟨by omega,by omega,fD (f:=tskB y l) hp.2.2 (mU hB hc8)⟩) (S.sel [0] G G) (H.keep [6,1,2] rfl)
 refine wp_exit ?_
 refine k9 _ _ ?_
 refine sS H fun K26 k26=>sr 1 rfl<|sE ?_;clear H a;intro a H
 refine k26 _ ?_;clear k26 K26
 refine wp_ret ?_
 refine ret1 (fn:=Try.f10) rfl H rfl ?_
 rw [kI hye (by omega) (bG.2 fun q hq=>hp.2.2 q (by omega))];exact ⟨rfl,(S.sel [] G G)⟩
end
section
def crwV (pl:Int) (ps:List Psg) (xs:List Int) (pe:List Int) (T0:Int):Bool:=if 26<ps.length∨12<pe.length then true else if dO pl ps xs 0 pe T0≠0 then false else (decide (12<ps.length)||decide (60<sumI pe pe.length))||decide (14<T0)
section
variable {pl T0:Int} {ps:List Psg} {xs pe:List Int}
theorem Oc (h:26<ps.length∨12<pe.length):crwV pl ps xs pe T0=true:=by unfold crwV;rw [if_pos h]
theorem Tg (h:¬ (26<ps.length∨12<pe.length)) (h2:¬ dO pl ps xs 0 pe T0=0):crwV pl ps xs pe T0=false:=by unfold crwV;rw [if_neg h,if_pos h2]
theorem Ws (h:¬ (26<ps.length∨12<pe.length)) (h2:dO pl ps xs 0 pe T0=0):crwV pl ps xs pe T0=((decide (12<ps.length)||decide (60<sumI pe pe.length))||decide (14<T0)):=by unfold crwV;rw [if_neg h,if_neg (fun h9=>h9 h2)]
end
theorem lng4 (A B:Prop) (c:Bool) [Decidable A] [Decidable B]:¬ A∨(A∧c=true)∨(A∧c=false∧B)∨(A∧c=false∧¬ B):=by
  by_cases hA:A <;> by_cases hB:B <;> cases c <;> simp [hA,hB]
theorem nV (pl:Int) (ps:List Psg) (PA:Option Addr) (pc:Nat) (xs:List Int) (XA:Option Addr) (xc:Nat) (pe:List Int) (BA:Option Addr) (bc:Nat) (T0:Int) (w:World) (hps:InS w noF 7 PA ps.length (pcell ps)) (hpn:ps.length≤9223372036854775807) (hxs:InS w noF 1 XA xs.length (icl xs)) (hxn:xs.length≤9223372036854775807) (hpe:InS w noF 1 BA pe.length (icl pe)) (hpen:pe.length≤9223372036854775807) :
    Calls Try.prog 32 [.agg [.int .i64 pl,.slice PA ps.length pc,.slice XA xs.length xc].toArray,.slice BA pe.length bc,.int .i64 T0].toArray w (Ret (fun u w'=>u = .bool (crwV pl ps xs pe T0)∧St w noF [] w')):=by
 refine enter Try.func32 rfl Try.ntmps32 rfl (fun a H=>?_)
 have S:=St.start w
 refine aA fun K1 k1=>?_
 refine aO H rfl S G G ?_;clear H a S;intro b3 _ a hb3 hbw3 S H
 refine ls 1 H<|sr 1 rfl<|sE ?_;clear H a;intro a H
 refine k1 _ _ ?_;clear k1 K1
 refine wp_seq_k fun K2 k2=>?_
 replace H:=H.keep [1,2,3] rfl
 refine sS H fun K3 k3=>sf eX rfl<|sl S 0 gL G G G<|sL fZ rfl<|sr 2 rfl<|sg 3 4 13 16 false G G (fun hg5=>sy hg5<|sr 1 rfl<|sy hg5<|sL aT rfl<|sy hg5<|sr 1 rfl<|sz 3 G G G)<|so G G G<|sE ?_;clear H a;intro a H
 refine k3 _ ?_;clear k3 K3
 refine aR H rfl (fun hc1=>?_) (fun hc1=>?_)
 ·skip
  try simp only [o1,o2,o3,o4,o5,o6,o7,o8,o9,oa] at hc1
  replace H:=H.keep [] rfl
  refine sS H fun K4 k4=>sr 1 rfl<|sE ?_;clear H a;intro a H
  refine k4 _ ?_;clear k4 K4
  refine wp_ret ?_
  refine ret1 (fn:=Try.f32) rfl H rfl ?_
  exact ⟨by rw [Oc (by omega)],(S.sel [] G G)⟩
 try simp only [o1,o2,o3,o4,o5,o6,o7,o8,o9,oa] at hc1
 refine wp_skip ?_
 refine k2 _ _ ?_
 refine wp_seq_k fun K5 k5=>?_
 refine aA fun K6 k6=>?_
 refine ls 3 H<|sd ((aD cL dP rfl S (i:=0) G G))<|sr 2 rfl<|sE ?_;clear H a;intro a H
 refine aB H G G Try.func58 G G (mD pl ps PA pc xs XA xc 0 pe BA bc T0 _ (hps.now S) hpn (hxs.now S) hxn (hpe.now S) hpen) ?_;clear H a
 rintro _ _ a ⟨rfl,S2⟩ H
 replace S:=S.call S2;clear S2
 refine ls 1 H<|sr 1 rfl<|sE ?_;clear H a;intro a H
 refine k6 _ _ ?_;clear k6 K6
 refine condN H rfl (fun hc2=>?_) (fun hc2=>?_)
 ·skip
  refine sS H fun K7 k7=>sr 1 rfl<|sE ?_;clear H a;intro a H
  refine k7 _ ?_;clear k7 K7
  refine wp_ret ?_
  refine ret1 (fn:=Try.f32) rfl H rfl ?_
  exact ⟨by rw [Tg (by omega) hc2],(S.sel [] G G)⟩
 obtain ⟨hst,hou,hcr,hti⟩:=pZ (show dO pl ps xs 0 pe T0=0 by omega)
 obtain ⟨hpp,hpl'⟩:=tP hcr
 refine wp_skip ?_
 refine k5 _ _ ?_
 refine sS H fun K8 k8=>sr 1 rfl<|sE ?_;clear H a;intro a H
 refine k8 _ ?_;clear k8 K8
 refine wp_seq_k fun K9 k9=>?_
 refine sS H fun K10 k10=>sr 1 rfl<|sE ?_;clear H a;intro a H
 refine k10 _ ?_;clear k10 K10
 refine wp_block ?_
 refine loop_st (X:=Nat) (R0:=_) [1,2,3] H rfl (fun k=>[(7,.int .i64 (sumI pe k)),(8,.int .i64 (k:Int))]) (fun k=>[]) (fun g k=>k≤pe.length∧g+k=pe.length) (pe.length) 0 ?_ (S.sel [0] G G) (H.keep [7,8,1,2,3] rfl) ?_
 · exact ⟨by omega,by omega⟩
 clear H S a
 intro g1 x1 a w1 hp S H K11 k11
 obtain ⟨k,rfl⟩:∃ y,y=x1:=⟨_,rfl⟩
 refine wp_seq_k fun K12 k12=>?_
 refine sS H fun K13 k13=>sr 2 rfl<|sL aT rfl<|sr 1 rfl<|sE ?_;clear H a;intro a H
 refine k13 _ ?_;clear k13 K13
 refine condL H rfl (fun hc3=>?_) (fun hc3=>?_)
 ·skip
  refine wp_skip ?_
  refine k12 _ _ ?_
  refine wp_seq_k fun K14 k14=>?_
  refine wp_block ?_
  have hsb:=Wo hpp (by omega) (k:=k) (by omega);have hsk:=hpp k (by omega)
  replace H:=H.keep [1,2,3,7,8] rfl
  refine sO H<|sr 3 rfl<|si aT bE G G (hpe.adr (by omega)) (by omega)<|slm aC rfl (hpe.rd S (by omega) (by omega))<|sd (aI G G (by unfold i64ok;omega))<|sr 1 rfl<|sE ?_;clear H a;intro a H
  refine k14 _ _ ?_
  replace H:=H.keep [1,2,3,7,8] rfl
  refine sO H<|sr 1 rfl<|sd (aI G G (by unfold i64ok;omega))<|sr 1 rfl<|sE ?_;clear H a;intro a H
  exact k11 (g1-1) (k+1) a _ (by omega) (⟨by omega,by omega⟩) (S.sel [0] G G) (H.keep [7,8,1,2,3] rfl)
 refine wp_exit ?_
 refine k9 _ _ ?_
 replace H:=H.keep [2,3,7] rfl
 refine sS H fun K17 k17=>sf eX rfl<|sl S 0 gL G G G<|sL fZ rfl<|sr 2 rfl<|sg 2 4 39 41 false G G (fun hg5=>sy hg5<|sr 1 rfl<|sy hg5<|sr 1 rfl<|sz 2 G G G)<|so G G G<|sr 1 rfl<|sg 2 8 43 45 false G G (fun hg9=>sy hg9<|sr 1 rfl<|sy hg9<|sr 1 rfl<|sz 2 G G G)<|so G G G<|sr 1 rfl<|sE ?_;clear H a;intro a H
 refine k17 _ ?_;clear k17 K17
 refine wp_ret ?_
 refine ret1 (fn:=Try.f32) rfl H rfl ?_
 obtain rfl:k=pe.length:=by omega
 exact ⟨by rw [Ws (by omega) (by omega)];congr 1;simp only [Bool.or_assoc];congr 1;simp only [decide_eq_decide];omega,(S.sel [] G G)⟩
theorem Ds (y:Yr) (w:World) (hy:YIn w noF y) (hyb:YBd y) :
    Calls Try.prog 9 [.agg [.int .i64 y.days,.int .i64 y.pl,.slice y.PA y.ps.length y.pc,.slice y.XA y.xs.length y.xc,.slice y.BA y.pe.length y.bc,.int .i64 y.limit,.bool y.help,.slice y.QA y.prs.length y.qc,.slice y.VA y.us.length y.vc,.int .i64 y.crew,.slice y.SA y.sps.length y.sc].toArray].toArray w (Ret (fun u w'=>∃ b,u = .bool b∧(b=false→(y.ps.length≤26∧y.us.length≤8)∧(yearE y=0→y.days≤6∧y.us.length≤3∧crwV y.pl y.ps y.xs y.pe y.limit=false))∧St w noF [] w')):=by
 have hn1:=hyb.psn;have hn2:=hyb.prn;have hn3:=hyb.usn;have hn4:=hyb.spn
 refine enter Try.func9 rfl Try.ntmps9 rfl (fun a H=>?_)
 have S:=St.start w
 refine aA fun K1 k1=>?_
 refine aO H rfl S G G ?_;clear H a S;intro b1 _ a hb1 hbw1 S H
 refine ls 1 H<|sr 1 rfl<|sE ?_;clear H a;intro a H
 refine k1 _ _ ?_;clear k1 K1
 refine wp_seq_k fun K2 k2=>?_
 replace H:=H.keep [1] rfl
 refine sS H fun K3 k3=>sf eQ rfl<|sf eX rfl<|sl S 0 gL G G G<|sL fZ rfl<|sr 2 rfl<|sg 4 5 8 12 false G G (fun hg6=>sy hg6<|sf rI rfl<|sy hg6<|sl S 0 xE G G G<|sy hg6<|sL eU rfl<|sy hg6<|sr 1 rfl<|sz 4 G G G)<|so G G G<|sr 1 rfl<|sg 4 11 14 18 false G G (fun hg12=>sy hg12<|sf dE rfl<|sy hg12<|sl S 0 eM G G G<|sy hg12<|sL cS rfl<|sy hg12<|sr 1 rfl<|sz 4 G G G)<|so G G G<|sr 1 rfl<|sg 4 17 20 24 false G G (fun hg18=>sy hg18<|sf kQ rfl<|sy hg18<|sl S 0 nJ G G G<|sy hg18<|sL oJ rfl<|sy hg18<|sr 1 rfl<|sz 4 G G G)<|so G G G<|sE ?_;clear H a;intro a H
 refine k3 _ ?_;clear k3 K3
 refine aR H rfl (fun hc1=>?_) (fun hc1=>?_)
 ·skip
  try simp only [o1,o2,o3,o4,o5,o6,o7,o8,o9,oa] at hc1
  replace H:=H.keep [] rfl
  refine sS H fun K4 k4=>sr 1 rfl<|sE ?_;clear H a;intro a H
  refine k4 _ ?_;clear k4 K4
  refine wp_ret ?_
  refine ret1 (fn:=Try.f9) rfl H rfl ?_
  exact ⟨_,rfl,(fun h=>by cases h),(S.sel [] G G)⟩
 try simp only [o1,o2,o3,o4,o5,o6,o7,o8,o9,oa] at hc1
 refine wp_skip ?_
 refine k2 _ _ ?_
 rcases lng4 (yearE y=0) (6<y.days) (crwV y.pl y.ps y.xs y.pe y.limit) with hB|hB|hB|hB
 ·skip
  skip
  replace H:=H.keep [1] rfl
  refine aA fun K5 k5=>?_
  refine ls 1 H<|sd ((aD bF aZ rfl S (i:=0) G G))<|sE ?_;clear H a;intro a H
  refine aB H G G Try.func19 G G (fU y _ (hy.now S) hyb) ?_;clear H a
  rintro _ _ a ⟨rfl,S2⟩ H
  replace S:=S.call S2;clear S2
  refine ls 10 H<|sd ((lA G G).to (congrArg Value.bool (decide_eq_false hB)))<|sr 1 rfl<|sn G G G<|sn G G G<|sn G G G<|sn G G G<|sn G G G<|sn G G G<|sn G G G<|sn G G G<|sE ?_;clear H a;intro a H
  refine kN H G G G ?_;clear H a;intro a H
  refine kN H G G G ?_;clear H a;intro a H
  refine kN H G G G ?_;clear H a;intro a H
  refine ls 2 H<|sn G G G<|sn G G G<|sE ?_;clear H a;intro a H
  refine kN H G G G ?_;clear H a;intro a H
  refine kN H G G G ?_;clear H a;intro a H
  refine kN H G G G ?_;clear H a;intro a H
  refine kN H G G G ?_;clear H a;intro a H
  refine ls 3 H<|sn G G G<|sd ((bI G G G))<|sr 1 rfl<|sE ?_;clear H a;intro a H
  refine k5 _ _ ?_;clear k5 K5
  refine wp_ret ?_
  refine ret1 (fn:=Try.f9) rfl H rfl ?_
  first|exact ⟨_,rfl,(fun _=>⟨⟨by omega,by omega⟩,fun h=>absurd h hB⟩),(S.sel [] G G)⟩|exact ⟨_,rfl,(fun h=>by cases h),(S.sel [] G G)⟩|exact ⟨_,rfl,(fun h=>⟨⟨by omega,by omega⟩,fun h9=>⟨by omega,by have:=of_decide_eq_false h;omega,hB.2.1⟩⟩),(S.sel [] G G)⟩
 ·skip
  skip
  replace H:=H.keep [1] rfl
  refine aA fun K6 k6=>?_
  refine ls 1 H<|sd ((aD bF aZ rfl S (i:=0) G G))<|sE ?_;clear H a;intro a H
  refine aB H G G Try.func19 G G (fU y _ (hy.now S) hyb) ?_;clear H a
  rintro _ _ a ⟨rfl,S2⟩ H
  replace S:=S.call S2;clear S2
  refine ls 8 H<|sd ((lA G G).to (congrArg Value.bool (decide_eq_true hB.1)))<|sr 1 rfl<|sy rfl<|sf eQ rfl<|sy rfl<|sd ((aD cL dP rfl S (i:=0) G G))<|sy rfl<|sf jR rfl<|sy rfl<|sl S 0 eS G G G<|sy rfl<|sf mJ rfl<|sy rfl<|sl S 0 aC G G G<|sE ?_;clear H a;intro a H
  refine bX H G G ?_
  refine aB H G G Try.func32 G G (nV y.pl y.ps y.PA y.pc y.xs y.XA y.xc y.pe y.BA y.bc y.limit _ (hy.ps.now S) hyb.psn (hy.xs.now S) hyb.xsn (hy.pe.now S) hyb.pen) ?_;clear H a
  rintro _ _ a ⟨rfl,S2⟩ H
  replace S:=S.call S2;clear S2
  rw [hB.2] at H
  refine ls 13 H<|sy rfl<|sr 1 rfl<|sn G G G<|sn G G G<|sn G G G<|sy rfl<|sd ((bI G G G))<|sy rfl<|sr 1 rfl<|sn G G G<|sn G G G<|sn G G G<|sn G G G<|sy rfl<|sd ((bI G G G))<|sa G G G<|sr 1 rfl<|sE ?_;clear H a;intro a H
  refine k6 _ _ ?_;clear k6 K6
  refine wp_ret ?_
  refine ret1 (fn:=Try.f9) rfl H rfl ?_
  first|exact ⟨_,rfl,(fun _=>⟨⟨by omega,by omega⟩,fun h=>absurd h hB⟩),(S.sel [] G G)⟩|exact ⟨_,rfl,(fun h=>by cases h),(S.sel [] G G)⟩|exact ⟨_,rfl,(fun h=>⟨⟨by omega,by omega⟩,fun h9=>⟨by omega,by have:=of_decide_eq_false h;omega,hB.2.1⟩⟩),(S.sel [] G G)⟩
 ·skip
  skip
  replace H:=H.keep [1] rfl
  refine aA fun K7 k7=>?_
  refine ls 1 H<|sd ((aD bF aZ rfl S (i:=0) G G))<|sE ?_;clear H a;intro a H
  refine aB H G G Try.func19 G G (fU y _ (hy.now S) hyb) ?_;clear H a
  rintro _ _ a ⟨rfl,S2⟩ H
  replace S:=S.call S2;clear S2
  refine ls 8 H<|sd ((lA G G).to (congrArg Value.bool (decide_eq_true hB.1)))<|sr 1 rfl<|sy rfl<|sf eQ rfl<|sy rfl<|sd ((aD cL dP rfl S (i:=0) G G))<|sy rfl<|sf jR rfl<|sy rfl<|sl S 0 eS G G G<|sy rfl<|sf mJ rfl<|sy rfl<|sl S 0 aC G G G<|sE ?_;clear H a;intro a H
  refine bX H G G ?_
  refine aB H G G Try.func32 G G (nV y.pl y.ps y.PA y.pc y.xs y.XA y.xc y.pe y.BA y.bc y.limit _ (hy.ps.now S) hyb.psn (hy.xs.now S) hyb.xsn (hy.pe.now S) hyb.pen) ?_;clear H a
  rintro _ _ a ⟨rfl,S2⟩ H
  replace S:=S.call S2;clear S2
  rw [hB.2.1] at H
  refine ls 13 H<|sy rfl<|sr 1 rfl<|sy rfl<|sf dL rfl<|sy rfl<|sl S 0 aC G G G<|sy rfl<|sd (pO G G (by omega))<|sy rfl<|so G G G<|sy rfl<|sr 1 rfl<|sn G G G<|sn G G G<|sn G G G<|sn G G G<|sy rfl<|sd ((bI G G G))<|sa G G G<|sr 1 rfl<|sE ?_;clear H a;intro a H
  refine k7 _ _ ?_;clear k7 K7
  refine wp_ret ?_
  refine ret1 (fn:=Try.f9) rfl H rfl ?_
  first|exact ⟨_,rfl,(fun _=>⟨⟨by omega,by omega⟩,fun h=>absurd h hB⟩),(S.sel [] G G)⟩|exact ⟨_,rfl,(fun h=>by cases h),(S.sel [] G G)⟩|exact ⟨_,rfl,(fun h=>⟨⟨by omega,by omega⟩,fun h9=>⟨by omega,by have:=of_decide_eq_false h;omega,hB.2.1⟩⟩),(S.sel [] G G)⟩
 skip
 replace H:=H.keep [1] rfl
 refine aA fun K8 k8=>?_
 refine ls 1 H<|sd ((aD bF aZ rfl S (i:=0) G G))<|sE ?_;clear H a;intro a H
 refine aB H G G Try.func19 G G (fU y _ (hy.now S) hyb) ?_;clear H a
 rintro _ _ a ⟨rfl,S2⟩ H
 replace S:=S.call S2;clear S2
 refine ls 8 H<|sd ((lA G G).to (congrArg Value.bool (decide_eq_true hB.1)))<|sr 1 rfl<|sy rfl<|sf eQ rfl<|sy rfl<|sd ((aD cL dP rfl S (i:=0) G G))<|sy rfl<|sf jR rfl<|sy rfl<|sl S 0 eS G G G<|sy rfl<|sf mJ rfl<|sy rfl<|sl S 0 aC G G G<|sE ?_;clear H a;intro a H
 refine bX H G G ?_
 refine aB H G G Try.func32 G G (nV y.pl y.ps y.PA y.pc y.xs y.XA y.xc y.pe y.BA y.bc y.limit _ (hy.ps.now S) hyb.psn (hy.xs.now S) hyb.xsn (hy.pe.now S) hyb.pen) ?_;clear H a
 rintro _ _ a ⟨rfl,S2⟩ H
 replace S:=S.call S2;clear S2
 rw [hB.2.1] at H
 refine ls 13 H<|sy rfl<|sr 1 rfl<|sy rfl<|sf dL rfl<|sy rfl<|sl S 0 aC G G G<|sy rfl<|sd (pP G G (by omega))<|sy rfl<|so G G G<|sy rfl<|sr 1 rfl<|sy rfl<|sf dE rfl<|sy rfl<|sl S 0 eM G G G<|sy rfl<|sL cS rfl<|sy rfl<|sr 1 rfl<|sy rfl<|so G G G<|sa G G G<|sr 1 rfl<|sE ?_;clear H a;intro a H
 refine k8 _ _ ?_;clear k8 K8
 refine wp_ret ?_
 refine ret1 (fn:=Try.f9) rfl H rfl ?_
 first|exact ⟨_,rfl,(fun _=>⟨⟨by omega,by omega⟩,fun h=>absurd h hB⟩),(S.sel [] G G)⟩|exact ⟨_,rfl,(fun h=>by cases h),(S.sel [] G G)⟩|exact ⟨_,rfl,(fun h=>⟨⟨by omega,by omega⟩,fun h9=>⟨by omega,by have:=of_decide_eq_false h;omega,hB.2.1⟩⟩),(S.sel [] G G)⟩
end
section
section
variable {u:Unt} {J:Nat→Int}
end
end
section
section
variable {y:Yr} {l:List Tsk} {d i q:Nat} {lk:Bool} {s:Nat→Int}
end
end
end Go.Proofs.Ytopmadlgolnmfaa
