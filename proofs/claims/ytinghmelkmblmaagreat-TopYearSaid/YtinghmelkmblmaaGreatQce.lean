/- Part 5 of the proof. -/
import Derived.Test.YtinghmelkmblmaaGreatQcd
namespace Go.Proofs.YtinghmelkmblmaaGreat
open Go.RowKit
set_option linter.unusedVariables false
set_option linter.unusedSimpArgs false
set_option maxRecDepth 100000
set_option maxHeartbeats 4000000
section
def Worn (w:World) (p:Part) (l:List Use) (v:Value) (w':World):Prop:=
 (IsAt p l l.length∧∃ A' c',v = .tuple #[.slice A' l.length c',.bool true]∧St w noF [ownM 88 2 A' l.length c' (fcell (cA p l))] w')∨(¬ IsAt p l l.length∧v = .tuple #[.slice none 0 0,.bool false]∧St w noF [] w')
theorem wY (rates:List (Int×Int)) (pwn ptn pag:Int) (RA:Option Addr) (rcp:Nat) (l:List Use) (A:Option Addr) (cp:Nat) (w:World) (hr:InS w noF 2 RA rates.length (scell rates)) (hrn:rates.length≤9223372036854775807) (hl:InS w noF 6 A l.length (ucell l)) (hn:l.length≤9223372036854775807) (hok:PartOk (⟨rates,pwn,ptn,pag⟩:Part) l) :
    Calls Tryz.prog 182 [.agg [.slice RA rates.length rcp,.int .i64 pwn,.int .i64 ptn,.int .i64 pag].toArray,.slice A l.length cp].toArray w (Ret (Worn w (⟨rates,pwn,ptn,pag⟩:Part) l)):=by
 refine enter Tryz.func182 rfl Tryz.ntmps182 rfl (fun a H=>?_)
 have S:=St.start w
 refine seq_list fun K1 k1=>?_
 refine aO H rfl S G G ?_;intro b2 _ a hb2 hbw2 S H
 refine ls 2 H<|sr 2 G<|sE ?_;clear H a;intro a H
 refine k1 _ _ ?_;by_cases hA:IsAt (⟨rates,pwn,ptn,pag⟩:Part) l l.length
 ·skip
  replace H:=H.keep [1,2] rfl;refine seq_list fun K2 k2=>?_
  refine ls 2 H<|sd ((aB fH iQ rfl S (i:=0) G G))<|sr 1 G<|sE ?_;clear H a;intro a H
  refine aA H G G Tryz.func191 G G (eY (tH rates pwn ptn pag RA rcp l A cp _ (hr.now S) hrn (hl.now S) hn hok) (fun _ _ ⟨n,A',c',h1,h2,h3⟩=>(⟨A',c',by rw [h1.same hA] at h2;exact h2,by rw [h1.same hA] at h3;exact h3⟩:∃ A' c',_∧_))) ?_;clear H a
  rintro _ _ a ⟨A',c',rfl,S2⟩ H;replace S:=S.call S2;clear S2;refine ls 5 H<|sr 5 G<|sE ?_;clear H a;intro a H
  refine k2 _ _ ?_;refine wp_seq_k fun K3 k3=>?_
  try have hnl:=hn1.le
  replace H:=H.keep [1,2,6,7] rfl;refine sS H fun K4 k4=>sr 2 G<|sL dI rfl<|sr 1 G<|sE ?_;clear H a;intro a H
  refine k4 _ ?_;refine condL H rfl (fun hc1=>?_) (fun hc1=>?_)
  ·skip
   all_goals (exfalso;omega)
  refine wp_skip ?_;refine k3 _ _ ?_;refine wp_seq_k fun K5 k5=>?_
  refine sS H fun K6 k6=>sr 1 G<|sL dI rfl<|sd (aR G G (by unfold i64ok;omega))<|sr 1 G<|sE ?_;clear H a;intro a H
  refine k6 _ ?_;refine wp_block ?_;have hll:=hok.len
  replace S:=S.recell (i:=0) rfl (cell':=fcell (fun q=>if (l.length:Int)-2<((q:Nat):Int) then cA (⟨rates,pwn,ptn,pag⟩:Part) l q else fwd (⟨rates,pwn,ptn,pag⟩:Part) l (q+1))) (fun q j hq hj=>by
    unfold fcell;congr 1;(try dsimp only);by_cases h1:(l.length:Int)-2<((q:Nat):Int)
    · rw [if_pos h1,De (show q+1=l.length by omega),show q+1=l.length by omega]
    · rw [if_neg h1])
  refine loop_st (X:=Int) (R0:=_) [1,2,6] H rfl (fun i=>[(8,.int .i64 i)]) (fun i=>[ownM 88 2 A' l.length c' (fcell (fun q=>if i<((q:Nat):Int) then cA (⟨rates,pwn,ptn,pag⟩:Part) l q else fwd (⟨rates,pwn,ptn,pag⟩:Part) l (q+1)))]) (fun g i => -2≤i∧i≤(l.length:Int)-2∧g=(i+2).toNat) (l.length) ((l.length:Int)-2) ?_ (S.sel [0,1] G G) (H.keep [8,1,2,6] rfl) ?_
  · exact ⟨by omega,by omega,by omega⟩
  clear H S a;intro g1 x1 a w1 hp S H K7 k7;obtain ⟨i,rfl⟩:∃ y,y=x1:=⟨_,rfl⟩;refine wp_seq_k fun K8 k8=>?_
  refine sS H fun K9 k9=>sr 2 G<|sE ?_;clear H a;intro a H
  refine k9 _ ?_;refine condG H rfl (fun hc2=>?_) (fun hc2=>?_)
  ·skip
   refine wp_skip ?_;refine k8 _ _ ?_;refine wp_seq_k fun K10 k10=>?_
   refine wp_block ?_;have hu:=hok.use (k:=(i+1).toNat) (by omega);unfold useOk at hu;simp only [decide_eq_true_eq] at hu;have hgb:=nP hok (k:=(i+1).toNat) (by omega)
   have hcls:0≤(l.getD (i+1).toNat aFi).cls∧(l.getD (i+1).toNat aFi).cls<rates.length:=by
     have:((⟨rates,pwn,ptn,pag⟩:Part).rates.length:Int)=rates.length:=rfl
     omega
   have hll:=hok.len
   replace H:=H.keep [1,2,6,8] rfl;replace S:=S.drew;refine seq_wt 999999 (.q 0 (.q 1 (.q 2 (.q 3 (.q 4 (.q 5 (.q 7 (.q 8 (.q 9 (.q 10 (.q 11 (.b3 6 (.b2 12 (.e 13 (.e 14 (.e 15 .nil))) 13 (.e 12 (.e 14 (.e 15 .nil)))) 12 (.b2 6 (.e 13 (.e 14 (.e 15 .nil))) 13 (.e 6 (.e 14 (.e 15 .nil)))) 13 (.b2 6 (.e 12 (.e 14 (.e 15 .nil))) 12 (.e 6 (.e 14 (.e 15 .nil)))))))))))))))) (by kernel_rfl) (by kernel_rfl) (S.sel [0,1] G G) fun K11 k11=>?_
   refine aH H G G (fun _ S=>(aB fH iQ rfl S (i:=1) G G)) ?_;clear H a;intro a H
   refine aH H G G (fun _ S=>aL rfl) ?_;clear H a;intro a H
   refine aH H G G (fun _ S=>aL rfl) ?_;clear H a;intro a H
   refine aH H G G (fun _ S=>aI G G (by unfold i64ok;omega)) ?_;clear H a;intro a H
   refine aH H G G (fun _ S=>bZ dI cY G G (hl.adr (by omega)) (by omega) (by omega)) ?_;clear H a;intro a H
   refine aH H G G (fun _ S=>(aU kY cY rfl S hl (by omega) (by omega))) ?_;clear H a;intro a H
   refine aH H G G (fun _ S=>aL rfl) ?_;clear H a;intro a H
   refine aH H G G (fun _ S=>aL rfl) ?_;clear H a;intro a H
   refine aH H G G (fun _ S=>aI G G (by unfold i64ok;omega)) ?_;clear H a;intro a H
   refine aH H G G (fun _ S=>bZ dH aS G G (aEj S (i:=0) rfl (by omega)) (by omega) (by omega)) ?_;clear H a;intro a H
   refine aH H G G (fun _ S=>dA (vs:=[.int .i64 (cA (⟨rates,pwn,ptn,pag⟩:Part) l (i+1).toNat).1,.int .i64 (cA (⟨rates,pwn,ptn,pag⟩:Part) l (i+1).toNat).2]) bF aS rfl (mL S (i:=0) rfl (by omega) (if_pos (by omega)))) ?_;clear H a;intro a H
   refine xR G G G ?_ ?_ ?_
   ·skip
    refine aA H G G Tryz.func192 G G (gT rates pwn ptn pag RA rcp (l.getD (i+1).toNat aFi) _ (hr.now S) hrn hcls (by unfold i64ok;omega) (by unfold i64ok;omega)) ?_;clear H a
    rintro _ _ a ⟨rfl,S2⟩ H;replace S:=S.call S2;clear S2;refine wpList_nil (And.intro (Or.inr (S.sel [0,1] rfl rfl)) ?_);refine eF rfl rfl ?_ ?_
    ·skip
     refine aJ H rfl S cB ?_;intro b9 _ a hb9 hbw9 S H
     refine wpList_nil (And.intro (Or.inr (S.sel [1,2] rfl rfl)) ?_);refine aM rfl ?_;refine aJ H rfl S cB ?_;intro b10 _ a hb10 hbw10 S H;refine wpList_nil (And.intro (Or.inr (S.sel [2,3] rfl rfl)) ?_);refine aM rfl ?_;refine aE H S (i:=1) rfl rfl rfl rfl aS rfl rfl ?_;clear H a S;intro _ a S H;refine wpList_nil (And.intro (Or.inr (S.sel [2,3] rfl rfl)) ?_);refine aM rfl ?_;refine aE H S (i:=0) rfl rfl rfl rfl aS rfl rfl ?_;clear H a S;intro _ a S H;refine wpList_nil (And.intro (Or.inr (S.sel [2,3] rfl rfl)) ?_);refine bD ?_;refine k11 _ _ ?_;have hbw:=kJ hok (k:=(i+1).toNat) (by omega);replace H:=H.keep [1,2,6,8,9,10] rfl;replace S:=S.drew;refine one_wt 22 (.q 0 (.q 1 (.q 2 (.q 3 (.q 4 (.q 5 (.q 6 (.q 7 (.q 8 (.q 9 (.q 10 (.q 11 (.q 12 (.q 13 (.q 14 (.q 15 (.q 16 (.e 17 (.q 18 (.q 19 (.p 20 (.q 21 (.e 22 .nil))))))))))))))))))))))) (by kernel_rfl) (by kernel_rfl) (S.sel [0,1,2,3] rfl rfl) ?_;refine aH H rfl rfl (fun _ S=>aL rfl) ?_;clear H a;intro a H;refine aH H rfl rfl (fun _ S=>aL rfl) ?_;clear H a;intro a H;refine aH H rfl rfl (fun _ S=>aL rfl) ?_;clear H a;intro a H;refine aH H rfl rfl (fun _ S=>aL rfl) ?_;clear H a;intro a H;refine aH H rfl rfl (fun _ S=>bZ dH aS rfl rfl (aEj S (i:=2) rfl (by omega)) (by omega) (by omega)) ?_;clear H a;intro a H;refine aH H rfl rfl (fun _ S=>dA (vs:=[.int .i64 (fwd (⟨rates,pwn,ptn,pag⟩:Part) l (i.toNat+1)).1,.int .i64 (fwd (⟨rates,pwn,ptn,pag⟩:Part) l (i.toNat+1)).2]) bF aS rfl (mL S (i:=2) rfl (by omega) (if_neg (by omega)))) ?_;clear H a;intro a H;refine aH H rfl rfl (fun _ S=>(aC bJ rfl)) ?_;clear H a;intro a H;refine aH H rfl rfl (fun _ S=>aF aD rfl (aEh S (i:=0) rfl rfl)) ?_;clear H a;intro a H;refine aH H rfl rfl (fun _ S=>(aC bH rfl)) ?_;clear H a;intro a H;refine aH H rfl rfl (fun _ S=>aF aD rfl (aEh S (i:=1) rfl rfl)) ?_;clear H a;intro a H;refine aH H rfl rfl (fun _ S=>aR rfl rfl (by unfold i64ok;omega)) ?_;clear H a;intro a H;refine aH H rfl rfl (fun _ S=>(aC bH rfl)) ?_;clear H a;intro a H;refine aH H rfl rfl (fun _ S=>aF aD rfl (aEh S (i:=0) rfl rfl)) ?_;clear H a;intro a H;refine aH H rfl rfl (fun _ S=>(aC bJ rfl)) ?_;clear H a;intro a H;refine aH H rfl rfl (fun _ S=>aF aD rfl (aEh S (i:=1) rfl rfl)) ?_;clear H a;intro a H;refine aH H rfl rfl (fun _ S=>aR rfl rfl (by unfold i64ok;omega)) ?_;clear H a;intro a H;refine aH H rfl rfl (fun _ S=>aN dW rfl rfl) ?_;clear H a;intro a H;refine aM rfl ?_;refine aA H rfl rfl Tryz.func193 rfl rfl (gM (fwd (⟨rates,pwn,ptn,pag⟩:Part) l (i.toNat+1)).1 (fwd (⟨rates,pwn,ptn,pag⟩:Part) l (i.toNat+1)).2 _ _ _) ?_;clear H a;rintro _ _ a ⟨rfl,S2⟩ H;replace S:=S.call S2;clear S2;refine wpList_nil (And.intro (Or.inr (S.sel [0,1,2,3] rfl rfl)) ?_);refine aH H rfl rfl (fun _ S=>aL rfl) ?_;clear H a;intro a H;refine aH H rfl rfl (fun _ S=>aQ rfl rfl) ?_;clear H a;intro a H;refine aW H rfl rfl (fun _=>aQ rfl rfl) ?_;clear H a;intro a H;refine aH H rfl rfl (fun _ S=>bZ dH aS rfl rfl (aEj S (i:=2) rfl (by omega)) (by omega) (by omega)) ?_;clear H a;intro a H;refine aM rfl ?_;refine eE H S (i:=2) (kk:=i.toNat) rfl rfl rfl (by omega) aS ?_;clear H a S;intro _ a S H;have e9:=gQ (p:=(⟨rates,pwn,ptn,pag⟩:Part)) (l:=l) (k:=i.toNat) (by omega);have e8:i.toNat+1=(i+1).toNat:=by omega
     rw [e8] at e9
     replace S:=S.recell (i:=2) rfl (cell':=fcell (fun q=>if i-1<((q:Nat):Int) then cA (⟨rates,pwn,ptn,pag⟩:Part) l q else fwd (⟨rates,pwn,ptn,pag⟩:Part) l (q+1))) (fun q j hq hj=>by
       unfold fcell;congr 1;(try dsimp only);by_cases h1:q=i.toNat
       · subst h1;rw [if_pos rfl,if_pos (by omega),e9,e8]
       · rw [if_neg h1];by_cases h2:i<(q:Int)
         · rw [if_pos h2,if_pos (by omega)]
         · rw [if_neg h2,if_neg (by omega)])
     refine wpList_nil (And.intro (Or.inl rfl) ?_);refine bD ?_;refine k10 _ _ ?_;replace H:=H.keep [1,2,6,8] rfl;refine sO H<|sr 1 G<|sd (aR G G (by unfold i64ok;omega))<|sr 1 G<|sE ?_;clear H a;intro a H
     exact k7 (g1-1) (i-1) a _ (by omega) (⟨by omega,by omega,by omega⟩) (S.sel [2,3] G G) (H.keep [8,1,2,6] rfl)
    ·skip
     refine aJ H rfl S cB ?_;intro b10 _ a hb10 hbw10 S H
     refine wpList_nil (And.intro (Or.inr (S.sel [1,2] rfl rfl)) ?_);refine aM rfl ?_;refine aJ H rfl S cB ?_;intro b9 _ a hb9 hbw9 S H;refine wpList_nil (And.intro (Or.inr (S.sel [2,3] rfl rfl)) ?_);refine aM rfl ?_;refine aE H S (i:=0) rfl rfl rfl rfl aS rfl rfl ?_;clear H a S;intro _ a S H;refine wpList_nil (And.intro (Or.inr (S.sel [2,3] rfl rfl)) ?_);refine aM rfl ?_;refine aE H S (i:=1) rfl rfl rfl rfl aS rfl rfl ?_;clear H a S;intro _ a S H;refine wpList_nil (And.intro (Or.inr (S.sel [2,3] rfl rfl)) ?_);refine bD ?_;refine k11 _ _ ?_;have hbw:=kJ hok (k:=(i+1).toNat) (by omega);replace H:=H.keep [1,2,6,8,9,10] rfl;replace S:=S.drew;refine one_wt 22 (.q 0 (.q 1 (.q 2 (.q 3 (.q 4 (.q 5 (.q 6 (.q 7 (.q 8 (.q 9 (.q 10 (.q 11 (.q 12 (.q 13 (.q 14 (.q 15 (.q 16 (.e 17 (.q 18 (.q 19 (.p 20 (.q 21 (.e 22 .nil))))))))))))))))))))))) (by kernel_rfl) (by kernel_rfl) (S.sel [0,1,2,3] rfl rfl) ?_;refine aH H rfl rfl (fun _ S=>aL rfl) ?_;clear H a;intro a H;refine aH H rfl rfl (fun _ S=>aL rfl) ?_;clear H a;intro a H;refine aH H rfl rfl (fun _ S=>aL rfl) ?_;clear H a;intro a H;refine aH H rfl rfl (fun _ S=>aL rfl) ?_;clear H a;intro a H;refine aH H rfl rfl (fun _ S=>bZ dH aS rfl rfl (aEj S (i:=2) rfl (by omega)) (by omega) (by omega)) ?_;clear H a;intro a H;refine aH H rfl rfl (fun _ S=>dA (vs:=[.int .i64 (fwd (⟨rates,pwn,ptn,pag⟩:Part) l (i.toNat+1)).1,.int .i64 (fwd (⟨rates,pwn,ptn,pag⟩:Part) l (i.toNat+1)).2]) bF aS rfl (mL S (i:=2) rfl (by omega) (if_neg (by omega)))) ?_;clear H a;intro a H;refine aH H rfl rfl (fun _ S=>(aC bJ rfl)) ?_;clear H a;intro a H;refine aH H rfl rfl (fun _ S=>aF aD rfl (aEh S (i:=1) rfl rfl)) ?_;clear H a;intro a H;refine aH H rfl rfl (fun _ S=>(aC bH rfl)) ?_;clear H a;intro a H;refine aH H rfl rfl (fun _ S=>aF aD rfl (aEh S (i:=0) rfl rfl)) ?_;clear H a;intro a H;refine aH H rfl rfl (fun _ S=>aR rfl rfl (by unfold i64ok;omega)) ?_;clear H a;intro a H;refine aH H rfl rfl (fun _ S=>(aC bH rfl)) ?_;clear H a;intro a H;refine aH H rfl rfl (fun _ S=>aF aD rfl (aEh S (i:=1) rfl rfl)) ?_;clear H a;intro a H;refine aH H rfl rfl (fun _ S=>(aC bJ rfl)) ?_;clear H a;intro a H;refine aH H rfl rfl (fun _ S=>aF aD rfl (aEh S (i:=0) rfl rfl)) ?_;clear H a;intro a H;refine aH H rfl rfl (fun _ S=>aR rfl rfl (by unfold i64ok;omega)) ?_;clear H a;intro a H;refine aH H rfl rfl (fun _ S=>aN dW rfl rfl) ?_;clear H a;intro a H;refine aM rfl ?_;refine aA H rfl rfl Tryz.func193 rfl rfl (gM (fwd (⟨rates,pwn,ptn,pag⟩:Part) l (i.toNat+1)).1 (fwd (⟨rates,pwn,ptn,pag⟩:Part) l (i.toNat+1)).2 _ _ _) ?_;clear H a;rintro _ _ a ⟨rfl,S2⟩ H;replace S:=S.call S2;clear S2;refine wpList_nil (And.intro (Or.inr (S.sel [0,1,2,3] rfl rfl)) ?_);refine aH H rfl rfl (fun _ S=>aL rfl) ?_;clear H a;intro a H;refine aH H rfl rfl (fun _ S=>aQ rfl rfl) ?_;clear H a;intro a H;refine aW H rfl rfl (fun _=>aQ rfl rfl) ?_;clear H a;intro a H;refine aH H rfl rfl (fun _ S=>bZ dH aS rfl rfl (aEj S (i:=2) rfl (by omega)) (by omega) (by omega)) ?_;clear H a;intro a H;refine aM rfl ?_;refine eE H S (i:=2) (kk:=i.toNat) rfl rfl rfl (by omega) aS ?_;clear H a S;intro _ a S H;have e9:=gQ (p:=(⟨rates,pwn,ptn,pag⟩:Part)) (l:=l) (k:=i.toNat) (by omega);have e8:i.toNat+1=(i+1).toNat:=by omega
     rw [e8] at e9
     replace S:=S.recell (i:=2) rfl (cell':=fcell (fun q=>if i-1<((q:Nat):Int) then cA (⟨rates,pwn,ptn,pag⟩:Part) l q else fwd (⟨rates,pwn,ptn,pag⟩:Part) l (q+1))) (fun q j hq hj=>by
       unfold fcell;congr 1;(try dsimp only);by_cases h1:q=i.toNat
       · subst h1;rw [if_pos rfl,if_pos (by omega),e9,e8]
       · rw [if_neg h1];by_cases h2:i<(q:Int)
         · rw [if_pos h2,if_pos (by omega)]
         · rw [if_neg h2,if_neg (by omega)])
     refine wpList_nil (And.intro (Or.inl rfl) ?_);refine bD ?_;refine k10 _ _ ?_;replace H:=H.keep [1,2,6,8] rfl;refine sO H<|sr 1 G<|sd (aR G G (by unfold i64ok;omega))<|sr 1 G<|sE ?_;clear H a;intro a H
     exact k7 (g1-1) (i-1) a _ (by omega) (⟨by omega,by omega,by omega⟩) (S.sel [2,3] G G) (H.keep [8,1,2,6] rfl)
   ·skip
    refine aJ H rfl S cB ?_;intro b9 _ a hb9 hbw9 S H
    refine wpList_nil (And.intro (Or.inr (S.sel [1,2] G G)) ?_);refine eF G G ?_ ?_
    ·skip
     refine aA H G G Tryz.func192 G G (gT rates pwn ptn pag RA rcp (l.getD (i+1).toNat aFi) _ (hr.now S) hrn hcls (by unfold i64ok;omega) (by unfold i64ok;omega)) ?_;clear H a
     rintro _ _ a ⟨rfl,S2⟩ H;replace S:=S.call S2;clear S2;refine wpList_nil (And.intro (Or.inr (S.sel [1,2] rfl rfl)) ?_);refine aM rfl ?_;refine aJ H rfl S cB ?_;intro b10 _ a hb10 hbw10 S H;refine wpList_nil (And.intro (Or.inr (S.sel [2,3] rfl rfl)) ?_);refine aM rfl ?_;refine aE H S (i:=1) rfl rfl rfl rfl aS rfl rfl ?_;clear H a S;intro _ a S H;refine wpList_nil (And.intro (Or.inr (S.sel [2,3] rfl rfl)) ?_);refine aM rfl ?_;refine aE H S (i:=0) rfl rfl rfl rfl aS rfl rfl ?_;clear H a S;intro _ a S H;refine wpList_nil (And.intro (Or.inr (S.sel [2,3] rfl rfl)) ?_);refine bD ?_;refine k11 _ _ ?_;have hbw:=kJ hok (k:=(i+1).toNat) (by omega);replace H:=H.keep [1,2,6,8,9,10] rfl;replace S:=S.drew;refine one_wt 22 (.q 0 (.q 1 (.q 2 (.q 3 (.q 4 (.q 5 (.q 6 (.q 7 (.q 8 (.q 9 (.q 10 (.q 11 (.q 12 (.q 13 (.q 14 (.q 15 (.q 16 (.e 17 (.q 18 (.q 19 (.p 20 (.q 21 (.e 22 .nil))))))))))))))))))))))) (by kernel_rfl) (by kernel_rfl) (S.sel [0,1,2,3] rfl rfl) ?_;refine aH H rfl rfl (fun _ S=>aL rfl) ?_;clear H a;intro a H;refine aH H rfl rfl (fun _ S=>aL rfl) ?_;clear H a;intro a H;refine aH H rfl rfl (fun _ S=>aL rfl) ?_;clear H a;intro a H;refine aH H rfl rfl (fun _ S=>aL rfl) ?_;clear H a;intro a H;refine aH H rfl rfl (fun _ S=>bZ dH aS rfl rfl (aEj S (i:=2) rfl (by omega)) (by omega) (by omega)) ?_;clear H a;intro a H;refine aH H rfl rfl (fun _ S=>dA (vs:=[.int .i64 (fwd (⟨rates,pwn,ptn,pag⟩:Part) l (i.toNat+1)).1,.int .i64 (fwd (⟨rates,pwn,ptn,pag⟩:Part) l (i.toNat+1)).2]) bF aS rfl (mL S (i:=2) rfl (by omega) (if_neg (by omega)))) ?_;clear H a;intro a H;refine aH H rfl rfl (fun _ S=>(aC bJ rfl)) ?_;clear H a;intro a H;refine aH H rfl rfl (fun _ S=>aF aD rfl (aEh S (i:=0) rfl rfl)) ?_;clear H a;intro a H;refine aH H rfl rfl (fun _ S=>(aC bH rfl)) ?_;clear H a;intro a H;refine aH H rfl rfl (fun _ S=>aF aD rfl (aEh S (i:=1) rfl rfl)) ?_;clear H a;intro a H;refine aH H rfl rfl (fun _ S=>aR rfl rfl (by unfold i64ok;omega)) ?_;clear H a;intro a H;refine aH H rfl rfl (fun _ S=>(aC bH rfl)) ?_;clear H a;intro a H;refine aH H rfl rfl (fun _ S=>aF aD rfl (aEh S (i:=0) rfl rfl)) ?_;clear H a;intro a H;refine aH H rfl rfl (fun _ S=>(aC bJ rfl)) ?_;clear H a;intro a H;refine aH H rfl rfl (fun _ S=>aF aD rfl (aEh S (i:=1) rfl rfl)) ?_;clear H a;intro a H;refine aH H rfl rfl (fun _ S=>aR rfl rfl (by unfold i64ok;omega)) ?_;clear H a;intro a H;refine aH H rfl rfl (fun _ S=>aN dW rfl rfl) ?_;clear H a;intro a H;refine aM rfl ?_;refine aA H rfl rfl Tryz.func193 rfl rfl (gM (fwd (⟨rates,pwn,ptn,pag⟩:Part) l (i.toNat+1)).1 (fwd (⟨rates,pwn,ptn,pag⟩:Part) l (i.toNat+1)).2 _ _ _) ?_;clear H a;rintro _ _ a ⟨rfl,S2⟩ H;replace S:=S.call S2;clear S2;refine wpList_nil (And.intro (Or.inr (S.sel [0,1,2,3] rfl rfl)) ?_);refine aH H rfl rfl (fun _ S=>aL rfl) ?_;clear H a;intro a H;refine aH H rfl rfl (fun _ S=>aQ rfl rfl) ?_;clear H a;intro a H;refine aW H rfl rfl (fun _=>aQ rfl rfl) ?_;clear H a;intro a H;refine aH H rfl rfl (fun _ S=>bZ dH aS rfl rfl (aEj S (i:=2) rfl (by omega)) (by omega) (by omega)) ?_;clear H a;intro a H;refine aM rfl ?_;refine eE H S (i:=2) (kk:=i.toNat) rfl rfl rfl (by omega) aS ?_;clear H a S;intro _ a S H;have e9:=gQ (p:=(⟨rates,pwn,ptn,pag⟩:Part)) (l:=l) (k:=i.toNat) (by omega);have e8:i.toNat+1=(i+1).toNat:=by omega
     rw [e8] at e9
     replace S:=S.recell (i:=2) rfl (cell':=fcell (fun q=>if i-1<((q:Nat):Int) then cA (⟨rates,pwn,ptn,pag⟩:Part) l q else fwd (⟨rates,pwn,ptn,pag⟩:Part) l (q+1))) (fun q j hq hj=>by
       unfold fcell;congr 1;(try dsimp only);by_cases h1:q=i.toNat
       · subst h1;rw [if_pos rfl,if_pos (by omega),e9,e8]
       · rw [if_neg h1];by_cases h2:i<(q:Int)
         · rw [if_pos h2,if_pos (by omega)]
         · rw [if_neg h2,if_neg (by omega)])
     refine wpList_nil (And.intro (Or.inl rfl) ?_);refine bD ?_;refine k10 _ _ ?_;replace H:=H.keep [1,2,6,8] rfl;refine sO H<|sr 1 G<|sd (aR G G (by unfold i64ok;omega))<|sr 1 G<|sE ?_;clear H a;intro a H
     exact k7 (g1-1) (i-1) a _ (by omega) (⟨by omega,by omega,by omega⟩) (S.sel [2,3] G G) (H.keep [8,1,2,6] rfl)
    ·skip
     refine aJ H rfl S cB ?_;intro b10 _ a hb10 hbw10 S H
     refine wpList_nil (And.intro (Or.inr (S.sel [2,3] rfl rfl)) ?_);refine aM rfl ?_;refine aA H rfl rfl Tryz.func192 rfl rfl (gT rates pwn ptn pag RA rcp (l.getD (i+1).toNat aFi) _ (hr.now S) hrn hcls (by unfold i64ok;omega) (by unfold i64ok;omega)) ?_;clear H a;rintro _ _ a ⟨rfl,S2⟩ H;replace S:=S.call S2;clear S2;refine wpList_nil (And.intro (Or.inr (S.sel [2,3] rfl rfl)) ?_);refine aM rfl ?_;refine aE H S (i:=1) rfl rfl rfl rfl aS rfl rfl ?_;clear H a S;intro _ a S H;refine wpList_nil (And.intro (Or.inr (S.sel [2,3] rfl rfl)) ?_);refine aM rfl ?_;refine aE H S (i:=0) rfl rfl rfl rfl aS rfl rfl ?_;clear H a S;intro _ a S H;refine wpList_nil (And.intro (Or.inr (S.sel [2,3] rfl rfl)) ?_);refine bD ?_;refine k11 _ _ ?_;have hbw:=kJ hok (k:=(i+1).toNat) (by omega);replace H:=H.keep [1,2,6,8,9,10] rfl;replace S:=S.drew;refine one_wt 22 (.q 0 (.q 1 (.q 2 (.q 3 (.q 4 (.q 5 (.q 6 (.q 7 (.q 8 (.q 9 (.q 10 (.q 11 (.q 12 (.q 13 (.q 14 (.q 15 (.q 16 (.e 17 (.q 18 (.q 19 (.p 20 (.q 21 (.e 22 .nil))))))))))))))))))))))) (by kernel_rfl) (by kernel_rfl) (S.sel [0,1,2,3] rfl rfl) ?_;refine aH H rfl rfl (fun _ S=>aL rfl) ?_;clear H a;intro a H;refine aH H rfl rfl (fun _ S=>aL rfl) ?_;clear H a;intro a H;refine aH H rfl rfl (fun _ S=>aL rfl) ?_;clear H a;intro a H;refine aH H rfl rfl (fun _ S=>aL rfl) ?_;clear H a;intro a H;refine aH H rfl rfl (fun _ S=>bZ dH aS rfl rfl (aEj S (i:=2) rfl (by omega)) (by omega) (by omega)) ?_;clear H a;intro a H;refine aH H rfl rfl (fun _ S=>dA (vs:=[.int .i64 (fwd (⟨rates,pwn,ptn,pag⟩:Part) l (i.toNat+1)).1,.int .i64 (fwd (⟨rates,pwn,ptn,pag⟩:Part) l (i.toNat+1)).2]) bF aS rfl (mL S (i:=2) rfl (by omega) (if_neg (by omega)))) ?_;clear H a;intro a H;refine aH H rfl rfl (fun _ S=>(aC bJ rfl)) ?_;clear H a;intro a H;refine aH H rfl rfl (fun _ S=>aF aD rfl (aEh S (i:=0) rfl rfl)) ?_;clear H a;intro a H;refine aH H rfl rfl (fun _ S=>(aC bH rfl)) ?_;clear H a;intro a H;refine aH H rfl rfl (fun _ S=>aF aD rfl (aEh S (i:=1) rfl rfl)) ?_;clear H a;intro a H;refine aH H rfl rfl (fun _ S=>aR rfl rfl (by unfold i64ok;omega)) ?_;clear H a;intro a H;refine aH H rfl rfl (fun _ S=>(aC bH rfl)) ?_;clear H a;intro a H;refine aH H rfl rfl (fun _ S=>aF aD rfl (aEh S (i:=0) rfl rfl)) ?_;clear H a;intro a H;refine aH H rfl rfl (fun _ S=>(aC bJ rfl)) ?_;clear H a;intro a H;refine aH H rfl rfl (fun _ S=>aF aD rfl (aEh S (i:=1) rfl rfl)) ?_;clear H a;intro a H;refine aH H rfl rfl (fun _ S=>aR rfl rfl (by unfold i64ok;omega)) ?_;clear H a;intro a H;refine aH H rfl rfl (fun _ S=>aN dW rfl rfl) ?_;clear H a;intro a H;refine aM rfl ?_;refine aA H rfl rfl Tryz.func193 rfl rfl (gM (fwd (⟨rates,pwn,ptn,pag⟩:Part) l (i.toNat+1)).1 (fwd (⟨rates,pwn,ptn,pag⟩:Part) l (i.toNat+1)).2 _ _ _) ?_;clear H a;rintro _ _ a ⟨rfl,S2⟩ H;replace S:=S.call S2;clear S2;refine wpList_nil (And.intro (Or.inr (S.sel [0,1,2,3] rfl rfl)) ?_);refine aH H rfl rfl (fun _ S=>aL rfl) ?_;clear H a;intro a H;refine aH H rfl rfl (fun _ S=>aQ rfl rfl) ?_;clear H a;intro a H;refine aW H rfl rfl (fun _=>aQ rfl rfl) ?_;clear H a;intro a H;refine aH H rfl rfl (fun _ S=>bZ dH aS rfl rfl (aEj S (i:=2) rfl (by omega)) (by omega) (by omega)) ?_;clear H a;intro a H;refine aM rfl ?_;refine eE H S (i:=2) (kk:=i.toNat) rfl rfl rfl (by omega) aS ?_;clear H a S;intro _ a S H;have e9:=gQ (p:=(⟨rates,pwn,ptn,pag⟩:Part)) (l:=l) (k:=i.toNat) (by omega);have e8:i.toNat+1=(i+1).toNat:=by omega
     rw [e8] at e9
     replace S:=S.recell (i:=2) rfl (cell':=fcell (fun q=>if i-1<((q:Nat):Int) then cA (⟨rates,pwn,ptn,pag⟩:Part) l q else fwd (⟨rates,pwn,ptn,pag⟩:Part) l (q+1))) (fun q j hq hj=>by
       unfold fcell;congr 1;(try dsimp only);by_cases h1:q=i.toNat
       · subst h1;rw [if_pos rfl,if_pos (by omega),e9,e8]
       · rw [if_neg h1];by_cases h2:i<(q:Int)
         · rw [if_pos h2,if_pos (by omega)]
         · rw [if_neg h2,if_neg (by omega)])
     refine wpList_nil (And.intro (Or.inl rfl) ?_);refine bD ?_;refine k10 _ _ ?_;replace H:=H.keep [1,2,6,8] rfl;refine sO H<|sr 1 G<|sd (aR G G (by unfold i64ok;omega))<|sr 1 G<|sE ?_;clear H a;intro a H
     exact k7 (g1-1) (i-1) a _ (by omega) (⟨by omega,by omega,by omega⟩) (S.sel [2,3] G G) (H.keep [8,1,2,6] rfl)
   ·skip
    refine aJ H rfl S cB ?_;intro b10 _ a hb10 hbw10 S H
    refine wpList_nil (And.intro (Or.inr (S.sel [1,2] G G)) ?_);refine eF G G ?_ ?_
    ·skip
     refine aA H G G Tryz.func192 G G (gT rates pwn ptn pag RA rcp (l.getD (i+1).toNat aFi) _ (hr.now S) hrn hcls (by unfold i64ok;omega) (by unfold i64ok;omega)) ?_;clear H a
     rintro _ _ a ⟨rfl,S2⟩ H;replace S:=S.call S2;clear S2;refine wpList_nil (And.intro (Or.inr (S.sel [1,2] rfl rfl)) ?_);refine aM rfl ?_;refine aJ H rfl S cB ?_;intro b9 _ a hb9 hbw9 S H;refine wpList_nil (And.intro (Or.inr (S.sel [2,3] rfl rfl)) ?_);refine aM rfl ?_;refine aE H S (i:=0) rfl rfl rfl rfl aS rfl rfl ?_;clear H a S;intro _ a S H;refine wpList_nil (And.intro (Or.inr (S.sel [2,3] rfl rfl)) ?_);refine aM rfl ?_;refine aE H S (i:=1) rfl rfl rfl rfl aS rfl rfl ?_;clear H a S;intro _ a S H;refine wpList_nil (And.intro (Or.inr (S.sel [2,3] rfl rfl)) ?_);refine bD ?_;refine k11 _ _ ?_;have hbw:=kJ hok (k:=(i+1).toNat) (by omega);replace H:=H.keep [1,2,6,8,9,10] rfl;replace S:=S.drew;refine one_wt 22 (.q 0 (.q 1 (.q 2 (.q 3 (.q 4 (.q 5 (.q 6 (.q 7 (.q 8 (.q 9 (.q 10 (.q 11 (.q 12 (.q 13 (.q 14 (.q 15 (.q 16 (.e 17 (.q 18 (.q 19 (.p 20 (.q 21 (.e 22 .nil))))))))))))))))))))))) (by kernel_rfl) (by kernel_rfl) (S.sel [0,1,2,3] rfl rfl) ?_;refine aH H rfl rfl (fun _ S=>aL rfl) ?_;clear H a;intro a H;refine aH H rfl rfl (fun _ S=>aL rfl) ?_;clear H a;intro a H;refine aH H rfl rfl (fun _ S=>aL rfl) ?_;clear H a;intro a H;refine aH H rfl rfl (fun _ S=>aL rfl) ?_;clear H a;intro a H;refine aH H rfl rfl (fun _ S=>bZ dH aS rfl rfl (aEj S (i:=2) rfl (by omega)) (by omega) (by omega)) ?_;clear H a;intro a H;refine aH H rfl rfl (fun _ S=>dA (vs:=[.int .i64 (fwd (⟨rates,pwn,ptn,pag⟩:Part) l (i.toNat+1)).1,.int .i64 (fwd (⟨rates,pwn,ptn,pag⟩:Part) l (i.toNat+1)).2]) bF aS rfl (mL S (i:=2) rfl (by omega) (if_neg (by omega)))) ?_;clear H a;intro a H;refine aH H rfl rfl (fun _ S=>(aC bJ rfl)) ?_;clear H a;intro a H;refine aH H rfl rfl (fun _ S=>aF aD rfl (aEh S (i:=1) rfl rfl)) ?_;clear H a;intro a H;refine aH H rfl rfl (fun _ S=>(aC bH rfl)) ?_;clear H a;intro a H;refine aH H rfl rfl (fun _ S=>aF aD rfl (aEh S (i:=0) rfl rfl)) ?_;clear H a;intro a H;refine aH H rfl rfl (fun _ S=>aR rfl rfl (by unfold i64ok;omega)) ?_;clear H a;intro a H;refine aH H rfl rfl (fun _ S=>(aC bH rfl)) ?_;clear H a;intro a H;refine aH H rfl rfl (fun _ S=>aF aD rfl (aEh S (i:=1) rfl rfl)) ?_;clear H a;intro a H;refine aH H rfl rfl (fun _ S=>(aC bJ rfl)) ?_;clear H a;intro a H;refine aH H rfl rfl (fun _ S=>aF aD rfl (aEh S (i:=0) rfl rfl)) ?_;clear H a;intro a H;refine aH H rfl rfl (fun _ S=>aR rfl rfl (by unfold i64ok;omega)) ?_;clear H a;intro a H;refine aH H rfl rfl (fun _ S=>aN dW rfl rfl) ?_;clear H a;intro a H;refine aM rfl ?_;refine aA H rfl rfl Tryz.func193 rfl rfl (gM (fwd (⟨rates,pwn,ptn,pag⟩:Part) l (i.toNat+1)).1 (fwd (⟨rates,pwn,ptn,pag⟩:Part) l (i.toNat+1)).2 _ _ _) ?_;clear H a;rintro _ _ a ⟨rfl,S2⟩ H;replace S:=S.call S2;clear S2;refine wpList_nil (And.intro (Or.inr (S.sel [0,1,2,3] rfl rfl)) ?_);refine aH H rfl rfl (fun _ S=>aL rfl) ?_;clear H a;intro a H;refine aH H rfl rfl (fun _ S=>aQ rfl rfl) ?_;clear H a;intro a H;refine aW H rfl rfl (fun _=>aQ rfl rfl) ?_;clear H a;intro a H;refine aH H rfl rfl (fun _ S=>bZ dH aS rfl rfl (aEj S (i:=2) rfl (by omega)) (by omega) (by omega)) ?_;clear H a;intro a H;refine aM rfl ?_;refine eE H S (i:=2) (kk:=i.toNat) rfl rfl rfl (by omega) aS ?_;clear H a S;intro _ a S H;have e9:=gQ (p:=(⟨rates,pwn,ptn,pag⟩:Part)) (l:=l) (k:=i.toNat) (by omega);have e8:i.toNat+1=(i+1).toNat:=by omega
     rw [e8] at e9
     replace S:=S.recell (i:=2) rfl (cell':=fcell (fun q=>if i-1<((q:Nat):Int) then cA (⟨rates,pwn,ptn,pag⟩:Part) l q else fwd (⟨rates,pwn,ptn,pag⟩:Part) l (q+1))) (fun q j hq hj=>by
       unfold fcell;congr 1;(try dsimp only);by_cases h1:q=i.toNat
       · subst h1;rw [if_pos rfl,if_pos (by omega),e9,e8]
       · rw [if_neg h1];by_cases h2:i<(q:Int)
         · rw [if_pos h2,if_pos (by omega)]
         · rw [if_neg h2,if_neg (by omega)])
     refine wpList_nil (And.intro (Or.inl rfl) ?_);refine bD ?_;refine k10 _ _ ?_;replace H:=H.keep [1,2,6,8] rfl;refine sO H<|sr 1 G<|sd (aR G G (by unfold i64ok;omega))<|sr 1 G<|sE ?_;clear H a;intro a H
     exact k7 (g1-1) (i-1) a _ (by omega) (⟨by omega,by omega,by omega⟩) (S.sel [2,3] G G) (H.keep [8,1,2,6] rfl)
    ·skip
     refine aJ H rfl S cB ?_;intro b9 _ a hb9 hbw9 S H
     refine wpList_nil (And.intro (Or.inr (S.sel [2,3] rfl rfl)) ?_);refine aM rfl ?_;refine aA H rfl rfl Tryz.func192 rfl rfl (gT rates pwn ptn pag RA rcp (l.getD (i+1).toNat aFi) _ (hr.now S) hrn hcls (by unfold i64ok;omega) (by unfold i64ok;omega)) ?_;clear H a;rintro _ _ a ⟨rfl,S2⟩ H;replace S:=S.call S2;clear S2;refine wpList_nil (And.intro (Or.inr (S.sel [2,3] rfl rfl)) ?_);refine aM rfl ?_;refine aE H S (i:=0) rfl rfl rfl rfl aS rfl rfl ?_;clear H a S;intro _ a S H;refine wpList_nil (And.intro (Or.inr (S.sel [2,3] rfl rfl)) ?_);refine aM rfl ?_;refine aE H S (i:=1) rfl rfl rfl rfl aS rfl rfl ?_;clear H a S;intro _ a S H;refine wpList_nil (And.intro (Or.inr (S.sel [2,3] rfl rfl)) ?_);refine bD ?_;refine k11 _ _ ?_;have hbw:=kJ hok (k:=(i+1).toNat) (by omega);replace H:=H.keep [1,2,6,8,9,10] rfl;replace S:=S.drew;refine one_wt 22 (.q 0 (.q 1 (.q 2 (.q 3 (.q 4 (.q 5 (.q 6 (.q 7 (.q 8 (.q 9 (.q 10 (.q 11 (.q 12 (.q 13 (.q 14 (.q 15 (.q 16 (.e 17 (.q 18 (.q 19 (.p 20 (.q 21 (.e 22 .nil))))))))))))))))))))))) (by kernel_rfl) (by kernel_rfl) (S.sel [0,1,2,3] rfl rfl) ?_;refine aH H rfl rfl (fun _ S=>aL rfl) ?_;clear H a;intro a H;refine aH H rfl rfl (fun _ S=>aL rfl) ?_;clear H a;intro a H;refine aH H rfl rfl (fun _ S=>aL rfl) ?_;clear H a;intro a H;refine aH H rfl rfl (fun _ S=>aL rfl) ?_;clear H a;intro a H;refine aH H rfl rfl (fun _ S=>bZ dH aS rfl rfl (aEj S (i:=2) rfl (by omega)) (by omega) (by omega)) ?_;clear H a;intro a H;refine aH H rfl rfl (fun _ S=>dA (vs:=[.int .i64 (fwd (⟨rates,pwn,ptn,pag⟩:Part) l (i.toNat+1)).1,.int .i64 (fwd (⟨rates,pwn,ptn,pag⟩:Part) l (i.toNat+1)).2]) bF aS rfl (mL S (i:=2) rfl (by omega) (if_neg (by omega)))) ?_;clear H a;intro a H;refine aH H rfl rfl (fun _ S=>(aC bJ rfl)) ?_;clear H a;intro a H;refine aH H rfl rfl (fun _ S=>aF aD rfl (aEh S (i:=1) rfl rfl)) ?_;clear H a;intro a H;refine aH H rfl rfl (fun _ S=>(aC bH rfl)) ?_;clear H a;intro a H;refine aH H rfl rfl (fun _ S=>aF aD rfl (aEh S (i:=0) rfl rfl)) ?_;clear H a;intro a H;refine aH H rfl rfl (fun _ S=>aR rfl rfl (by unfold i64ok;omega)) ?_;clear H a;intro a H;refine aH H rfl rfl (fun _ S=>(aC bH rfl)) ?_;clear H a;intro a H;refine aH H rfl rfl (fun _ S=>aF aD rfl (aEh S (i:=1) rfl rfl)) ?_;clear H a;intro a H;refine aH H rfl rfl (fun _ S=>(aC bJ rfl)) ?_;clear H a;intro a H;refine aH H rfl rfl (fun _ S=>aF aD rfl (aEh S (i:=0) rfl rfl)) ?_;clear H a;intro a H;refine aH H rfl rfl (fun _ S=>aR rfl rfl (by unfold i64ok;omega)) ?_;clear H a;intro a H;refine aH H rfl rfl (fun _ S=>aN dW rfl rfl) ?_;clear H a;intro a H;refine aM rfl ?_;refine aA H rfl rfl Tryz.func193 rfl rfl (gM (fwd (⟨rates,pwn,ptn,pag⟩:Part) l (i.toNat+1)).1 (fwd (⟨rates,pwn,ptn,pag⟩:Part) l (i.toNat+1)).2 _ _ _) ?_;clear H a;rintro _ _ a ⟨rfl,S2⟩ H;replace S:=S.call S2;clear S2;refine wpList_nil (And.intro (Or.inr (S.sel [0,1,2,3] rfl rfl)) ?_);refine aH H rfl rfl (fun _ S=>aL rfl) ?_;clear H a;intro a H;refine aH H rfl rfl (fun _ S=>aQ rfl rfl) ?_;clear H a;intro a H;refine aW H rfl rfl (fun _=>aQ rfl rfl) ?_;clear H a;intro a H;refine aH H rfl rfl (fun _ S=>bZ dH aS rfl rfl (aEj S (i:=2) rfl (by omega)) (by omega) (by omega)) ?_;clear H a;intro a H;refine aM rfl ?_;refine eE H S (i:=2) (kk:=i.toNat) rfl rfl rfl (by omega) aS ?_;clear H a S;intro _ a S H;have e9:=gQ (p:=(⟨rates,pwn,ptn,pag⟩:Part)) (l:=l) (k:=i.toNat) (by omega);have e8:i.toNat+1=(i+1).toNat:=by omega
     rw [e8] at e9
     replace S:=S.recell (i:=2) rfl (cell':=fcell (fun q=>if i-1<((q:Nat):Int) then cA (⟨rates,pwn,ptn,pag⟩:Part) l q else fwd (⟨rates,pwn,ptn,pag⟩:Part) l (q+1))) (fun q j hq hj=>by
       unfold fcell;congr 1;(try dsimp only);by_cases h1:q=i.toNat
       · subst h1;rw [if_pos rfl,if_pos (by omega),e9,e8]
       · rw [if_neg h1];by_cases h2:i<(q:Int)
         · rw [if_pos h2,if_pos (by omega)]
         · rw [if_neg h2,if_neg (by omega)])
     refine wpList_nil (And.intro (Or.inl rfl) ?_);refine bD ?_;refine k10 _ _ ?_;replace H:=H.keep [1,2,6,8] rfl;refine sO H<|sr 1 G<|sd (aR G G (by unfold i64ok;omega))<|sr 1 G<|sE ?_;intro a H
     exact k7 (g1-1) (i-1) a _ (by omega) (⟨by omega,by omega,by omega⟩) (S.sel [2,3] G G) (H.keep [8,1,2,6] rfl)
  refine wp_exit ?_;refine k5 _ _ ?_;refine sS H fun K24 k24=>sr 3 G<|sE ?_;intro a H
  refine k24 _ ?_;refine wp_ret ?_;refine ret2 (fn:=Tryz.f182) rfl H G G ?_;refine .inl ⟨hA,A',c',rfl,?_⟩;replace S:=S.recell (i:=0) rfl (cell':=fcell (cA (⟨rates,pwn,ptn,pag⟩:Part) l)) (fun q j hq hj=>by unfold fcell;congr 1;exact if_pos (by omega));exact (S.sel [0] G G)
 replace H:=H.keep [1,2] rfl;refine seq_list fun K25 k25=>?_
 refine ls 2 H<|sd ((aB fH iQ rfl S (i:=0) G G))<|sr 1 G<|sE ?_;intro a H
 refine aA H G G Tryz.func191 G G (tH rates pwn ptn pag RA rcp l A cp _ (hr.now S) hrn (hl.now S) hn hok) ?_;clear H a
 rintro _ _ a ⟨n,A',c',hn1,rfl,S2⟩ H;replace S:=S.call S2;clear S2;refine ls 5 H<|sr 5 G<|sE ?_;intro a H
 refine k25 _ _ ?_;refine wp_seq_k fun K26 k26=>?_
 try have hnl:=hn1.le
 replace H:=H.keep [1,2,6,7] rfl;refine sS H fun K27 k27=>sr 2 G<|sL dI rfl<|sr 1 G<|sE ?_;intro a H
 refine k27 _ ?_;refine condL H rfl (fun hc3=>?_) (fun hc3=>?_)
 ·skip
  refine sS H fun K28 k28=>sr 2 G<|sE ?_;intro a H
  refine k28 _ ?_;refine wp_ret ?_;refine ret2 (fn:=Tryz.f182) rfl H G G ?_;exact .inr ⟨hA,rfl,(S.sel [] G G)⟩
 exfalso
 have hnn:n=l.length:=by omega
 exact hA (hnn ▸ hn1)
end
section
theorem Tc {w:World} {p:Part} {l:List Use} {v:Value} {w':World} (hA:IsAt p l l.length) (h:Worn w p l v w'):∃ A' c',v = .tuple #[.slice A' l.length c',.bool true]∧St w noF [ownM 88 2 A' l.length c' (fcell (cA p l))] w':=by
 rcases h with ⟨_,h⟩|⟨h,_⟩
 ·exact h
 ·exact absurd hA h
theorem Xv {w:World} {p:Part} {l:List Use} {v:Value} {w':World} (hA:¬ IsAt p l l.length) (h:Worn w p l v w'):v = .tuple #[.slice none 0 0,.bool false]∧St w noF [] w':=by
 rcases h with ⟨h,_⟩|⟨_,h⟩
 ·exact absurd h hA
 ·exact h
end
section
theorem rG {n:Nat} {l:List Use}:∀ {k:Nat},fX n l k=true→0≤prevD l k:=by
  intro k;induction k with
  | zero=>intro _;exact Int.le_refl _
  | succ k ih=>
    intro h;unfold fX at h;rw [kT (n:=0),Bool.and_eq_true] at h;have h1:=ih h.1;have h2:=h.2;unfold useOk at h2;simp only [decide_eq_true_eq] at h2;show 0≤(l.getD k aFi).day;omega
def FwdR (w:World) (p:Part) (l:List Use) (v:Value) (w':World):Prop:=
 (atN p l=l.length∧∃ A' c',v = .tuple #[.slice A' l.length c',.int .i64 (-1)]∧St w noF [ownM 88 2 A' l.length c' (fcell fun q=>fwd p l (q+1))] w')∨(atN p l<l.length∧v = .tuple #[.slice none 0 0,.int .i64 (atN p l:Int)]∧St w noF [] w')
theorem Td {w:World} {p:Part} {l:List Use} {v:Value} {w':World} (hA:atN p l=l.length) (h:FwdR w p l v w'):∃ A' c',v = .tuple #[.slice A' l.length c',.int .i64 (-1)]∧St w noF [ownM 88 2 A' l.length c' (fcell fun q=>fwd p l (q+1))] w':=by
 rcases h with ⟨_,h⟩|⟨h,_⟩
 ·exact h
 ·omega
theorem Xw {w:World} {p:Part} {l:List Use} {v:Value} {w':World} (hA:atN p l<l.length) (h:FwdR w p l v w'):v = .tuple #[.slice none 0 0,.int .i64 (atN p l:Int)]∧St w noF [] w':=by
 rcases h with ⟨h,_⟩|⟨_,h⟩
 ·omega
 ·exact h
def WearR (w:World) (p:Part) (l:List Use) (v:Value) (w':World):Prop:=
 (wearE p l=0∧∃ A' c',v = .tuple #[.slice A' l.length c',.int .i64 0]∧St w noF [ownM 88 2 A' l.length c' (fcell (cA p l))] w')∨(wearE p l≠0∧v = .tuple #[.slice none 0 0,.int .i64 (wearE p l)]∧St w noF [] w')
theorem Mw {w:World} {p:Part} {l:List Use} {v:Value} {w':World} (hA:wearE p l=0) (h:WearR w p l v w'):∃ A' c',v = .tuple #[.slice A' l.length c',.int .i64 0]∧St w noF [ownM 88 2 A' l.length c' (fcell (cA p l))] w':=by
 rcases h with ⟨_,h⟩|⟨h,_⟩
 ·exact h
 ·exact absurd hA h
theorem Te {w:World} {p:Part} {l:List Use} {v:Value} {w':World} (hA:wearE p l≠0) (h:WearR w p l v w'):v = .tuple #[.slice none 0 0,.int .i64 (wearE p l)]∧St w noF [] w':=by
 rcases h with ⟨h,_⟩|⟨_,h⟩
 ·exact absurd h hA
 ·exact h
theorem oQ (rates:List (Int×Int)) (pwn ptn pag:Int) (RA:Option Addr) (rcp:Nat) (l:List Use) (A:Option Addr) (cp:Nat) (w:World) (hr:InS w noF 2 RA rates.length (scell rates)) (hrn:rates.length≤9223372036854775807) (hl:InS w noF 6 A l.length (ucell l)) (hn:l.length≤9223372036854775807) :
    Calls Tryz.prog 126 [.agg [.slice RA rates.length rcp,.int .i64 pwn,.int .i64 ptn,.int .i64 pag].toArray,.slice A l.length cp].toArray w (Ret (fun v w'=>v = .int .i64 (cK (⟨rates,pwn,ptn,pag⟩:Part) l)∧St w noF [] w')):=by
 refine enter Tryz.func126 rfl Tryz.ntmps126 rfl (fun a H=>?_)
 have S:=St.start w
 refine seq_list fun K1 k1=>?_
 refine aO H rfl S G G ?_;intro b2 _ a hb2 hbw2 S H
 refine ls 1 H<|sr 1 G<|sE ?_;intro a H
 refine k1 _ _ ?_;refine wp_seq_k fun K2 k2=>?_
 replace H:=H.keep [1,2] rfl
 refine sS H fun K3 k3=>sf fT rfl<|sl S 0 iW G G G<|sL dH rfl<|sc rfl Tryz.func158 G G (iI _ _ _ _)<|sr 2 G<|sg 4 5 13 17 false G G (fun hg6=>by
     have hq6:=hg6;try simp only [oz] at hq6
     exact sy hg6<|sf zP rfl<|sy hg6<|sl S 0 aD G G G<|sy hg6<|sc rfl Tryz.func158 G G (iI _ _ _ _)<|sy hg6<|sr 1 G<|sz 4 G G G)<|so G G G<|sr 1 G<|sg 4 11 19 23 false G G (fun hg12=>by
     have hq12:=hg12;try simp only [oz] at hq12
     exact sy hg12<|sf pZ rfl<|sy hg12<|sl S 0 aD G G G<|sy hg12<|sc rfl Tryz.func158 G G (iI _ _ _ _)<|sy hg12<|sr 1 G<|sz 4 G G G)<|so G G G<|sr 1 G<|sg 4 17 25 29 false G G (fun hg18=>by
     have hq18:=hg18;try simp only [oz] at hq18
     exact sy hg18<|sf tS rfl<|sy hg18<|sl S 0 aD G G G<|sy hg18<|sc rfl Tryz.func158 G G (iI _ _ _ _)<|sy hg18<|sr 1 G<|sz 4 G G G)<|so G G G<|sE ?_;intro a H
 refine k3 _ ?_;refine cond_ H rfl (fun hc1=>?_) (fun hc1=>?_)
 ·skip
  try simp only [oz] at hc1
  replace H:=H.keep [] rfl;refine sS H fun K4 k4=>sr 1 G<|sE ?_;intro a H
  refine k4 _ ?_;refine wp_ret ?_;refine ret1 (fn:=Tryz.f126) rfl H rfl ?_;refine ⟨?_,(S.sel [] G G)⟩;unfold cK;rw [if_neg (by unfold fV;simp only [decide_eq_true_eq];omega)]
 try simp only [oz] at hc1
 refine wp_skip ?_;refine k2 _ _ ?_;refine wp_seq_k fun K5 k5=>?_
 have hhd:fV (⟨rates,pwn,ptn,pag⟩:Part)=true:=by unfold fV;simp only [decide_eq_true_eq];omega
 refine sS H fun K6 k6=>sr 1 G<|sE ?_;intro a H
 refine k6 _ ?_;refine wp_block ?_;refine loop_st (X:=Nat) (R0:=_) [1,2] H rfl (fun k=>[(5,.int .i64 (k:Int))]) (fun k=>[]) (fun g k=>k≤rates.length∧g+k=rates.length∧(rates.take k).all jE=true) (rates.length) 0 ?_ (S.sel [0] G G) (H.keep [5,1,2] rfl) ?_
 · exact ⟨by omega,by omega,by simp⟩
 clear H S a;intro g1 x1 a w1 hp S H K7 k7;obtain ⟨k,rfl⟩:∃ y,y=x1:=⟨_,rfl⟩;refine wp_seq_k fun K8 k8=>?_
 refine sS H fun K9 k9=>sr 1 G<|sf fT rfl<|sl S 0 iW G G G<|sL dH rfl<|sr 1 G<|sE ?_;intro a H
 refine k9 _ ?_;refine condL H rfl (fun hc2=>?_) (fun hc2=>?_)
 ·skip
  refine wp_skip ?_;refine k8 _ _ ?_;refine wp_seq_k fun K10 k10=>?_
  refine wp_block ?_;replace H:=H.keep [1,2,5] rfl;replace S:=S.drew
  refine sD H fun K11 k11=>sf fT rfl<|sl S 0 iW G G G<|sr 1 G<|si dH aS G G (hr.adr (by omega)) (by omega)<|sp bJ rfl<|slm aD rfl (hr.rd S (by omega) (by omega))<|sf fT rfl<|sl S 0 iW G G G<|sr 1 G<|si dH aS G G (hr.adr (by omega)) (by omega)<|sp bH rfl<|slm aD rfl (hr.rd S (by omega) (by omega))<|sc rfl Tryz.func158 G G (iI _ _ _ _)<|sr 2 G<|sg 7 14 52 59 false G G (fun hg15=>by
      have hq15:=hg15;try simp only [oz] at hq15
      exact sy hg15<|sf fT rfl<|sy hg15<|sl S 0 iW G G G<|sy hg15<|sr 1 G<|sy hg15<|si dH aS G G (hr.adr (by omega)) (by omega)<|sy hg15<|sp bH rfl<|sy hg15<|slm aD rfl (hr.rd S (by omega) (by omega))<|sy hg15<|sr 1 G<|sz 7 G G G)<|so G G G<|sE ?_;intro a H
  refine k11 _ ?_;refine cond_ H rfl (fun hc3=>?_) (fun hc3=>?_)
  ·skip
   try simp only [oz] at hc3
   replace H:=H.keep [] rfl;refine sS H fun K12 k12=>sr 1 G<|sE ?_;intro a H
   refine k12 _ ?_;refine wp_ret ?_;refine ret1 (fn:=Tryz.f126) rfl H rfl ?_;refine ⟨?_,(S.sel [] G G)⟩;unfold cK;rw [if_pos hhd];(try dsimp only);rw [sH (k:=k) (d:=(0,0)) (by omega) (by unfold jE;simp only [decide_eq_false_iff_not];omega)];rfl
  try simp only [oz] at hc3
  refine wp_skip ?_;refine k10 _ _ ?_;refine sO H<|sr 1 G<|sd (aI G G (by unfold i64ok;omega))<|sr 1 G<|sE ?_;intro a H
  exact k7 (g1-1) (k+1) a _ (by omega) (⟨by omega,by omega,wE (d:=(0,0)) (by omega) hp.2.2 (by unfold jE;simp only [decide_eq_true_eq];omega)⟩) (S.sel [0] G G) (H.keep [5,1,2] rfl)
 refine wp_exit ?_;refine k5 _ _ ?_;refine wp_seq_k fun K14 k14=>?_
 have hrt:rates.all jE=true:=by have h9:=hp.2.2;rw [List.take_of_length_le (by omega)] at h9;exact h9
 refine sS H fun K15 k15=>sr 1 G<|sL dI rfl<|sr 1 G<|sE ?_;intro a H
 refine k15 _ ?_;refine condL H rfl (fun hc4=>?_) (fun hc4=>?_)
 ·skip
  refine sS H fun K16 k16=>sr 1 G<|sE ?_;intro a H
  refine k16 _ ?_;refine wp_ret ?_;refine ret1 (fn:=Tryz.f126) rfl H rfl ?_;refine ⟨?_,(S.sel [] G G)⟩;unfold cK;rw [if_pos hhd,if_pos hrt,if_neg (by omega)]
 refine wp_skip ?_;refine k14 _ _ ?_;refine wp_seq_k fun K17 k17=>?_
 refine sS H fun K18 k18=>sr 1 G<|sE ?_;intro a H
 refine k18 _ ?_;refine wp_block ?_;refine loop_st (X:=Nat) (R0:=_) [1,2] H rfl (fun j=>[(6,.int .i64 (j:Int))]) (fun j=>[]) (fun g j=>j≤l.length∧g+j=l.length∧fX rates.length l j=true) (l.length) 0 ?_ (S.sel [0] G G) (H.keep [6,1,2] rfl) ?_
 · exact ⟨by omega,by omega,rfl⟩
 clear H S a;intro g2 x2 a w2 hp S H K19 k19;obtain ⟨j,rfl⟩:∃ y,y=x2:=⟨_,rfl⟩;refine wp_seq_k fun K20 k20=>?_
 refine sS H fun K21 k21=>sr 2 G<|sL dI rfl<|sr 1 G<|sE ?_;intro a H
 refine k21 _ ?_;refine condL H rfl (fun hc5=>?_) (fun hc5=>?_)
 ·skip
  refine wp_skip ?_;refine k20 _ _ ?_;refine wp_seq_k fun K22 k22=>?_
  refine wp_block ?_;replace H:=H.keep [1,2,6] rfl;refine seq_list fun K23 k23=>?_
  refine ls 4 H<|sr 2 G<|si dI cY G G (hl.adr (by omega)) (by omega)<|sd ((aU kY cY rfl S hl (by omega) (by omega)))<|sE ?_;intro a H
  refine aJ H rfl S lH ?_;intro b7 _ a hb7 hbw7 S H
  refine aE H S (i:=0) G G G G cY G G ?_
  clear H a S;intro _ a S H;refine k23 _ _ ?_;refine wp_seq_k fun K24 k24=>?_
  have hpd:prevD l j=if 0<j then (l.getD (j-1) aFi).day else 0:=by cases j with|zero=>rfl|succ q=>rfl
  have hj9:((j:Int)-1).toNat=j-1:=by omega
  have hpn:=rG hp.2.2
  replace H:=H.keep [1,2,6,7] rfl;replace S:=S.drew
  refine sD H fun K25 k25=>sf iE rfl<|sl S 0 aD G G G<|sc rfl Tryz.func158 G G (iI _ _ _ _)<|sr 2 G<|sg 13 4 78 91 false G G (fun hg5=>by
      have hq5:=hg5;try simp only [oz] at hq5
      exact sy hg5<|sr 1 G<|sy hg5<|sr 1 G<|sy hg5<|sr 1 G<|sg 9 7 81 90 true G G (fun hg8=>by
           have hq8:=hg8;try simp only [oz] at hq8
           exact sy hg8<|sf iE rfl<|sy hg8<|sl S 0 aD G G G<|sy hg8<|sr 1 G<|sy hg8<|sr 1 G<|sy hg8<|sd (aR G G (by unfold i64ok;omega))<|sy hg8<|sI dI cY G G (hl.adr (by omega)) (by omega) (by omega)<|sy hg8<|sp iE rfl<|sy hg8<|slm aD rfl (hl.rd S (by omega) (by omega))<|sy hg8<|sr 1 G<|sz 9 G G G)<|sy hg5<|sa G G G<|sz 5 G G G)<|so G G G<|sr 1 G<|sg 4 19 93 97 false G G (fun hg20=>by
      have hq20:=hg20;try simp only [oz] at hq20
      exact sy hg20<|sf kO rfl<|sy hg20<|sl S 0 aD G G G<|sy hg20<|sc rfl Tryz.func158 G G (iI _ _ _ _)<|sy hg20<|sr 1 G<|sz 4 G G G)<|so G G G<|sr 1 G<|sg 8 25 99 107 false G G (fun hg26=>by
      have hq26:=hg26;try simp only [oz] at hq26
      exact sy hg26<|sf qH rfl<|sy hg26<|sl S 0 aD G G G<|sy hg26<|sf fT rfl<|sy hg26<|sl S 1 iW G G G<|sy hg26<|sL dH rfl<|sy hg26<|sd (aR G G (by unfold i64ok;omega))<|sy hg26<|sc rfl Tryz.func158 G G (iI _ _ _ _)<|sy hg26<|sr 1 G<|sz 8 G G G)<|so G G G<|sE ?_;intro a H
  refine k25 _ ?_;refine cond_ H rfl (fun hc6=>?_) (fun hc6=>?_)
  ·skip
   try simp only [oz] at hc6
   rw [hj9] at hc6;replace H:=H.keep [] rfl;refine sS H fun K26 k26=>sr 1 G<|sE ?_;intro a H
   refine k26 _ ?_;refine wp_ret ?_;refine ret1 (fn:=Tryz.f126) rfl H rfl ?_;refine ⟨?_,(S.sel [] G G)⟩;unfold cK;rw [if_pos hhd,if_pos hrt,if_pos (by omega)];unfold fX;rw [gG (k:=j) (by omega) (by unfold useOk;simp only [decide_eq_false_iff_not];rw [hpd];omega)];rfl
  try simp only [oz] at hc6
  rw [hj9] at hc6;refine wp_skip ?_;refine k24 _ _ ?_;replace H:=H.keep [1,2,6,7] rfl
  refine sS H fun K27 k27=>sf nG rfl<|sl S 0 iP G G G<|sr 1 G<|sg 14 2 111 125 true G G (fun hg3=>by
      have hq3:=hg3;try simp only [oz] at hq3
      exact sy hg3<|sf fB rfl<|sy hg3<|sf bJ rfl<|sy hg3<|sl S 0 aD G G G<|sy hg3<|sf fB rfl<|sy hg3<|sf bH rfl<|sy hg3<|sl S 0 aD G G G<|sy hg3<|sc rfl Tryz.func158 G G (iI _ _ _ _)<|sy hg3<|sr 1 G<|sy hg3<|sr 1 G<|sg 4 11 120 124 false G G (fun hg12=>by
           have hq12:=hg12;try simp only [oz] at hq12
           exact sy hg12<|sf fB rfl<|sy hg12<|sf bH rfl<|sy hg12<|sl S 0 aD G G G<|sy hg12<|sr 1 G<|sz 4 G G G)<|sy hg3<|so G G G<|sz 11 G G G)<|sa G G G<|sr 1 G<|sg 9 18 127 136 false G G (fun hg19=>by
      have hq19:=hg19;try simp only [oz] at hq19
      exact sy hg19<|sf nG rfl<|sy hg19<|sl S 0 iP G G G<|sy hg19<|sr 1 G<|sy hg19<|sr 1 G<|sg 4 22 131 135 true G G (fun hg23=>by
           have hq23:=hg23;try simp only [oz] at hq23
           exact sy hg23<|sf fB rfl<|sy hg23<|sd ((aB bF aS rfl S (i:=0) G G))<|sy hg23<|sd (aN dW G G)<|sy hg23<|sd (oP G G)<|sz 4 G G G)<|sy hg19<|sa G G G<|sz 6 G G G)<|so G G G<|sE ?_;intro a H
  refine k27 _ ?_;refine cond_ H rfl (fun hc7=>?_) (fun hc7=>?_)
  ·skip
   try simp only [oz] at hc7
   replace H:=H.keep [] rfl;refine sS H fun K28 k28=>sr 1 G<|sE ?_;intro a H
   refine k28 _ ?_;refine wp_ret ?_;refine ret1 (fn:=Tryz.f126) rfl H rfl ?_;refine ⟨?_,(S.sel [] rfl rfl)⟩;unfold cK;rw [if_pos hhd,if_pos hrt,if_pos (by omega)];unfold fX;rw [gG (k:=j) (by omega) (by unfold useOk;simp only [decide_eq_false_iff_not];generalize l.getD j aFi=u at hc6 hc7 ⊢;rintro ⟨_,_,_,_,hm⟩;cases hq:u.meas <;> simp [hq] at hc7 hm <;> omega)];rfl
  try simp only [oz] at hc7
  refine wp_skip ?_;refine k22 _ _ ?_;refine sO H<|sr 1 G<|sd (aI G G (by unfold i64ok;omega))<|sr 1 G<|sE ?_;intro a H
  exact k19 (g2-1) (j+1) a _ (by omega) (⟨by omega,by omega,by unfold fX;rw [kT (n:=0)];have h9:=hp.2.2;unfold fX at h9;rw [h9];simp only [Bool.true_and];unfold useOk;simp only [decide_eq_true_eq];rw [hpd] at hpn ⊢;generalize (l.getD (j-1) aFi).day=pd at hc6 hpn ⊢;generalize l.getD j aFi=u at hc6 hc7 ⊢;cases hq:u.meas <;> simp [hq] at hc7 ⊢ <;> omega⟩) (S.sel [1] G G) (H.keep [6,1,2] rfl)
 refine wp_exit ?_;refine k17 _ _ ?_;refine sS H fun K30 k30=>sr 1 G<|sE ?_;intro a H
 refine k30 _ ?_;refine wp_ret ?_;refine ret1 (fn:=Tryz.f126) rfl H rfl ?_;refine ⟨?_,(S.sel [] G G)⟩;have hj9:j=l.length:=by omega
 unfold cK;rw [if_pos hhd,if_pos hrt,if_pos (by omega)];rw [hj9] at hp;dsimp only;rw [if_pos hp.2.2]
theorem Mx (rates:List (Int×Int)) (pwn ptn pag:Int) (RA:Option Addr) (rcp:Nat) (s1 s2:Int) (u:Use) (w:World) (hr:InS w noF 2 RA rates.length (scell rates)) (hrn:rates.length≤9223372036854775807) (hcl:0≤u.cls∧u.cls<rates.length) (hg1:i64ok (cZ (⟨rates,pwn,ptn,pag⟩:Part) u).1) (hg2:i64ok (cZ (⟨rates,pwn,ptn,pag⟩:Part) u).2) (hg3:i64ok (s1+(cZ (⟨rates,pwn,ptn,pag⟩:Part) u).1)) (hg4:i64ok (s2+(cZ (⟨rates,pwn,ptn,pag⟩:Part) u).2)) :
    Calls Tryz.prog 184 [.agg [.slice RA rates.length rcp,.int .i64 pwn,.int .i64 ptn,.int .i64 pag].toArray,.agg [.int .i64 s1,.int .i64 s2].toArray,.agg [.int .i64 u.day,.int .i64 u.turns,.int .i64 u.cls,.bool u.meas,.int .i64 u.lo,.int .i64 u.hi].toArray].toArray w (Ret (fun v w'=>v = .agg [.int .i64 (fstep (⟨rates,pwn,ptn,pag⟩:Part) (s1,s2) u).1,.int .i64 (fstep (⟨rates,pwn,ptn,pag⟩:Part) (s1,s2) u).2].toArray∧St w noF [] w')):=by
 refine enter Tryz.func184 rfl Tryz.ntmps184 rfl (fun a H=>?_)
 have S:=St.start w
 refine seq_list fun K1 k1=>?_
 refine aO H rfl S G G ?_;intro b3 _ a hb3 hbw3 S H
 refine aO H rfl S G G ?_;intro b4 _ a hb4 hbw4 S H
 refine aO H rfl S G G ?_;intro b5 _ a hb5 hbw5 S H
 refine aJ H rfl S cB ?_;intro b6 _ a hb6 hbw6 S H
 refine k1 _ _ ?_;replace H:=H.keep [3,4,5,6] rfl;refine seq_list fun K2 k2=>?_
 refine ls 6 H<|sf fT rfl<|sl S 3 iW G G G<|sf qH rfl<|sl S 1 aD G G G<|sI dH aS G G (hr.adr (by omega)) (by omega) (by omega)<|sd ((aU bF aS rfl S hr (by omega) (by omega)))<|sE ?_;intro a H
 refine aJ H rfl S cB ?_;intro b7 _ a hb7 hbw7 S H
 refine aE H S (i:=0) G G G G aS G G ?_
 clear H a S;intro _ a S H;refine k2 _ _ ?_;replace H:=H.keep [4,5,6,7] rfl;refine seq_list fun K3 k3=>?_
 refine ls 17 H<|sf bJ rfl<|sl S 3 aD G G G<|sf kO rfl<|sl S 2 aD G G G<|sf bJ rfl<|sl S 0 aD G G G<|sd (fY G G (by exact hg1))<|sd (aI G G (by exact hg3))<|sf bH rfl<|sl S 3 aD G G G<|sf kO rfl<|sl S 2 aD G G G<|sf bH rfl<|sl S 0 aD G G G<|sd (fY G G (by exact hg2))<|sd (aI G G (by exact hg4))<|sd (aN dW G G)<|sE ?_;intro a H
 refine aJ H rfl S cB ?_;intro b8 _ a hb8 hbw8 S H
 refine aE H S (i:=0) G G G G aS G G ?_
 clear H a S;intro _ a S H;refine k3 _ _ ?_;have SR:=(S.sel [1,2,3,4,5] G G);refine meet_sr (X:=Unit) [6,8] H rfl (fun x=>[]) (fun x=>[boxM b8 88 [.int .i64 (fstep (⟨rates,pwn,ptn,pag⟩:Part) (s1,s2) u).1,.int .i64 (fstep (⟨rates,pwn,ptn,pag⟩:Part) (s1,s2) u).2]]) (fun x=>True) SR (fun K5 k5=>?_) ?_
 ·skip
  replace H:=H.keep [5,6,8] rfl;refine sS H fun K6 k6=>sf nG rfl<|sl S 3 iP G G G<|sE ?_;intro a H
  refine k6 _ ?_;refine cond_ H rfl (fun hc1=>?_) (fun hc1=>?_)
  ·skip
   try simp only [oz] at hc1
   replace H:=H.keep [5,6,8] rfl;refine one_list ?_;refine ls 13 H<|sf bJ rfl<|sl S 0 aD G G G<|sf fB rfl<|sf bJ rfl<|sl S 3 aD G G G<|sd (lK G G)<|sf bH rfl<|sl S 0 aD G G G<|sf fB rfl<|sf bH rfl<|sl S 3 aD G G G<|sd (uF G G)<|sd (aN dW G G)<|sE ?_;intro a H
   refine aE H S (i:=0) G G G G aS G G ?_
   clear H a S;intro _ a S H;have e9:fstep (⟨rates,pwn,ptn,pag⟩:Part) (s1,s2) u=meetS (addS (s1,s2) (cZ (⟨rates,pwn,ptn,pag⟩:Part) u)) (u.lo,u.hi):=by unfold fstep;rw [if_pos hc1]
   replace S:=aEl S (i:=0) (cs':=[.int .i64 (fstep (⟨rates,pwn,ptn,pag⟩:Part) (s1,s2) u).1,.int .i64 (fstep (⟨rates,pwn,ptn,pag⟩:Part) (s1,s2) u).2]) rfl (by rw [e9];rfl);exact k5 () a _ (trivial) (S.sel [0,1,2,3,4,5] G G) (H.keep [6,8] rfl)
  try simp only [oz] at hc1
  refine wp_skip ?_;have e9:fstep (⟨rates,pwn,ptn,pag⟩:Part) (s1,s2) u=addS (s1,s2) (cZ (⟨rates,pwn,ptn,pag⟩:Part) u):=by unfold fstep;rw [if_neg (by rw [hc1];simp)]
  replace S:=aEl S (i:=0) (cs':=[.int .i64 (fstep (⟨rates,pwn,ptn,pag⟩:Part) (s1,s2) u).1,.int .i64 (fstep (⟨rates,pwn,ptn,pag⟩:Part) (s1,s2) u).2]) rfl (by rw [e9];rfl);exact k5 () a _ (trivial) (S.sel [0,1,2,3,4,5] G G) (H.keep [6,8] rfl)
 clear SR H S a;intro xm a wm hp S H;obtain ⟨x,rfl⟩:∃ y,y=xm:=⟨_,rfl⟩;replace H:=H.keep [6,8] rfl;refine seq_list fun K8 k8=>?_
 refine ls 1 H<|sd ((aB bF aS rfl S (i:=0) G G))<|sE ?_;intro a H
 refine aE H S (i:=2) G G G G aS G G ?_
 clear H a S;intro _ a S H;refine k8 _ _ ?_;refine wp_ret ?_;refine retA (fn:=Tryz.f184) rfl H rfl bF (by exact aS) (dN S (i:=2) rfl) ?_;exact ⟨rfl,(S.sel [] G G)⟩
theorem tI (rates:List (Int×Int)) (pwn ptn pag:Int) (RA:Option Addr) (rcp:Nat) (l:List Use) (A:Option Addr) (cp:Nat) (w:World) (hr:InS w noF 2 RA rates.length (scell rates)) (hrn:rates.length≤9223372036854775807) (hl:InS w noF 6 A l.length (ucell l)) (hn:l.length≤9223372036854775807) (hok:PartOk (⟨rates,pwn,ptn,pag⟩:Part) l) :
    Calls Tryz.prog 159 [.agg [.slice RA rates.length rcp,.int .i64 pwn,.int .i64 ptn,.int .i64 pag].toArray,.slice A l.length cp].toArray w (Ret (FwdR w (⟨rates,pwn,ptn,pag⟩:Part) l)):=by
 refine enter Tryz.func159 rfl Tryz.ntmps159 rfl (fun a H=>?_)
 have S:=St.start w
 refine seq_list fun K1 k1=>?_
 refine aO H rfl S G G ?_;intro b2 _ a hb2 hbw2 S H
 refine ls 2 H<|sr 2 G<|sE ?_;clear H a;intro a H
 refine k1 _ _ ?_;refine sS H fun K2 k2=>sr 1 G<|sE ?_;clear H a;intro a H
 refine k2 _ ?_;refine seq_list fun K3 k3=>?_
 refine ls 1 H<|sd (aN dW G G)<|sE ?_;clear H a;intro a H
 refine aJ H rfl S cB ?_;intro b7 _ a hb7 hbw7 S H
 refine aE H S (i:=0) G G G G aS G G ?_
 clear H a S;intro _ a S H;refine k3 _ _ ?_;refine wp_seq_k fun K4 k4=>?_
 refine sS H fun K5 k5=>sr 1 G<|sE ?_;clear H a;intro a H
 refine k5 _ ?_;refine wp_block ?_;replace S:=S.newNil 88 2 (fcell (fun q=>fwd (⟨rates,pwn,ptn,pag⟩:Part) l (q+1)));refine loop_st (X:=Nat×Option Addr×Nat) (R0:=_) [1,2,7] H rfl (fun ⟨k,A',c'⟩=>[(6,.slice A' k c'),(8,.int .i64 (k:Int))]) (fun ⟨k,A',c'⟩=>[boxM b7 88 [.int .i64 (fwd (⟨rates,pwn,ptn,pag⟩:Part) l k).1,.int .i64 (fwd (⟨rates,pwn,ptn,pag⟩:Part) l k).2],ownM 88 2 A' k c' (fcell (fun q=>fwd (⟨rates,pwn,ptn,pag⟩:Part) l (q+1)))]) (fun g ⟨k,A',c'⟩=>k≤l.length∧g+k=l.length∧∀ q,q<k→fits (⟨rates,pwn,ptn,pag⟩:Part) l q) (l.length) (0,none,0) ?_ (S.sel [1,0,2] G G) (H.keep [6,8,1,2,7] rfl) ?_
 · exact ⟨by omega,by omega,fun q hq=>by omega⟩
 clear H S a;intro g1 x1 a w1 hp S H K6 k6;obtain ⟨k,A',c'⟩:=x1;dsimp only at hp S H;refine wp_seq_k fun K7 k7=>?_
 refine sS H fun K8 k8=>sr 2 G<|sL dI rfl<|sr 1 G<|sE ?_;clear H a;intro a H
 refine k8 _ ?_;refine condL H rfl (fun hc1=>?_) (fun hc1=>?_)
 ·skip
  refine wp_skip ?_;refine k7 _ _ ?_;refine wp_seq_k fun K9 k9=>?_
  refine wp_block ?_;have hu:=hok.use (k:=k) (by omega);unfold useOk at hu;simp only [decide_eq_true_eq] at hu;have hgb:=nP hok (k:=k) (by omega)
  have hcls:0≤(l.getD k aFi).cls∧(l.getD k aFi).cls<rates.length:=by
    have:((⟨rates,pwn,ptn,pag⟩:Part).rates.length:Int)=rates.length:=rfl
    omega
  have hll:=hok.len
  have hfb:=As hok k (by omega)
  replace H:=H.keep [1,2,6,7,8] rfl;refine mS 6 (by kernel_rfl) (by kernel_rfl) fun K10 k10=>?_
  replace S:=S.drew;refine sF H<|sd ((aB fH iQ rfl S (i:=2) G G))<|sd ((aB bF aS rfl S (i:=0) G G))<|sr 2 G<|si dI cY G G (hl.adr (by omega)) (by omega)<|sd ((aU kY cY rfl S hl (by omega) (by omega)))<|sE ?_;clear H a;intro a H
  refine aA H G G Tryz.func184 G G (Mx rates pwn ptn pag RA rcp (fwd (⟨rates,pwn,ptn,pag⟩:Part) l k).1 (fwd (⟨rates,pwn,ptn,pag⟩:Part) l k).2 (l.getD k aFi) _ (hr.now S) hrn hcls (by unfold i64ok;omega) (by unfold i64ok;omega) (by unfold i64ok;omega) (by unfold i64ok;omega)) ?_;clear H a
  rintro _ _ a ⟨rfl,S2⟩ H;replace S:=S.call S2;clear S2;refine aE H S (i:=0) rfl rfl rfl rfl aS rfl rfl ?_;clear H a S;intro _ a S H;refine k10 _ _ ?_;refine wp_seq_k fun K11 k11=>?_
  replace H:=H.keep [1,2,6,7,8] rfl;refine sS H fun K12 k12=>sf bJ rfl<|sl S 0 aD G G G<|sf bH rfl<|sl S 0 aD G G G<|sr 1 G<|sE ?_;clear H a;intro a H
  refine k12 _ ?_;refine condL H rfl (fun hc2=>?_) (fun hc2=>?_)
  ·skip
   replace hc2:(fwd (⟨rates,pwn,ptn,pag⟩:Part) l (k+1)).2<(fwd (⟨rates,pwn,ptn,pag⟩:Part) l (k+1)).1:=hc2;refine sS H fun K13 k13=>sr 3 G<|sE ?_;clear H a;intro a H
   refine k13 _ ?_;refine wp_ret ?_;refine ret2 (fn:=Tryz.f159) rfl H G G ?_;have e9:atN (⟨rates,pwn,ptn,pag⟩:Part) l=k:=Az ⟨by omega,hp.2.2,fun _ hf=>absurd ((Df hok (by omega) hp.2.2).1 hf) (Int.not_le.2 hc2)⟩;exact .inr ⟨by omega,by rw [e9],(S.sel [] G G)⟩
  replace hc2:(fwd (⟨rates,pwn,ptn,pag⟩:Part) l (k+1)).1≤(fwd (⟨rates,pwn,ptn,pag⟩:Part) l (k+1)).2:=hc2;refine wp_skip ?_;refine k11 _ _ ?_;replace H:=H.keep [1,2,6,7,8] rfl;refine one_list ?_;refine ls 2 H<|sr 1 G<|sd ((aB bF aS rfl S (i:=0) G G))<|sE ?_;clear H a;intro a H
  refine aY H rfl S dH aS cB G G G G G G G G G ?_;intro A1 _ a hA1 S H
  refine bM H rfl S dH aS cB Ov G G (i:=2) G G G (aEi S (i:=0) rfl) (jA (two G G)) (by omega) (by omega) ?_;intro A2 c2 _ a S H
  replace S:=S.recell (i:=2) rfl (cell':=fcell (fun q=>fwd (⟨rates,pwn,ptn,pag⟩:Part) l (q+1))) (vL (two G G));refine ls 1 H<|sr 1 G<|sE ?_;clear H a;intro a H
  refine k9 _ _ ?_;refine sO H<|sr 1 G<|sd (aI G G (by unfold i64ok;omega))<|sr 1 G<|sE ?_;clear H a;intro a H
  exact k6 (g1-1) (k+1,_,_) a _ (by omega) (⟨by omega,by omega,fun q hq=>by
    by_cases h:q=k
    · subst h;exact (Df hok (by omega) hp.2.2).2 hc2
    · exact hp.2.2 q (by omega)⟩) (S.sel [1,2,3] G G) (H.keep [6,8,1,2,7] rfl)
 refine wp_exit ?_;refine k4 _ _ ?_;replace H:=H.keep [6] rfl;refine sS H fun K16 k16=>sr 3 G<|sE ?_;clear H a;intro a H
 refine k16 _ ?_;refine wp_ret ?_;refine ret2 (fn:=Tryz.f159) rfl H G G ?_;have hk9:k=l.length:=by omega
 subst hk9;exact .inl ⟨Az ⟨Nat.le_refl _,hp.2.2,fun h=>absurd h (Nat.lt_irrefl _)⟩,A',c',rfl,(S.sel [1] G G)⟩
end
section
theorem pK (rates:List (Int×Int)) (pwn ptn pag:Int) (RA:Option Addr) (rcp:Nat) (l:List Use) (A:Option Addr) (cp:Nat) (w:World) (hr:InS w noF 2 RA rates.length (scell rates)) (hrn:rates.length≤9223372036854775807) (hl:InS w noF 6 A l.length (ucell l)) (hn:l.length≤9223372036854775807) :
    Calls Tryz.prog 156 [.agg [.slice RA rates.length rcp,.int .i64 pwn,.int .i64 ptn,.int .i64 pag].toArray,.slice A l.length cp].toArray w (Ret (WearR w (⟨rates,pwn,ptn,pag⟩:Part) l)):=by
 refine enter Tryz.func156 rfl Tryz.ntmps156 rfl (fun a H=>?_)
 have S:=St.start w
 refine seq_list fun K1 k1=>?_
 refine aO H rfl S G G ?_;clear H a S;intro b2 _ a hb2 hbw2 S H
 refine ls 2 H<|sr 2 G<|sE ?_;clear H a;intro a H
 refine k1 _ _ ?_;refine wp_seq_k fun K2 k2=>?_
 refine seq_list fun K3 k3=>?_
 refine ls 2 H<|sd ((aB fH iQ rfl S (i:=0) G G))<|sr 1 G<|sE ?_;clear H a;intro a H
 refine aA H G G Tryz.func181 G G (tK rates pwn ptn pag RA rcp l A cp _ (hr.now S) hrn (hl.now S) hn) ?_;clear H a
 rintro _ _ a ⟨rfl,S2⟩ H;replace S:=S.call S2;clear S2;refine ls 1 H<|sr 1 G<|sE ?_;clear H a;intro a H
 refine k3 _ _ ?_;refine sS H fun K4 k4=>sr 2 G<|sE ?_;clear H a;intro a H
 refine k4 _ ?_;refine condN H rfl (fun hc1=>?_) (fun hc1=>?_)
 ·skip
  replace H:=H.keep [6] rfl;refine sS H fun K5 k5=>sr 3 G<|sE ?_;clear H a;intro a H
  refine k5 _ ?_;refine wp_ret ?_;refine ret2 (fn:=Tryz.f156) rfl H G G ?_;have e9:=Lw (p:=(⟨rates,pwn,ptn,pag⟩:Part)) (l:=l) (by omega);exact .inr ⟨by omega,by rw [e9],(S.sel [] G G)⟩
 refine wp_skip ?_;refine k2 _ _ ?_;have h0:cK (⟨rates,pwn,ptn,pag⟩:Part) l=0:=by omega
 have hok:=oI h0
 by_cases hA:IsAt (⟨rates,pwn,ptn,pag⟩:Part) l l.length
 ·skip
  replace H:=H.keep [1,2] rfl;refine seq_list fun K6 k6=>?_
  refine ls 2 H<|sd ((aB fH iQ rfl S (i:=0) G G))<|sr 1 G<|sE ?_;clear H a;intro a H
  refine aA H G G Tryz.func182 G G (eY (wY rates pwn ptn pag RA rcp l A cp _ (hr.now S) hrn (hl.now S) hn hok) (fun _ _=>Tc hA)) ?_;clear H a
  rintro _ _ a ⟨A',c',rfl,S2⟩ H;replace S:=S.call S2;clear S2;refine ls 5 H<|sr 5 G<|sE ?_;clear H a;intro a H
  refine k6 _ _ ?_;refine wp_seq_k fun K7 k7=>?_
  replace H:=H.keep [7,8] rfl;refine sS H fun K8 k8=>sr 2 G<|sE ?_;clear H a;intro a H
  refine k8 _ ?_;refine cond_ H rfl (fun hc2=>?_) (fun hc2=>?_)
  ·skip
   skip
   cases hc2
  skip
  refine wp_skip ?_;refine k7 _ _ ?_;refine sS H fun K9 k9=>sr 3 G<|sE ?_;clear H a;intro a H
  refine k9 _ ?_;refine wp_ret ?_;refine ret2 (fn:=Tryz.f156) rfl H G G ?_;exact .inl ⟨wJ h0 hA,A',c',rfl,(S.sel [0] G G)⟩
 replace H:=H.keep [1,2] rfl;refine seq_list fun K10 k10=>?_
 refine ls 2 H<|sd ((aB fH iQ rfl S (i:=0) G G))<|sr 1 G<|sE ?_;clear H a;intro a H
 refine aA H G G Tryz.func182 G G (eY (wY rates pwn ptn pag RA rcp l A cp _ (hr.now S) hrn (hl.now S) hn hok) (fun _ _=>Xv hA)) ?_;clear H a
 rintro _ _ a ⟨rfl,S2⟩ H;replace S:=S.call S2;clear S2;refine ls 5 H<|sr 5 G<|sE ?_;clear H a;intro a H
 refine k10 _ _ ?_;refine wp_seq_k fun K11 k11=>?_
 replace H:=H.keep [7,8] rfl;refine sS H fun K12 k12=>sr 2 G<|sE ?_;clear H a;intro a H
 refine k12 _ ?_;refine cond_ H rfl (fun hc3=>?_) (fun hc3=>?_)
 ·skip
  skip
  refine sS H fun K13 k13=>sr 2 G<|sE ?_;clear H a;intro a H
  refine k13 _ ?_;refine wp_ret ?_;refine ret2 (fn:=Tryz.f156) rfl H G G ?_;have e9:=Gs h0 hA;exact .inr ⟨by omega,by rw [e9],(S.sel [] G G)⟩
 skip
 cases hc3
theorem Eb (rates:List (Int×Int)) (pwn ptn pag:Int) (RA:Option Addr) (rcp:Nat) (l:List Use) (A:Option Addr) (cp:Nat) (w:World) (hr:InS w noF 2 RA rates.length (scell rates)) (hrn:rates.length≤9223372036854775807) (hl:InS w noF 6 A l.length (ucell l)) (hn:l.length≤9223372036854775807) :
    Calls Tryz.prog 127 [.agg [.slice RA rates.length rcp,.int .i64 pwn,.int .i64 ptn,.int .i64 pag].toArray,.slice A l.length cp].toArray w (Ret (fun v w'=>v = .tuple #[.int .i64 (refO (⟨rates,pwn,ptn,pag⟩:Part) l).1,.bool (refO (⟨rates,pwn,ptn,pag⟩:Part) l).2.1,.int .i64 (refO (⟨rates,pwn,ptn,pag⟩:Part) l).2.2]∧St w noF [] w')):=by
 refine enter Tryz.func127 rfl Tryz.ntmps127 rfl (fun a H=>?_)
 have S:=St.start w
 refine seq_list fun K1 k1=>?_
 refine aO H rfl S G G ?_;intro b2 _ a hb2 hbw2 S H
 refine ls 3 H<|sr 3 G<|sE ?_;intro a H
 refine k1 _ _ ?_;refine seq_list fun K2 k2=>?_
 refine ls 2 H<|sd ((aB fH iQ rfl S (i:=0) G G))<|sr 1 G<|sE ?_;intro a H
 refine aA H G G Tryz.func126 G G (oQ rates pwn ptn pag RA rcp l A cp _ (hr.now S) hrn (hl.now S) hn) ?_;clear H a
 rintro _ _ a ⟨rfl,S2⟩ H;replace S:=S.call S2;clear S2;refine ls 1 H<|sr 1 G<|sE ?_;intro a H
 refine k2 _ _ ?_;refine wp_seq_k fun K3 k3=>?_
 replace H:=H.keep [1,2,7] rfl;refine sS H fun K4 k4=>sr 2 G<|sE ?_;intro a H
 refine k4 _ ?_;refine condN H rfl (fun hc1=>?_) (fun hc1=>?_)
 ·skip
  refine sS H fun K5 k5=>sr 4 G<|sE ?_;intro a H
  refine k5 _ ?_;refine wp_ret ?_;refine ret3 (fn:=Tryz.f127) rfl H G G G ?_;unfold refO;rw [if_pos (by omega)];exact ⟨rfl,(S.sel [] G G)⟩
 refine wp_skip ?_;refine k3 _ _ ?_;have h0:cK (⟨rates,pwn,ptn,pag⟩:Part) l=0:=by omega
 have hok:=oI h0
 rcases (show atN (⟨rates,pwn,ptn,pag⟩:Part) l=l.length∨atN (⟨rates,pwn,ptn,pag⟩:Part) l<l.length from by have:=(Ay (⟨rates,pwn,ptn,pag⟩:Part) l).le;omega) with hA|hA
 ·skip
  replace H:=H.keep [1,2] rfl;refine seq_list fun K6 k6=>?_
  refine ls 2 H<|sd ((aB fH iQ rfl S (i:=0) G G))<|sr 1 G<|sE ?_;intro a H
  refine aA H G G Tryz.func159 G G (eY (tI rates pwn ptn pag RA rcp l A cp _ (hr.now S) hrn (hl.now S) hn hok) (fun _ _=>Td hA)) ?_;clear H a
  rintro _ _ a ⟨A',c',rfl,S2⟩ H;replace S:=S.call S2;clear S2;refine ls 5 H<|sr 5 G<|sE ?_;intro a H
  refine k6 _ _ ?_;replace H:=H.keep [9] rfl;refine sS H fun K7 k7=>sr 1 G<|sd (lK G G)<|sr 5 G<|sE ?_;intro a H
  refine k7 _ ?_;refine wp_ret ?_;refine ret3 (fn:=Tryz.f127) rfl H G G G ?_;unfold refO;rw [if_neg (by omega),if_neg (by omega)];exact ⟨rfl,(S.sel [] G G)⟩
 replace H:=H.keep [1,2] rfl;refine seq_list fun K8 k8=>?_
 refine ls 2 H<|sd ((aB fH iQ rfl S (i:=0) G G))<|sr 1 G<|sE ?_;intro a H
 refine aA H G G Tryz.func159 G G (eY (tI rates pwn ptn pag RA rcp l A cp _ (hr.now S) hrn (hl.now S) hn hok) (fun _ _=>Xw hA)) ?_;clear H a
 rintro _ _ a ⟨rfl,S2⟩ H;replace S:=S.call S2;clear S2;refine ls 5 H<|sr 5 G<|sE ?_;intro a H
 refine k8 _ _ ?_;replace H:=H.keep [9] rfl;refine sS H fun K9 k9=>sr 1 G<|sd (lK G G)<|sr 5 G<|sE ?_;intro a H
 refine k9 _ ?_;refine wp_ret ?_;refine ret3 (fn:=Tryz.f127) rfl H G G G ?_;unfold refO;rw [if_neg (by omega),if_pos hA];refine ⟨?_,(S.sel [] G G)⟩;have e1:max 0 ((atN (⟨rates,pwn,ptn,pag⟩:Part) l:Nat):Int)=atN (⟨rates,pwn,ptn,pag⟩:Part) l:=by omega
 rw [e1];rw [decide_eq_true (show (0:Int)≤(atN (⟨rates,pwn,ptn,pag⟩:Part) l:Int) by omega)]
theorem wZ (a b:Int) (w:World) :
    Calls Tryz.prog 195 [.agg [.int .i64 a,.int .i64 b].toArray].toArray w (Ret (fun v w'=>v = .int .i64 (Prod.snd (a,b))∧St w noF [] w')):=by
 refine enter Tryz.func195 rfl Tryz.ntmps195 rfl (fun a H=>?_)
 have S:=St.start w
 refine seq_list fun K1 k1=>?_
 refine aO H rfl S G G ?_;intro b1 _ a hb1 hbw1 S H
 refine ls 1 H<|sr 1 G<|sE ?_;intro a H
 refine k1 _ _ ?_;refine sS H fun K2 k2=>sf bH rfl<|sl S 0 aD G G G<|sr 1 G<|sE ?_;intro a H
 refine k2 _ ?_;refine wp_ret ?_;refine ret1 (fn:=Tryz.f195) rfl H rfl ?_;exact ⟨rfl,(S.sel [] G G)⟩
theorem xA {P:Program} {w:World} {L:List (Nat×Value)} {ty:TypeId} {pos:String} {af:Array Edge} {dd:Option Nat} {g:Option (Nat×Bool)} {x y:Operand} {xt yt:TypeId} {m n:Int} (hx:ev L x=some (.int .i64 m)) (hy:ev L y=some (.int .i64 n)) (h:n<m):Does P L ⟨dd,.binOp .gtr xt x y yt,ty,pos,af,g⟩ w (.bool true):=by
 have h1:=bX (P:=P) (d:=dd) (w:=w) (ty:=ty) (pos:=pos) (af:=af) (g:=g) (xt:=xt) (yt:=yt) hx hy
 rw [decide_eq_true h] at h1;exact h1
theorem pL {P:Program} {w:World} {L:List (Nat×Value)} {ty:TypeId} {pos:String} {af:Array Edge} {dd:Option Nat} {g:Option (Nat×Bool)} {x y:Operand} {xt yt:TypeId} {m n:Int} (hx:ev L x=some (.int .i64 m)) (hy:ev L y=some (.int .i64 n)) (h:¬ n<m):Does P L ⟨dd,.binOp .gtr xt x y yt,ty,pos,af,g⟩ w (.bool false):=by
 have h1:=bX (P:=P) (d:=dd) (w:=w) (ty:=ty) (pos:=pos) (af:=af) (g:=g) (xt:=xt) (yt:=yt) hx hy
 rw [decide_eq_false h] at h1;exact h1
theorem Ec (rates : List (Int × Int)) (pwn ptn pag : Int) (RA : Option Addr) (rcp : Nat) (l : List Use) (A : Option Addr) (cp : Nat) (f : Nat) (fn : Func) (e : Int × Int → Int) (w : World) (hr : InS w noF 2 RA rates.length (scell rates)) (hrn : rates.length ≤ 9223372036854775807) (hl : InS w noF 6 A l.length (ucell l)) (hn : l.length ≤ 9223372036854775807) (hf : Tryz.prog.funcs[f]? = some fn) (hfb : fn.body.isNone = false) (hfn : (fn.name == "runtime.NumGoroutine") = false) (hcall : ∀ (a b : Int) (w' : World), Calls Tryz.prog f [.agg [.int .i64 a, .int .i64 b].toArray].toArray w' (Ret fun v w'' => v = .int .i64 (e (a, b)) ∧ St w' noF [] w'')) :
    Calls Tryz.prog 194 [.agg [.slice RA rates.length rcp,.int .i64 pwn,.int .i64 ptn,.int .i64 pag].toArray,.slice A l.length cp,.func (.func f) [].toArray [].toArray].toArray w (Ret (fun v w'=>v = .tuple #[.int .i64 (eQ (⟨rates,pwn,ptn,pag⟩:Part) l e).1,.int .i64 (eQ (⟨rates,pwn,ptn,pag⟩:Part) l e).2]∧St w noF [] w')):=by
 refine enter Tryz.func194 rfl Tryz.ntmps194 rfl (fun a H=>?_)
 have S:=St.start w
 refine seq_list fun K1 k1=>?_
 refine aO H rfl S G G ?_;clear H a S;intro b3 _ a hb3 hbw3 S H
 refine ls 2 H<|sr 2 G<|sE ?_;clear H a;intro a H
 refine k1 _ _ ?_;by_cases hA:wearE (⟨rates,pwn,ptn,pag⟩:Part) l=0
 ·skip
  have h0:=mN hA;have hok:=oI h0.1
  have hh:=hok.hdr;unfold fV at hh;simp only [decide_eq_true_eq] at hh;have hll:=hok.len
  replace H:=H.keep [1,2,3] rfl;refine seq_list fun K2 k2=>?_
  refine ls 2 H<|sd ((aB fH iQ rfl S (i:=0) G G))<|sr 1 G<|sE ?_;clear H a;intro a H
  refine aA H G G Tryz.func156 G G (eY (pK rates pwn ptn pag RA rcp l A cp _ (hr.now S) hrn (hl.now S) hn) (fun _ _=>Mw hA)) ?_;clear H a
  rintro _ _ a ⟨A',c',rfl,S2⟩ H;replace S:=S.call S2;clear S2;refine ls 5 H<|sr 5 G<|sE ?_;clear H a;intro a H
  refine k2 _ _ ?_;refine wp_seq_k fun K3 k3=>?_
  replace H:=H.keep [1,2,3,8,9] rfl;refine sS H fun K4 k4=>sr 2 G<|sE ?_;clear H a;intro a H
  refine k4 _ ?_;refine condN H rfl (fun hc1=>?_) (fun hc1=>?_)
  ·skip
   all_goals first|(exfalso;omega)|(simp at hc1)
  refine wp_skip ?_;refine k3 _ _ ?_;refine sS H fun K5 k5=>sr 1 G<|sE ?_;clear H a;intro a H
  refine k5 _ ?_;refine wp_seq_k fun K6 k6=>?_
  refine sS H fun K7 k7=>sr 1 G<|sL dI rfl<|sr 1 G<|sE ?_;clear H a;intro a H
  refine k7 _ ?_;refine wp_block ?_;refine loop_st (X:=Nat) (R0:=_) [2,3,8,22,23] H rfl (fun k=>[(10,.int .i64 (sumT l k)),(24,.int .i64 (k:Int))]) (fun k=>[]) (fun g k=>k≤l.length∧g+k=l.length∧∀ q,q<k→(fun k=>wornB (⟨rates,pwn,ptn,pag⟩:Part) l k (e (cA (⟨rates,pwn,ptn,pag⟩:Part) l k))) q=false) (l.length) 0 ?_ (S.sel [0,1] G G) (H.keep [10,24,2,3,8,22,23] rfl) ?_
  · exact ⟨by omega,by omega,fun q hq=>absurd hq (Nat.not_lt_zero _)⟩
  clear H S a;intro g1 x1 a w1 hp S H K8 k8;obtain ⟨k,rfl⟩:∃ y,y=x1:=⟨_,rfl⟩;refine sS H fun K9 k9=>sr 1 G<|sE ?_;clear H a;intro a H
  refine k9 _ ?_;refine wp_seq_k fun K10 k10=>?_
  refine condL H rfl (fun hc2=>?_) (fun hc2=>?_)
  ·skip
   refine wp_skip ?_;refine k10 _ _ ?_;refine wp_seq_k fun K11 k11=>?_
   refine wp_block ?_;refine seq_list fun K12 k12=>?_
   refine ls 3 H<|sr 1 G<|si dI cY G G (hl.adr (by omega)) (by omega)<|sd ((aU kY cY rfl S hl (by omega) (by omega)))<|sE ?_;clear H a;intro a H
   refine aJ H rfl S lH ?_;clear H a S;intro b12 _ a hb12 hbw12 S H
   refine ls 1 H<|sr 1 G<|sE ?_;clear H a;intro a H
   refine aE H S (i:=0) G G G G cY G G ?_
   clear H a S;intro _ a S H;refine k12 _ _ ?_;have hsb:=Wj hok k (by omega);have hu:=hok.use (k:=k) (by omega);unfold useOk at hu;simp only [decide_eq_true_eq] at hu;replace H:=H.keep [2,3,8,10,11,12,22,23,24] rfl;refine sS H fun K13 k13=>sr 1 G<|sf kO rfl<|sl S 0 aD G G G<|sd (aI G G (by unfold i64ok;omega))<|sr 1 G<|sE ?_;clear H a;intro a H
   refine k13 _ ?_;rcases (show ptn<sumT l (k+1)∨(¬ ptn<sumT l (k+1)∧pag<(l.getD k aFi).day)∨(¬ ptn<sumT l (k+1)∧¬ pag<(l.getD k aFi).day) from by omega) with hB|hB|hB
   ·skip
    replace H:=H.keep [2,3,8,10,11,12,22,23,24] rfl;replace S:=S.drew;refine seq_wq [(0,true),(1,true),(2,true),(3,true),(4,true),(5,true),(6,true),(7,true),(8,true),(9,true),(10,true),(11,true),(12,true),(13,true),(14,true),(15,true),(16,true),(17,true),(18,true),(19,true),(20,true),(21,true),(22,true)] (by kernel_rfl) (by kernel_rfl) (S.sel [0,1,2] G G) fun K14 k14=>?_
    refine qF H<|qr 1 G<|qd G (fun _ S=>(aC pZ rfl))<|qd G (fun _ S=>aF aD rfl (aEh S (i:=2) G G))<|qd G (fun _ S=>xA G G hB)<|qr 1 G<|qK ?_;clear H a;intro a H
    refine aK H G G G G G ?_;clear H a;intro a H
    refine aK H G G G G G ?_;clear H a;intro a H
    refine aK H G G G G G ?_;clear H a;intro a H
    refine aK H G G G G G ?_;clear H a;intro a H
    refine aK H G G G G G ?_;clear H a;intro a H
    refine qF H<|qd G (fun _ S=>(aV G G G))<|qr 1 G<|qK ?_;clear H a;intro a H
    refine aK H G G G G G ?_;clear H a;intro a H
    refine aK H G G G G G ?_;clear H a;intro a H
    refine aK H G G G G G ?_;clear H a;intro a H
    refine aK H G G G G G ?_;clear H a;intro a H
    refine aK H G G G G G ?_;clear H a;intro a H
    refine aK H G G G G G ?_;clear H a;intro a H
    refine aK H G G G G G ?_;clear H a;intro a H
    refine aK H G G G G G ?_;clear H a;intro a H
    refine aK H G G G G G ?_;clear H a;intro a H
    refine aK H G G G G G ?_;clear H a;intro a H
    refine qF H<|qd G (fun _ S=>(aV G G G))<|qK ?_;clear H a;intro a H
    refine bL ?_
    refine k14 _ _ ?_;refine cond_ H rfl (fun hc3=>?_) (fun hc3=>?_)
    ·skip
     skip
     replace H:=H.keep [11] rfl;refine sS H fun K15 k15=>sr 3 G<|sE ?_;clear H a;intro a H
     refine k15 _ ?_;refine wp_ret ?_;refine ret2 (fn:=Tryz.f194) rfl H G G ?_;have e9:lJ (fun k=>wornB (⟨rates,pwn,ptn,pag⟩:Part) l k (e (cA (⟨rates,pwn,ptn,pag⟩:Part) l k))) l.length=k:=sJ (by omega) (by show wornB _ _ _ _=true;unfold wornB;rw [decide_eq_true hB];simp) hp.2.2;unfold eQ;rw [if_neg (by omega),e9];exact ⟨rfl,(S.sel [] G G)⟩
    skip
    cases hc3
   ·skip
    replace H:=H.keep [2,3,8,10,11,12,22,23,24] rfl;replace S:=S.drew;refine seq_wq [(0,true),(1,true),(2,true),(3,true),(4,true),(5,true),(6,true),(7,true),(8,true),(9,true),(10,true),(11,true),(12,true),(13,true),(14,true),(15,true),(16,true),(17,true),(18,true),(19,true),(20,true),(21,true),(22,true)] (by kernel_rfl) (by kernel_rfl) (S.sel [0,1,2] G G) fun K16 k16=>?_
    refine qF H<|qr 1 G<|qd G (fun _ S=>(aC pZ rfl))<|qd G (fun _ S=>aF aD rfl (aEh S (i:=2) G G))<|qd G (fun _ S=>pL G G hB.1)<|qr 1 G<|qK ?_;clear H a;intro a H
    refine aG H G G G G (fun _ S=>(aC iE rfl)) ?_;clear H a;intro a H
    refine aG H G G G G (fun _ S=>aF aD rfl (aEh S (i:=0) G G)) ?_;clear H a;intro a H
    refine aG H G G G G (fun _ S=>(aC tS rfl)) ?_;clear H a;intro a H
    refine aG H G G G G (fun _ S=>aF aD rfl (aEh S (i:=2) G G)) ?_;clear H a;intro a H
    refine aG H G G G G (fun _ S=>xA G G hB.2) ?_;clear H a;intro a H
    refine qF H<|qd G (fun _ S=>(aZ G G G))<|qr 1 G<|qK ?_;clear H a;intro a H
    refine aK H G G G G G ?_;clear H a;intro a H
    refine aK H G G G G G ?_;clear H a;intro a H
    refine aK H G G G G G ?_;clear H a;intro a H
    refine aK H G G G G G ?_;clear H a;intro a H
    refine aK H G G G G G ?_;clear H a;intro a H
    refine aK H G G G G G ?_;clear H a;intro a H
    refine aK H G G G G G ?_;clear H a;intro a H
    refine aK H G G G G G ?_;clear H a;intro a H
    refine aK H G G G G G ?_;clear H a;intro a H
    refine aK H G G G G G ?_;clear H a;intro a H
    refine qF H<|qd G (fun _ S=>(aV G G G))<|qK ?_;clear H a;intro a H
    refine bL ?_
    refine k16 _ _ ?_;refine cond_ H rfl (fun hc4=>?_) (fun hc4=>?_)
    ·skip
     skip
     replace H:=H.keep [11] rfl;refine sS H fun K17 k17=>sr 3 G<|sE ?_;clear H a;intro a H
     refine k17 _ ?_;refine wp_ret ?_;refine ret2 (fn:=Tryz.f194) rfl H G G ?_;have e9:lJ (fun k=>wornB (⟨rates,pwn,ptn,pag⟩:Part) l k (e (cA (⟨rates,pwn,ptn,pag⟩:Part) l k))) l.length=k:=sJ (by omega) (by show wornB _ _ _ _=true;unfold wornB;rw [decide_eq_true hB.2];simp) hp.2.2;unfold eQ;rw [if_neg (by omega),e9];exact ⟨rfl,(S.sel [] G G)⟩
    skip
    cases hc4
   replace H:=H.keep [2,3,8,10,11,12,22,23,24] rfl;replace S:=S.drew;refine seq_wq [(0,true),(1,true),(2,true),(3,true),(4,true),(5,true),(6,true),(7,true),(8,true),(9,true),(10,true),(11,true),(12,true),(13,true),(14,true),(15,true),(16,true),(18,true),(19,true),(20,true),(17,false),(21,true),(22,true)] (by kernel_rfl) (by kernel_rfl) (S.sel [0,1,2] G G) fun K18 k18=>?_
   refine qF H<|qr 1 G<|qd G (fun _ S=>(aC pZ rfl))<|qd G (fun _ S=>aF aD rfl (aEh S (i:=2) G G))<|qd G (fun _ S=>pL G G hB.1)<|qr 1 G<|qK ?_;clear H a;intro a H
   refine aG H G G G G (fun _ S=>(aC iE rfl)) ?_;clear H a;intro a H
   refine aG H G G G G (fun _ S=>aF aD rfl (aEh S (i:=0) G G)) ?_;clear H a;intro a H
   refine aG H G G G G (fun _ S=>(aC tS rfl)) ?_;clear H a;intro a H
   refine aG H G G G G (fun _ S=>aF aD rfl (aEh S (i:=2) G G)) ?_;clear H a;intro a H
   refine aG H G G G G (fun _ S=>pL G G hB.2) ?_;clear H a;intro a H
   refine qF H<|qd G (fun _ S=>(aZ G G G))<|qr 1 G<|qK ?_;clear H a;intro a H
   refine aG H G G G G (fun _ S=>aL rfl) ?_;clear H a;intro a H
   refine aG H G G G G (fun _ S=>aL rfl) ?_;clear H a;intro a H
   refine aG H G G G G (fun _ S=>aL rfl) ?_;clear H a;intro a H
   refine aG H G G G G (fun _ S=>bG dH aS G G (aEj S (i:=1) rfl (by omega)) (by omega)) ?_;clear H a;intro a H
   refine aG H G G G G (fun _ S=>(pQ bF aS rfl S (i:=1) rfl (by omega) (by omega))) ?_;clear H a;intro a H
   refine aG H G G G G (fun _ S=>(aC zP rfl)) ?_;clear H a;intro a H
   refine aG H G G G G (fun _ S=>aF aD rfl (aEh S (i:=2) G G)) ?_;clear H a;intro a H
   refine aG H G G G G (fun _ S=>fY G G (by unfold i64ok;omega)) ?_;clear H a;intro a H
   refine aT rfl ?_
   refine bA H G G ?_
   refine iS (fs:=[]) (cs:=[]) (vs:=[.agg [.int .i64 (cA (⟨rates,pwn,ptn,pag⟩:Part) l k).1,.int .i64 (cA (⟨rates,pwn,ptn,pag⟩:Part) l k).2].toArray]) H G G G (hf) (hfb) (hfn) (by exact hcall (cA (⟨rates,pwn,ptn,pag⟩:Part) l k).1 (cA (⟨rates,pwn,ptn,pag⟩:Part) l k).2 _) ?_;clear H a
   rintro _ _ a ⟨rfl,S2⟩ H;replace S:=S.call S2;clear S2;refine wpList_nil (And.intro (S.sel [0,1,2] rfl rfl) ?_);refine aG H rfl rfl rfl rfl (fun _ S=>bX rfl rfl) ?_;clear H a;intro a H;refine qF H<|qd G (fun _ S=>(aZ rfl rfl rfl))<|qK ?_;clear H a;intro a H
   refine bL ?_
   refine k18 _ _ ?_;refine cond_ H rfl (fun hc5=>?_) (fun hc5=>?_)
   ·skip
    skip
    replace H:=H.keep [11] rfl;refine sS H fun K19 k19=>sr 3 G<|sE ?_;clear H a;intro a H
    refine k19 _ ?_;refine wp_ret ?_;refine ret2 (fn:=Tryz.f194) rfl H G G ?_;have e9:lJ (fun k=>wornB (⟨rates,pwn,ptn,pag⟩:Part) l k (e (cA (⟨rates,pwn,ptn,pag⟩:Part) l k))) l.length=k:=sJ (by omega) (by show wornB _ _ _ _=true;unfold wornB;rw [decide_eq_false hB.1,decide_eq_false hB.2];exact hc5) hp.2.2;unfold eQ;rw [if_neg (by omega),e9];exact ⟨rfl,(S.sel [] G G)⟩
   skip
   refine wp_skip ?_;refine k11 _ _ ?_;refine sO H<|sd (aI G G (by unfold i64ok;omega))<|sr 1 G<|sE ?_;clear H a;intro a H
   exact k8 (g1-1) (k+1) a _ (by omega) (⟨by omega,by omega,fun q hq=>by
     by_cases h:q=k
     · subst h;show wornB _ _ _ _=false;unfold wornB;rw [decide_eq_false hB.1,decide_eq_false hB.2];exact hc5
     · exact hp.2.2 q (by omega)⟩) (S.sel [1,2] G G) (H.keep [10,24,2,3,8,22,23] rfl)
  refine wp_exit ?_;refine k6 _ _ ?_;refine sS H fun K21 k21=>sr 2 G<|sE ?_;clear H a;intro a H
  refine k21 _ ?_;refine wp_ret ?_;refine ret2 (fn:=Tryz.f194) rfl H G G ?_;have hk9:k=l.length:=by omega
  subst hk9;unfold eQ;rw [if_neg (by omega),tE hp.2.2];exact ⟨rfl,(S.sel [] G G)⟩
 skip
 replace H:=H.keep [1,2,3] rfl;refine seq_list fun K22 k22=>?_
 refine ls 2 H<|sd ((aB fH iQ rfl S (i:=0) G G))<|sr 1 G<|sE ?_;clear H a;intro a H
 refine aA H G G Tryz.func156 G G (eY (pK rates pwn ptn pag RA rcp l A cp _ (hr.now S) hrn (hl.now S) hn) (fun _ _=>Te hA)) ?_;clear H a
 rintro _ _ a ⟨rfl,S2⟩ H;replace S:=S.call S2;clear S2;refine ls 5 H<|sr 5 G<|sE ?_;clear H a;intro a H
 refine k22 _ _ ?_;refine wp_seq_k fun K23 k23=>?_
 replace H:=H.keep [1,2,3,8,9] rfl;refine sS H fun K24 k24=>sr 2 G<|sE ?_;clear H a;intro a H
 refine k24 _ ?_;refine condN H rfl (fun hc6=>?_) (fun hc6=>?_)
 ·skip
  refine sS H fun K25 k25=>sr 3 G<|sE ?_;clear H a;intro a H
  refine k25 _ ?_;refine wp_ret ?_;refine ret2 (fn:=Tryz.f194) rfl H G G ?_;unfold eQ;rw [if_pos hA];exact ⟨rfl,(S.sel [] G G)⟩
 all_goals (exfalso;omega)
theorem Bf (rates:List (Int×Int)) (pwn ptn pag:Int) (RA:Option Addr) (rcp:Nat) (l:List Use) (A:Option Addr) (cp:Nat) (w:World) (hr:InS w noF 2 RA rates.length (scell rates)) (hrn:rates.length≤9223372036854775807) (hl:InS w noF 6 A l.length (ucell l)) (hn:l.length≤9223372036854775807) :
    Calls Tryz.prog 183 [.agg [.slice RA rates.length rcp,.int .i64 pwn,.int .i64 ptn,.int .i64 pag].toArray,.slice A l.length cp].toArray w (Ret (fun v w'=>v = .tuple #[.int .i64 (eQ (⟨rates,pwn,ptn,pag⟩:Part) l Prod.snd).1,.int .i64 (eQ (⟨rates,pwn,ptn,pag⟩:Part) l Prod.snd).2]∧St w noF [] w')):=by
 refine enter Tryz.func183 rfl Tryz.ntmps183 rfl (fun a H=>?_)
 have S:=St.start w
 refine seq_list fun K1 k1=>?_
 refine aO H rfl S G G ?_;intro b2 _ a hb2 hbw2 S H
 refine ls 2 H<|sr 2 G<|sE ?_;intro a H
 refine k1 _ _ ?_;replace H:=H.keep [1,2] rfl;refine seq_list fun K2 k2=>?_
 refine ls 2 H<|sd ((aB fH iQ rfl S (i:=0) G G))<|sr 1 G<|sE ?_;intro a H
 refine aA H G G Tryz.func194 G G (Ec rates pwn ptn pag RA rcp l A cp 195 _ Prod.snd _ (hr.now S) hrn (hl.now S) hn Tryz.func195 G G (fun a b w'=>wZ a b w')) ?_;clear H a
 rintro _ _ a ⟨rfl,S2⟩ H;replace S:=S.call S2;clear S2;refine ls 4 H<|sr 4 G<|sE ?_;intro a H
 refine k2 _ _ ?_;refine wp_ret ?_;refine ret2 (fn:=Tryz.f183) rfl H G G ?_;exact ⟨rfl,(S.sel [] G G)⟩
end
section
theorem Tf {w:World} {p:Part} {l:List Use} {v:Value} {w':World} (h:WearR w p l v w'):∃ A n c,v = .tuple #[.slice A n c,.int .i64 (wearE p l)]∧St w noF [] w':=by
 rcases h with ⟨h0,A,c,rfl,S⟩|⟨_,rfl,S⟩
 ·exact ⟨A,_,c,by rw [h0],S.sel [] rfl rfl⟩
 ·exact ⟨none,0,0,rfl,S⟩
theorem pM {l:List Use} {k:Nat} (h:k+1=l.length):(l.getD k aFi).day=prevD l l.length:=by rw [←h];rfl
theorem xB {p:Part} {l:List Use} (h:wearE p l=0):0≤prevD l l.length∧p.rates.length≤4:=by
 have h1:=oI (mN h).1
 have h2:=h1.hdr
 unfold fV at h2
 simp only [decide_eq_true_eq] at h2
 exact ⟨rG h1.uses,h2.2.1⟩
theorem Ed {P:Int} {ps:List Psg} {xs:List Int} (V:StV P ps xs) {n:Nat} (hn:n<ps.length):(∀ j,j<n→0≤(ps.getD n aFf).mach→(ps.getD j aFf).mach≠(ps.getD n aFf).mach)∧∀ j,j<n→(ps.getD n aFf).mach<0→(ps.getD j aFf).mach=(ps.getD n aFf).mach→(ps.getD j aFf).mach<0:=
 ⟨fun j hj h0=>V.mach n hn h0 j hj,fun j _ h0 e=>by omega⟩
theorem Xx {pl:Int} {ps:List Psg} {xs:List Int} {day:List Hq} {l:List Prm} (h:keptE pl ps xs day l=0):StV pl ps xs:=jW (oE (lV h).1).1
theorem Xy {pl:Int} {ps:List Psg} {xs:List Int} {day:List Hq} {l:List Prm}:(keptV pl ps xs day l).2.2.2=keptE pl ps xs day l:=by
  unfold keptV
  split
  · rfl
  · split
    · dsimp only;omega
    · dsimp only;omega
theorem nS {days:Int} {s:Spr}:sprB days s=true↔((0≤s.day∧s.day≤days-1)∧(0≤s.kind∧s.kind≤3)∧(1≤s.many∧s.many≤8)):=by unfold sprB;rw [decide_eq_true_eq]
theorem Tg {pe:List Int} {k:Nat} (h:∀ q,q<k→0≤pe.getD q 0∧pe.getD q 0≤1000) (hk:0≤pe.getD k 0∧pe.getD k 0≤1000):∀ q,q<k+1→0≤pe.getD q 0∧pe.getD q 0≤1000:=fun q hq=>by
 by_cases e:q=k
 ·subst e;exact hk
 ·exact h q (by omega)
theorem fG {f:Nat→Bool} {k:Nat} (h:∀ q,q<k→f q=true) (hk:f k=true):∀ q,q<k+1→f q=true:=fun q hq=>by
 by_cases e:q=k
 ·subst e;exact hk
 ·exact h q (by omega)
theorem bO (n lo hi:Int) (w:World) :
    Calls Tryz.prog 82 [.int .i64 n,.int .i64 lo,.int .i64 hi].toArray w (Ret (fun v w'=>v = .bool (decide (lo≤n)&&decide (n≤hi))∧w'=w)):=by
 refine enter Tryz.func82 rfl Tryz.ntmps82 rfl (fun a H=>?_)
 have S:=St.start w
 refine sS H fun K1 k1=>sr 1 G<|sE ?_;intro a H
 refine k1 _ ?_;replace H:=H.keep [0,1,2] rfl;refine sS H fun K2 k2=>sr 4 G<|sg 3 3 10 13 true G G (fun hg4=>sy hg4<|sr 1 G<|sy hg4<|sr 1 G<|sy hg4<|sr 1 G<|sz 3 G G G)<|sa G G G<|sr 1 G<|sE ?_;intro a H
 refine k2 _ ?_;refine wp_ret ?_;refine ret1 (fn:=Tryz.f82) rfl H rfl ?_;exact ⟨rfl,rfl⟩
theorem Xz (u:Unt) (ps:List Psg) (us:List Unt) (i mb:Nat) (w:World) (F:Nat→Prop) (S:St w F [mapK (fun n:Int=>Value.int .i64 n) mb (macP ps us ps.length i)] w) (hur:InS w F 2 u.RA u.rates.length (scell u.rates)) (hurn:u.rates.length≤9223372036854775807) (huu:InS w F 6 u.UA u.uses.length (ucell u.uses)) (huun:u.uses.length≤9223372036854775807) :
    Calls Tryz.prog 124 [.agg [.int .i64 u.mach,.int .i64 u.every,.int .i64 u.seen,.slice u.RA u.rates.length u.rc,.int .i64 u.worn,.int .i64 u.turns,.int .i64 u.age,.slice u.UA u.uses.length u.uc,.int .i64 u.old,.int .i64 u.tn,.int .i64 u.cl,.int .i64 u.kind].toArray,.map (some mb)].toArray w (Ret (fun v w'=>v = .bool (untU ps us i u)∧St w F [mapK (fun n:Int=>Value.int .i64 n) mb (macP ps us ps.length i)] w')):=by
 refine enter Tryz.func124 rfl Tryz.ntmps124 rfl (fun a H=>?_)
 skip
 refine seq_list fun K1 k1=>?_
 refine aO H rfl S G G ?_;intro b2 _ a hb2 hbw2 S H
 refine ls 1 H<|sr 1 G<|sE ?_;clear H a;intro a H
 refine k1 _ _ ?_;refine wp_seq_k fun K2 k2=>?_
 replace H:=H.keep [1,2] rfl;refine sS H fun K3 k3=>sr 1 G<|sf nY rfl<|sl S 0 aD G G G<|sd ((Ba S (i:=1) rfl rU (fQ rfl) G G G (fun h hh=>hh u.mach):Does _ _ _ _ (.bool (freeM ps us i u.mach))))<|sr 2 G<|sg 4 5 14 18 false G G (fun hg6=>sy hg6<|sf tT rfl<|sy hg6<|sl S 0 aD G G G<|sy hg6<|sc rfl Tryz.func82 G G (bO _ _ _ _)<|sy hg6<|sr 1 G<|sz 4 G G G)<|so G G G<|sr 1 G<|sg 4 11 20 24 false G G (fun hg12=>sy hg12<|sf zQ rfl<|sy hg12<|sl S 0 aD G G G<|sy hg12<|sc rfl Tryz.func82 G G (bO _ _ _ _)<|sy hg12<|sr 1 G<|sz 4 G G G)<|so G G G<|sr 1 G<|sg 4 17 26 30 false G G (fun hg18=>sy hg18<|sf zR rfl<|sy hg18<|sl S 0 aD G G G<|sy hg18<|sc rfl Tryz.func82 G G (bO _ _ _ _)<|sy hg18<|sr 1 G<|sz 4 G G G)<|so G G G<|sE ?_;clear H a;intro a H
 refine k3 _ ?_;refine cond_ H rfl (fun hc1=>?_) (fun hc1=>?_)
 ·skip
  try simp only [oz] at hc1
  replace H:=H.keep [] rfl;refine sS H fun K4 k4=>sr 1 G<|sE ?_;clear H a;intro a H
  refine k4 _ ?_;refine wp_ret ?_;refine ret1 (fn:=Tryz.f124) rfl H rfl ?_;rw [Dk (ps:=ps) (us:=us) (i:=i) (u:=u) (fun h=>by have h1:=h.free;have h2:=h.i;unfold untI at h2;rw [h1] at hc1;simp only [Bool.true_eq_false,Bool.not_true,Bool.false_eq_true,not_true_eq_false,false_or] at hc1;omega)];exact ⟨rfl,(S.sel [1] G G)⟩
 try simp only [oz] at hc1
 refine wp_skip ?_;refine k2 _ _ ?_;refine wp_seq_k fun K5 k5=>?_
 replace H:=H.keep [2] rfl;refine seq_list fun K6 k6=>?_
 refine ls 4 H<|sf nZ rfl<|sd ((aB fH iQ rfl S (i:=0) G G))<|sf iB rfl<|sl S 0 kL G G G<|sE ?_;clear H a;intro a H
 refine aA H G G Tryz.func156 G G (eY (pK u.rates u.worn u.turns u.age u.RA u.rc u.uses u.UA u.uc _ (hur.now S) hurn (huu.now S) huun) (fun _ _ h=>Tf h)) ?_;clear H a
 rintro _ _ a ⟨WA,wn,wc,rfl,S2⟩ H;replace S:=S.call S2;clear S2;refine ls 5 H<|sr 5 G<|sE ?_;clear H a;intro a H
 refine k6 _ _ ?_;replace H:=H.keep [2,6] rfl;refine sS H fun K7 k7=>sr 3 G<|sg 4 2 42 46 false G G (fun hg3=>sy hg3<|sf iB rfl<|sy hg3<|sl S 0 kL G G G<|sy hg3<|sL dI rfl<|sy hg3<|sr 1 G<|sz 4 G G G)<|so G G G<|sE ?_;clear H a;intro a H
 refine k7 _ ?_;refine cond_ H rfl (fun hc2=>?_) (fun hc2=>?_)
 ·skip
  try simp only [oz] at hc2
  refine sS H fun K8 k8=>sr 1 G<|sE ?_;clear H a;intro a H
  refine k8 _ ?_;refine wp_ret ?_;refine ret1 (fn:=Tryz.f124) rfl H rfl ?_;rw [Dk (ps:=ps) (us:=us) (i:=i) (u:=u) (fun h=>by have h1:=h.wear;have h2:=h.i;unfold untI at h2;rcases hc2 with h9|h9;exact h9 h1;omega)];exact ⟨rfl,(S.sel [1] rfl rfl)⟩
 try simp only [oz] at hc2
 have hwe:wearE u.part u.uses=0:=by have h9:=hc2;show wearE ⟨u.rates,u.worn,u.turns,u.age⟩ u.uses=0;omega
 have hpv:=xB hwe
 refine wp_skip ?_;refine k5 _ _ ?_;replace H:=H.keep [2] rfl;refine sS H fun K9 k9=>sr 1 G<|sE ?_;intro a H
 refine k9 _ ?_;have SR:=(S.sel [0,1] G G);refine meet_sr (X:=Int) [2] H rfl (fun x=>[(7,.int .i64 x)]) (fun x=>[]) (fun x=>x=prevD u.uses u.uses.length) SR (fun K11 k11=>?_) ?_
 ·skip
  refine sS H fun K12 k12=>sf iB rfl<|sl S 0 kL G G G<|sL dI rfl<|sr 1 G<|sE ?_;intro a H
  refine k12 _ ?_;refine sS H fun K13 k13=>sr 2 G<|sE ?_;intro a H
  refine k13 _ ?_;refine condL H rfl (fun hc3=>?_) (fun hc3=>?_)
  ·skip
   replace H:=H.keep [2,8] rfl;refine sO H<|sf iB rfl<|sl S 0 kL G G G<|sr 1 G<|sd (aR G G (by unfold i64ok;omega))<|sI dI cY G G (huu.adr (by omega)) (by omega) (by omega)<|sp iE rfl<|slm aD rfl (huu.rd S (by omega) (by omega))<|sr 1 G<|sE ?_;intro a H
   exact k11 _ a _ (pM (k:=((u.uses.length:Int)-1).toNat) (by omega)) (S.sel [0,1] G G) (H.keep [7,2] rfl)
  refine wp_skip ?_;exact k11 _ a _ (by rw [show u.uses.length=0 by omega];rfl) (S.sel [0,1] G G) (H.keep [7,2] rfl)
 clear SR H S a;intro xm a wm hp S H;obtain ⟨x,rfl⟩:∃ y,y=xm:=⟨_,rfl⟩;replace H:=H.keep [2,7] rfl;refine sS H fun K15 k15=>sf tU rfl<|sl S 0 aD rfl rfl rfl<|sr 1 G<|sc rfl Tryz.func82 rfl rfl (bO _ _ _ _)<|sr 1 G<|sg 3 4 64 67 true rfl rfl (fun hg5=>sy hg5<|sf tV rfl<|sy hg5<|sl S 0 aD rfl rfl rfl<|sy hg5<|sc rfl Tryz.func82 rfl rfl (bO _ _ _ _)<|sz 3 rfl rfl rfl)<|sa rfl rfl rfl<|sr 1 G<|sg 8 9 69 77 true rfl rfl (fun hg10=>sy hg10<|sf tW rfl<|sy hg10<|sl S 0 aD rfl rfl rfl<|sy hg10<|sf nZ rfl<|sy hg10<|sf fT rfl<|sy hg10<|sl S 0 iW rfl rfl rfl<|sy hg10<|sL dH rfl<|sy hg10<|sd (aR rfl rfl (by unfold i64ok;omega))<|sy hg10<|sc rfl Tryz.func82 rfl rfl (bO _ _ _ _)<|sz 8 rfl rfl rfl)<|sa rfl rfl rfl<|sr 1 G<|sE ?_;intro a H
 refine k15 _ ?_;refine wp_ret ?_;refine ret1 (fn:=Tryz.f124) rfl H rfl ?_;refine ⟨congrArg Value.bool ?_,(S.sel [1] G G)⟩;rw [Bool.eq_iff_iff,wO];simp only [Bool.and_eq_true,decide_eq_true_eq];constructor
 · intro h9
   refine ⟨?_,?_,hwe⟩
   · rcases hc1 with ⟨⟨⟨h1,_⟩,_⟩,_⟩;exact h1
   · unfold untI;omega
 · intro h9
   have h2:=h9.i
   unfold untI at h2
   omega
theorem Ya (y:Yr) (w:World) (hy:YIn w noF y) (hyb:YBd y) :
    Calls Tryz.prog 81 [.agg [.int .i64 y.days,.int .i64 y.pl,.slice y.PA y.ps.length y.pc,.slice y.XA y.xs.length y.xc,.slice y.BA y.pe.length y.bc,.int .i64 y.limit,.bool y.help,.slice y.QA y.prs.length y.qc,.slice y.VA y.us.length y.vc,.int .i64 y.crew,.slice y.SA y.sps.length y.sc].toArray].toArray w (Ret (fun v w'=>v = .int .i64 (yearE y)∧St w noF [] w')):=by
 have hn1:=hyb.psn;have hn2:=hyb.pen;have hn3:=hyb.usn;have hn4:=hyb.spn
 refine enter Tryz.func81 rfl Tryz.ntmps81 rfl (fun a H=>?_)
 have S:=St.start w
 refine seq_list fun K1 k1=>?_
 refine aO H rfl S G G ?_;intro b1 _ a hb1 hbw1 S H
 refine ls 1 H<|sr 1 G<|sE ?_;clear H a;intro a H
 refine k1 _ _ ?_;refine wp_seq_k fun K2 k2=>?_
 replace H:=H.keep [1] rfl;refine seq_list fun K3 k3=>?_
 refine ls 4 H<|sf iA rfl<|sd ((aB bW cQ rfl S (i:=0) G G))<|sf pY rfl<|sl S 0 iV G G G<|sE ?_;clear H a;intro a H
 refine aA H G G Tryz.func70 G G (yF y.pl y.ps y.PA y.pc y.xs y.XA y.xc ([]:List Hq) none 0 (fun _=>none) (fun _=>0) y.prs y.QA y.qc _ (hy.ps.now S) hyb.psn (hy.xs.now S) hyb.xsn InS.nil (by decide) (fun k hk=>absurd hk (Nat.not_lt_zero k)) (fun k hk=>absurd hk (Nat.not_lt_zero k)) (hy.prs.now S) hyb.prn) ?_;clear H a
 rintro _ _ a ⟨rfl,S2⟩ H;replace S:=S.call S2;clear S2;rw [Xy] at H;refine ls 9 H<|sr 9 G<|sE ?_;clear H a;intro a H
 refine k3 _ _ ?_;replace H:=H.keep [1,6] rfl;refine sS H fun K4 k4=>sr 2 G<|sE ?_;clear H a;intro a H
 refine k4 _ ?_;refine condN H rfl (fun hc1=>?_) (fun hc1=>?_)
 ·skip
  refine sS H fun K5 k5=>sr 2 G<|sE ?_;clear H a;intro a H
  refine k5 _ ?_;refine wp_ret ?_;refine ret1 (fn:=Tryz.f81) rfl H rfl ?_;exact ⟨congrArg _ (pI hc1).symm,(S.sel [] G G)⟩
 have hke:keptE y.pl y.ps y.xs [] y.prs=0:=by omega
 have hV:=Xx hke
 refine wp_skip ?_;refine k2 _ _ ?_;refine wp_seq_k fun K6 k6=>?_
 replace H:=H.keep [1] rfl
 refine sS H fun K7 k7=>sf dZ rfl<|sl S 0 aD G G G<|sc rfl Tryz.func82 G G (bO _ _ _ _)<|sr 2 G<|sg 7 4 33 40 false G G (fun hg5=>by
     have hq5:=hg5;try simp only [oz] at hq5
     exact sy hg5<|sf pX rfl<|sy hg5<|sl S 0 bE G G G<|sy hg5<|sL aP rfl<|sy hg5<|sf iA rfl<|sy hg5<|sf dY rfl<|sy hg5<|sl S 0 aD G G G<|sy hg5<|sr 1 G<|sz 7 G G G)<|so G G G<|sr 1 G<|sg 4 13 42 46 false G G (fun hg14=>by
     have hq14:=hg14;try simp only [oz] at hq14
     exact sy hg14<|sf zN rfl<|sy hg14<|sl S 0 aD G G G<|sy hg14<|sc rfl Tryz.func82 G G (bO _ _ _ _)<|sy hg14<|sr 1 G<|sz 4 G G G)<|so G G G<|sr 1 G<|sg 4 19 48 52 false G G (fun hg20=>by
     have hq20:=hg20;try simp only [oz] at hq20
     exact sy hg20<|sf zO rfl<|sy hg20<|sl S 0 aD G G G<|sy hg20<|sc rfl Tryz.func82 G G (bO _ _ _ _)<|sy hg20<|sr 1 G<|sz 4 G G G)<|so G G G<|sr 1 G<|sg 4 25 54 58 false G G (fun hg26=>by
     have hq26:=hg26;try simp only [oz] at hq26
     exact sy hg26<|sf nX rfl<|sy hg26<|sl S 0 rM G G G<|sy hg26<|sL sW rfl<|sy hg26<|sr 1 G<|sz 4 G G G)<|so G G G<|sE ?_;clear H a;intro a H
 refine k7 _ ?_;refine cond_ H rfl (fun hc2=>?_) (fun hc2=>?_)
 ·skip
  try simp only [oz] at hc2
  replace H:=H.keep [] rfl;refine sS H fun K8 k8=>sr 1 G<|sE ?_;clear H a;intro a H
  refine k8 _ ?_;refine wp_ret ?_;refine ret1 (fn:=Tryz.f81) rfl H rfl ?_;rw [qX hke (fun h=>by unfold yrI at h;omega)];exact ⟨rfl,(S.sel [] G G)⟩
 try simp only [oz] at hc2
 refine wp_skip ?_;refine k6 _ _ ?_;refine wp_seq_k fun K9 k9=>?_
 refine sS H fun K10 k10=>sf pX rfl<|sl S 0 bE G G G<|sL aP rfl<|sr 1 G<|sE ?_;clear H a;intro a H
 refine k10 _ ?_;refine wp_block ?_;refine loop_st (X:=Nat) (R0:=_) [1,61,62] H rfl (fun k=>[(63,.int .i64 (k:Int))]) (fun k=>[]) (fun g k=>k≤y.pe.length∧g+k=y.pe.length∧∀ q,q<k→0≤y.pe.getD q 0∧y.pe.getD q 0≤1000) (y.pe.length) 0 ?_ (S.sel [0] G G) (H.keep [63,1,61,62] rfl) ?_
 · exact ⟨by omega,by omega,fun q hq=>absurd hq (Nat.not_lt_zero q)⟩
 clear H S a;intro g1 x1 a w1 hp S H K11 k11;obtain ⟨k,rfl⟩:∃ y,y=x1:=⟨_,rfl⟩;refine sS H fun K12 k12=>sr 1 G<|sE ?_;clear H a;intro a H
 refine k12 _ ?_;refine wp_seq_k fun K13 k13=>?_
 refine condL H rfl (fun hc3=>?_) (fun hc3=>?_)
 ·skip
  refine wp_skip ?_;refine k13 _ _ ?_;refine wp_seq_k fun K14 k14=>?_
  refine wp_block ?_;refine sS H fun K15 k15=>si aP aX G G (hy.pe.adr (by omega)) (by omega)<|slm aD rfl (hy.pe.rd S (by omega) (by omega))<|sr 1 G<|sE ?_;clear H a;intro a H
  refine k15 _ ?_;refine sS H fun K16 k16=>sr 1 G<|sc rfl Tryz.func82 G G (bO _ _ _ _)<|sr 1 G<|sE ?_;clear H a;intro a H
  refine k16 _ ?_;refine cond_ H rfl (fun hc4=>?_) (fun hc4=>?_)
  ·skip
   try simp only [oz] at hc4
   refine sS H fun K17 k17=>sr 1 G<|sE ?_;clear H a;intro a H
   refine k17 _ ?_;refine wp_ret ?_;refine ret1 (fn:=Tryz.f81) rfl H rfl ?_;rw [qX hke (fun h=>by have h9:=h.2.1.2 k (by omega);omega)];exact ⟨rfl,(S.sel [] G G)⟩
  try simp only [oz] at hc4
  refine wp_skip ?_;refine k14 _ _ ?_;replace H:=H.keep [1,61,62,63] rfl;refine sO H<|sd (aI G G (by unfold i64ok;omega))<|sr 1 G<|sE ?_;clear H a;intro a H
  exact k11 (g1-1) (k+1) a _ (by omega) (⟨by omega,by omega,Tg hp.2.2 (by omega)⟩) (S.sel [0] G G) (H.keep [63,1,61,62] rfl)
 refine wp_exit ?_;refine k9 _ _ ?_;refine wp_seq_k fun K19 k19=>?_
 refine sS H fun K20 k20=>sf nX rfl<|sl S 0 rM G G G<|sL sW rfl<|sr 1 G<|sE ?_;clear H a;intro a H
 refine k20 _ ?_;refine wp_block ?_;have hpe9:∀ q,q<y.pe.length→0≤y.pe.getD q 0∧y.pe.getD q 0≤1000:=fun q hq=>hp.2.2 q (by omega)
 refine loop_st (X:=Nat) (R0:=_) [1,72,73] H rfl (fun k=>[(74,.int .i64 (k:Int))]) (fun k=>[]) (fun g k=>k≤y.sps.length∧g+k=y.sps.length∧∀ q,q<k→sprB y.days (y.sps.getD q aFo)=true) (y.sps.length) 0 ?_ (S.sel [0] G G) (H.keep [74,1,72,73] rfl) ?_
 · exact ⟨by omega,by omega,fun q hq=>absurd hq (Nat.not_lt_zero q)⟩
 clear H S a;intro g2 x2 a w2 hp S H K21 k21;obtain ⟨k,rfl⟩:∃ y,y=x2:=⟨_,rfl⟩;refine sS H fun K22 k22=>sr 1 G<|sE ?_;clear H a;intro a H
 refine k22 _ ?_;refine wp_seq_k fun K23 k23=>?_
 refine condL H rfl (fun hc5=>?_) (fun hc5=>?_)
 ·skip
  refine wp_skip ?_;refine k23 _ _ ?_;refine wp_seq_k fun K24 k24=>?_
  refine wp_block ?_;refine seq_list fun K25 k25=>?_
  refine ls 2 H<|si sW mE G G (hy.sps.adr (by omega)) (by omega)<|sd ((aU zK mE rfl S hy.sps (by omega) (by omega)))<|sE ?_;clear H a;intro a H
  refine aJ H rfl S Fm ?_;intro b10 _ a hb10 hbw10 S H
  refine aE H S (i:=0) G G G G mE G G ?_
  clear H a S;intro _ a S H;refine k25 _ _ ?_;replace H:=H.keep [1,10,72,73,74] rfl
  refine sS H fun K26 k26=>sf vC rfl<|sl S 0 aD G G G<|sf dZ rfl<|sl S 1 aD G G G<|sd (aR G G (by unfold i64ok;omega))<|sc rfl Tryz.func82 G G (bO _ _ _ _)<|sr 2 G<|sg 4 7 85 89 false G G (fun hg8=>by
      have hq8:=hg8;try simp only [oz] at hq8
      exact sy hg8<|sf vD rfl<|sy hg8<|sl S 0 aD G G G<|sy hg8<|sc rfl Tryz.func82 G G (bO _ _ _ _)<|sy hg8<|sr 1 G<|sz 4 G G G)<|so G G G<|sr 1 G<|sg 4 13 91 95 false G G (fun hg14=>by
      have hq14:=hg14;try simp only [oz] at hq14
      exact sy hg14<|sf vE rfl<|sy hg14<|sl S 0 aD G G G<|sy hg14<|sc rfl Tryz.func82 G G (bO _ _ _ _)<|sy hg14<|sr 1 G<|sz 4 G G G)<|so G G G<|sE ?_;clear H a;intro a H
  refine k26 _ ?_;refine cond_ H rfl (fun hc6=>?_) (fun hc6=>?_)
  ·skip
   try simp only [oz] at hc6
   replace H:=H.keep [] rfl;refine sS H fun K27 k27=>sr 1 G<|sE ?_;clear H a;intro a H
   refine k27 _ ?_;refine wp_ret ?_;refine ret1 (fn:=Tryz.f81) rfl H rfl ?_;rw [qX hke (fun h=>by have h9:=nS.1 (h.2.2.2.2.2 k (by omega));omega)];exact ⟨rfl,(S.sel [] G G)⟩
  try simp only [oz] at hc6
  refine wp_skip ?_;refine k24 _ _ ?_;refine sO H<|sd (aI G G (by unfold i64ok;omega))<|sr 1 G<|sE ?_;clear H a;intro a H
  exact k21 (g2-1) (k+1) a _ (by omega) (⟨by omega,by omega,fG (f:=fun q=>sprB y.days (y.sps.getD q aFo)) hp.2.2 (nS.2 (by omega))⟩) (S.sel [1] G G) (H.keep [74,1,72,73] rfl)
 refine wp_exit ?_;refine k19 _ _ ?_;refine wp_seq_k fun K29 k29=>?_
 refine sS H fun K30 k30=>sf dD rfl<|sl S 0 eR G G G<|sL fJ rfl<|sr 1 G<|sE ?_;clear H a;intro a H
 refine k30 _ ?_;refine condL H rfl (fun hc7=>?_) (fun hc7=>?_)
 ·skip
  refine sS H fun K31 k31=>sr 1 G<|sE ?_;clear H a;intro a H
  refine k31 _ ?_;refine wp_ret ?_;refine ret1 (fn:=Tryz.f81) rfl H rfl ?_
  rw [wK hke (by
    unfold yrI
    have h9:=hp.2.2
    exact ⟨by omega,⟨by omega,hpe9⟩,by omega,by omega,by omega,fun q hq=>h9 q (by omega)⟩) (by omega)];exact ⟨rfl,(S.sel [] G G)⟩
 refine wp_skip ?_;refine k29 _ _ ?_;replace H:=H.keep [1] rfl;refine seq_list fun K32 k32=>?_
 refine jO (fun n:Int=>Value.int .i64 n) (macP y.ps y.us 0 0) Mc H rfl S ?_;intro mb _ a hmb S H
 refine ls 1 H<|sr 1 G<|sE ?_;clear H a;intro a H
 refine k32 _ _ ?_;refine wp_seq_k fun K33 k33=>?_
 refine sS H fun K34 k34=>sf iA rfl<|sf fS rfl<|sl S 1 iU G G G<|sL iR rfl<|sr 1 G<|sE ?_;clear H a;intro a H
 refine k34 _ ?_;refine wp_block ?_
 have hyi:yrI y:=by
   unfold yrI
   have h9:=hp.2.2
   exact ⟨by omega,⟨by omega,hpe9⟩,by omega,by omega,by omega,fun q hq=>h9 q (by omega)⟩
 refine loop_st (X:=Nat) (R0:=_) [1,11,105,106] H rfl (fun k=>[(107,.int .i64 (k:Int))]) (fun k=>[mapK (fun n:Int=>Value.int .i64 n) mb (macP y.ps y.us k 0)]) (fun g k=>k≤y.ps.length∧g+k=y.ps.length) (y.ps.length) 0 ?_ (S.sel [0,1] G G) (H.keep [107,1,11,105,106] rfl) ?_
 · exact ⟨by omega,by omega⟩
 clear H S a;intro g3 x3 a w3 hp S H K35 k35;obtain ⟨k,rfl⟩:∃ y,y=x3:=⟨_,rfl⟩;refine sS H fun K36 k36=>sr 1 G<|sE ?_;clear H a;intro a H
 refine k36 _ ?_;refine wp_seq_k fun K37 k37=>?_
 refine condL H rfl (fun hc8=>?_) (fun hc8=>?_)
 ·skip
  refine wp_skip ?_;refine k37 _ _ ?_;refine wp_seq_k fun K38 k38=>?_
  refine wp_block ?_;refine seq_list fun K39 k39=>?_
  refine ls 2 H<|si iR dR G G (hy.ps.adr (by omega)) (by omega)<|sd ((aU jJ dR rfl S hy.ps (by omega) (by omega)))<|sE ?_;clear H a;intro a H
  refine aJ H rfl S oX ?_;intro b13 _ a hb13 hbw13 S H
  refine aE H S (i:=0) G G G G dR G G ?_
  clear H a S;intro _ a S H;refine k39 _ _ ?_;replace H:=H.keep [1,11,13,105,106,107] rfl;refine one_list ?_;refine ls 6 H<|sr 1 G<|sf dQ rfl<|sl S 0 aD G G G<|sf dQ rfl<|sl S 0 aD G G G<|sr 1 G<|sE ?_;clear H a;intro a H
  refine fF (k:=(y.ps.getD k aFf).mach) (macP y.ps y.us (k+1) 0) H S (i:=1) rfl rU (fQ rfl) G G G (Wz (Ed hV (by omega)).1 (Ed hV (by omega)).2) ?_;intro _ a S H
  refine k38 _ _ ?_;refine sO H<|sd (aI G G (by unfold i64ok;omega))<|sr 1 G<|sE ?_;clear H a;intro a H
  exact k35 (g3-1) (k+1) a _ (by omega) (⟨by omega,by omega⟩) (S.sel [1,2] G G) (H.keep [107,1,11,105,106] rfl)
 refine wp_exit ?_;refine k33 _ _ ?_;refine wp_seq_k fun K42 k42=>?_
 replace H:=H.keep [1,11] rfl;refine sS H fun K43 k43=>sf dD rfl<|sl S 1 eR G G G<|sL fJ rfl<|sr 1 G<|sE ?_;clear H a;intro a H
 refine k43 _ ?_;refine wp_block ?_;obtain rfl:k=y.ps.length:=by omega
 refine loop_st (X:=Nat) (R0:=_) [11,119,120] H rfl (fun k=>[(121,.int .i64 (k:Int))]) (fun k=>[mapK (fun n:Int=>Value.int .i64 n) mb (macP y.ps y.us y.ps.length k)]) (fun g k=>k≤y.us.length∧g+k=y.us.length∧∀ q,q<k→untB y.ps y.us q=true) (y.us.length) 0 ?_ (S.sel [0,1] G G) (H.keep [121,11,119,120] rfl) ?_
 · exact ⟨by omega,by omega,fun q hq=>absurd hq (Nat.not_lt_zero q)⟩
 clear H S a;intro g4 x4 a w4 hp S H K44 k44;obtain ⟨k,rfl⟩:∃ y,y=x4:=⟨_,rfl⟩;refine sS H fun K45 k45=>sr 1 G<|sE ?_;intro a H
 refine k45 _ ?_;refine wp_seq_k fun K46 k46=>?_
 refine condL H rfl (fun hc9=>?_) (fun hc9=>?_)
 ·skip
  refine wp_skip ?_;refine k46 _ _ ?_;refine wp_seq_k fun K47 k47=>?_
  refine wp_block ?_;refine seq_list fun K48 k48=>?_
  refine ls 2 H<|si fJ jS G G (hy.us.adr (by omega)) (by omega)<|sd ((aU rN jS rfl S hy.us (by omega) (by omega)))<|sE ?_;intro a H
  refine aJ H rfl S xU ?_;intro b15 _ a hb15 hbw15 S H
  refine aE H S (i:=0) G G G G jS G G ?_
  clear H a S;intro _ a S H;refine k48 _ _ ?_;refine wp_seq_k fun K49 k49=>?_
  refine seq_list fun K50 k50=>?_
  refine ls 2 H<|sd ((aB rN jS rfl S (i:=0) G G))<|sr 1 G<|sE ?_;intro a H
  refine aA H G G Tryz.func124 G G (Xz (y.u k) y.ps y.us k mb _ _ ((S.sel [1] G G).startR) ((hy.rt k (by omega)).nowR (S.sel [1] G G)) (hyb.rtn (by omega)) ((hy.ul k (by omega)).nowR (S.sel [1] G G)) (hyb.uln (by omega))) ?_;clear H a
  rintro _ _ a ⟨rfl,S2⟩ H;replace S:=St.callR (M:=[_]) (S.sel [1,0,2] rfl rfl) S2;clear S2;refine ls 1 H<|sr 1 G<|sE ?_;intro a H
  refine k50 _ _ ?_;refine cond_ H rfl (fun hc10=>?_) (fun hc10=>?_)
  ·skip
   try simp only [oz] at hc10
   replace H:=H.keep [] rfl;refine sS H fun K51 k51=>sr 1 G<|sE ?_;intro a H
   refine k51 _ ?_;refine wp_ret ?_;refine ret1 (fn:=Tryz.f81) rfl H rfl ?_;rw [wL hke hyi (by omega) (show k<y.us.length by omega) hc10];exact ⟨rfl,(S.sel [] G G)⟩
  try simp only [oz] at hc10
  refine wp_skip ?_;refine k49 _ _ ?_;refine one_list ?_;refine ls 3 H<|sr 1 G<|sf nY rfl<|sl S 1 aD G G G<|sE ?_;intro a H
  refine fF (k:=(y.us.getD k aFg).mach) (macP y.ps y.us y.ps.length (k+1)) H S (i:=0) rfl rU (fQ rfl) G G G Xa ?_;intro _ a S H
  refine k47 _ _ ?_;refine sO H<|sd (aI G G (by unfold i64ok;omega))<|sr 1 G<|sE ?_;intro a H
  exact k44 (g4-1) (k+1) a _ (by omega) (⟨by omega,by omega,fG (f:=untB y.ps y.us) hp.2.2 hc10⟩) (S.sel [0,2] G G) (H.keep [121,11,119,120] rfl)
 refine wp_exit ?_;refine k42 _ _ ?_;refine sS H fun K54 k54=>sr 1 G<|sE ?_;intro a H
 refine k54 _ ?_;refine wp_ret ?_;refine ret1 (fn:=Tryz.f81) rfl H rfl ?_;rw [Di hke hyi (by omega) (bI.2 fun q hq=>hp.2.2 q (by omega))];exact ⟨rfl,(S.sel [] G G)⟩
end
section
theorem chk5 (A B C:Prop) [Decidable A] [Decidable B] [Decidable C] (k:Nat):¬ A∨(A∧¬ B)∨(A∧B∧¬ C)∨(A∧B∧C∧k=0)∨(A∧B∧C∧0<k):=by
 by_cases hA:A <;> by_cases hB:B <;> by_cases hC:C <;> by_cases hk:k=0 <;> simp [hA,hB,hC,hk] <;> omega
section
variable {P:Program} {w:World} {L:List (Nat×Value)} {ty:TypeId} {pos:String} {af:Array Edge} {dd:Option Nat} {g:Option (Nat×Bool)}
theorem gU {x:Operand} {xt:TypeId} {lo n hi:Int} (hx:ev L x=some (.bool (decide (lo≤n)&&decide (n≤hi)))) (h:¬ (lo≤n∧n≤hi)):Does P L ⟨dd,.unOp .not xt x,ty,pos,af,g⟩ w (.bool true):=by
 have h1:=cO (P:=P) (d:=dd) (w:=w) (ty:=ty) (pos:=pos) (af:=af) (g:=g) (xt:=xt) hx
 have e:(!(decide (lo≤n)&&decide (n≤hi)))=true:=by simp only [Bool.not_eq_true',Bool.and_eq_false_iff,decide_eq_false_iff_not];omega
 rw [e] at h1;exact h1
theorem bV {x:Operand} {xt:TypeId} {lo n hi:Int} (hx:ev L x=some (.bool (decide (lo≤n)&&decide (n≤hi)))) (h:lo≤n∧n≤hi):Does P L ⟨dd,.unOp .not xt x,ty,pos,af,g⟩ w (.bool false):=by
 have h1:=cO (P:=P) (d:=dd) (w:=w) (ty:=ty) (pos:=pos) (af:=af) (g:=g) (xt:=xt) hx
 rw [decide_eq_true h.1,decide_eq_true h.2] at h1;exact h1
end
section
variable {y:Yr} {l:List Tsk} {k:Nat}
def tskI (y:Yr) (t:Tsk):Prop:=(0≤t.day∧t.day≤y.days-1)∧(0≤t.unit∧t.unit≤(y.us.length:Int)-1)∧(1≤t.kind∧t.kind≤2)
theorem mA (h:¬ ((0≤(l.getD k aFh).day∧(l.getD k aFh).day≤y.days-1)∧(0≤(l.getD k aFh).unit∧(l.getD k aFh).unit≤(y.us.length:Int)-1)∧(1≤(l.getD k aFh).kind∧(l.getD k aFh).kind≤2))):tskB y l k=false:=by
 unfold tskB;rw [decide_eq_false h,Bool.false_and]
theorem Ee (hB:(0≤(l.getD k aFh).day∧(l.getD k aFh).day≤y.days-1)∧(0≤(l.getD k aFh).unit∧(l.getD k aFh).unit≤(y.us.length:Int)-1)∧(1≤(l.getD k aFh).kind∧(l.getD k aFh).kind≤2)∧0<k) (h:befB (l.getD ((k:Int)-1).toNat aFh) (l.getD k aFh)=false):tskB y l k=false:=by
 rw [show ((k:Int)-1).toNat=k-1 by omega] at h;unfold tskB;rw [h,decide_eq_false (show ¬ k=0 by omega),Bool.or_self,Bool.and_false]
theorem oL (hB:(0≤(l.getD k aFh).day∧(l.getD k aFh).day≤y.days-1)∧(0≤(l.getD k aFh).unit∧(l.getD k aFh).unit≤(y.us.length:Int)-1)∧(1≤(l.getD k aFh).kind∧(l.getD k aFh).kind≤2)∧k=0):tskB y l k=true:=by
 unfold tskB;rw [decide_eq_true ⟨hB.1,hB.2.1,hB.2.2.1⟩,decide_eq_true hB.2.2.2];rfl
theorem oM (hB:(0≤(l.getD k aFh).day∧(l.getD k aFh).day≤y.days-1)∧(0≤(l.getD k aFh).unit∧(l.getD k aFh).unit≤(y.us.length:Int)-1)∧(1≤(l.getD k aFh).kind∧(l.getD k aFh).kind≤2)∧0<k) (h:befB (l.getD ((k:Int)-1).toNat aFh) (l.getD k aFh)=true):tskB y l k=true:=by
 rw [show ((k:Int)-1).toNat=k-1 by omega] at h;unfold tskB;rw [decide_eq_true ⟨hB.1,hB.2.1,hB.2.2.1⟩,h,Bool.or_true];rfl
end
theorem My (a b:Tsk) (w:World) :
    Calls Tryz.prog 83 [.agg [.int .i64 a.day,.int .i64 a.unit,.int .i64 a.kind].toArray,.agg [.int .i64 b.day,.int .i64 b.unit,.int .i64 b.kind].toArray].toArray w (Ret (fun v w'=>v = .bool (befB a b)∧St w noF [] w')):=by
 refine enter Tryz.func83 rfl Tryz.ntmps83 rfl (fun a H=>?_)
 have S:=St.start w
 refine seq_list fun K1 k1=>?_
 refine aO H rfl S G G ?_;intro b2 _ a hb2 hbw2 S H
 refine aO H rfl S G G ?_;intro b3 _ a hb3 hbw3 S H
 refine ls 1 H<|sr 1 G<|sE ?_;intro a H
 refine k1 _ _ ?_;refine wp_seq_k fun K2 k2=>?_
 refine sS H fun K3 k3=>sf dK rfl<|sl S 1 aD G G G<|sf dK rfl<|sl S 0 aD G G G<|sr 1 G<|sE ?_;intro a H
 refine k3 _ ?_;refine condN H rfl (fun hc1=>?_) (fun hc1=>?_)
 ·skip
  replace H:=H.keep [2,3] rfl;refine sS H fun K4 k4=>sf dK rfl<|sl S 1 aD G G G<|sf dK rfl<|sl S 0 aD G G G<|sr 2 G<|sE ?_;intro a H
  refine k4 _ ?_;refine wp_ret ?_;refine ret1 (fn:=Tryz.f83) rfl H rfl ?_;refine ⟨?_,(S.sel [] G G)⟩;unfold befB;rw [if_pos hc1]
 refine wp_skip ?_;refine k2 _ _ ?_;refine wp_seq_k fun K5 k5=>?_
 replace H:=H.keep [2,3] rfl;refine sS H fun K6 k6=>sf eA rfl<|sl S 1 aD G G G<|sf eA rfl<|sl S 0 aD G G G<|sr 1 G<|sE ?_;intro a H
 refine k6 _ ?_;refine condN H rfl (fun hc2=>?_) (fun hc2=>?_)
 ·skip
  replace H:=H.keep [2,3] rfl;refine sS H fun K7 k7=>sf eA rfl<|sl S 1 aD G G G<|sf eA rfl<|sl S 0 aD G G G<|sr 2 G<|sE ?_;intro a H
  refine k7 _ ?_;refine wp_ret ?_;refine ret1 (fn:=Tryz.f83) rfl H rfl ?_;refine ⟨?_,(S.sel [] G G)⟩;unfold befB;rw [if_neg (fun h=>h (by omega)),if_pos hc2]
 refine wp_skip ?_;refine k5 _ _ ?_;replace H:=H.keep [2,3] rfl;refine sS H fun K8 k8=>sf gE rfl<|sl S 1 aD G G G<|sf gE rfl<|sl S 0 aD G G G<|sr 2 G<|sE ?_;intro a H
 refine k8 _ ?_;refine wp_ret ?_;refine ret1 (fn:=Tryz.f83) rfl H rfl ?_;refine ⟨?_,(S.sel [] G G)⟩;unfold befB;rw [if_neg (fun h=>h (by omega)),if_neg (fun h=>h (by omega))]
theorem Ef (y:Yr) (l:List Tsk) (LA:Option Addr) (lc:Nat) (w:World) (hy:YIn w noF y) (hyb:YBd y) (hl:InS w noF 3 LA l.length (cD l)) (hln:l.length≤9223372036854775807) :
    Calls Tryz.prog 39 [.agg [.int .i64 y.days,.int .i64 y.pl,.slice y.PA y.ps.length y.pc,.slice y.XA y.xs.length y.xc,.slice y.BA y.pe.length y.bc,.int .i64 y.limit,.bool y.help,.slice y.QA y.prs.length y.qc,.slice y.VA y.us.length y.vc,.int .i64 y.crew,.slice y.SA y.sps.length y.sc].toArray,.slice LA l.length lc].toArray w (Ret (fun v w'=>v = .int .i64 (taskE y l)∧St w noF [] w')):=by
 have hn3:=hyb.usn
 refine enter Tryz.func39 rfl Tryz.ntmps39 rfl (fun a H=>?_)
 have S:=St.start w
 refine seq_list fun K1 k1=>?_
 refine aO H rfl S G G ?_;clear H a S;intro b2 _ a hb2 hbw2 S H
 refine ls 1 H<|sr 1 G<|sE ?_;clear H a;intro a H
 refine k1 _ _ ?_;refine wp_seq_k fun K2 k2=>?_
 refine seq_list fun K3 k3=>?_
 refine ls 1 H<|sd ((aB gZ jR rfl S (i:=0) G G))<|sE ?_;clear H a;intro a H
 refine aA H G G Tryz.func81 G G (Ya y _ (hy.now S) hyb) ?_;clear H a
 rintro _ _ a ⟨rfl,S2⟩ H;replace S:=S.call S2;clear S2;refine ls 1 H<|sr 1 G<|sE ?_;clear H a;intro a H
 refine k3 _ _ ?_;refine sS H fun K4 k4=>sr 2 G<|sE ?_;clear H a;intro a H
 refine k4 _ ?_;refine condN H rfl (fun hc1=>?_) (fun hc1=>?_)
 ·skip
  refine sS H fun K5 k5=>sr 2 G<|sE ?_;clear H a;intro a H
  refine k5 _ ?_;refine wp_ret ?_;refine ret1 (fn:=Tryz.f39) rfl H rfl ?_;exact ⟨congrArg _ (wM hc1).symm,(S.sel [] G G)⟩
 have hye:yearE y=0:=by omega
 have hyi:=(qY hye).yr
 unfold yrI at hyi
 refine wp_skip ?_;refine k2 _ _ ?_;refine wp_seq_k fun K6 k6=>?_
 replace H:=H.keep [1,2] rfl;refine sS H fun K7 k7=>sr 1 G<|sL dP rfl<|sr 1 G<|sE ?_;clear H a;intro a H
 refine k7 _ ?_;refine condL H rfl (fun hc2=>?_) (fun hc2=>?_)
 ·skip
  refine sS H fun K8 k8=>sr 1 G<|sE ?_;clear H a;intro a H
  refine k8 _ ?_;refine wp_ret ?_;refine ret1 (fn:=Tryz.f39) rfl H rfl ?_;rw [wN hye (by omega)];exact ⟨rfl,(S.sel [] G G)⟩
 refine wp_skip ?_;refine k6 _ _ ?_;refine wp_seq_k fun K9 k9=>?_
 refine sS H fun K10 k10=>sr 1 G<|sL dP rfl<|sr 1 G<|sE ?_;clear H a;intro a H
 refine k10 _ ?_;refine wp_block ?_;refine loop_st (X:=Nat) (R0:=_) [1,2,16,17] H rfl (fun k=>[(18,.int .i64 (k:Int))]) (fun k=>[]) (fun g k=>k≤l.length∧g+k=l.length∧∀ q,q<k→tskB y l q=true) (l.length) 0 ?_ (S.sel [0] G G) (H.keep [18,1,2,16,17] rfl) ?_
 · exact ⟨by omega,by omega,fun q hq=>absurd hq (Nat.not_lt_zero q)⟩
 clear H S a;intro g1 x1 a w1 hp S H K11 k11;obtain ⟨k,rfl⟩:∃ y,y=x1:=⟨_,rfl⟩;refine sS H fun K12 k12=>sr 1 G<|sE ?_;clear H a;intro a H
 refine k12 _ ?_;refine wp_seq_k fun K13 k13=>?_
 refine condL H rfl (fun hc3=>?_) (fun hc3=>?_)
 ·skip
  refine wp_skip ?_;refine k13 _ _ ?_;refine wp_seq_k fun K14 k14=>?_
  refine wp_block ?_;refine seq_list fun K15 k15=>?_
  refine ls 3 H<|sr 1 G<|si dP dG G G (hl.adr (by omega)) (by omega)<|sd ((aU oV dG rfl S hl (by omega) (by omega)))<|sE ?_;clear H a;intro a H
  refine aJ H rfl S sX ?_;clear H a S;intro b7 _ a hb7 hbw7 S H
  refine ls 1 H<|sr 1 G<|sE ?_;clear H a;intro a H
  refine aE H S (i:=0) G G G G dG G G ?_
  clear H a S;intro _ a S H;refine k15 _ _ ?_;rcases chk5 (0≤(l.getD k aFh).day∧(l.getD k aFh).day≤y.days-1) (0≤(l.getD k aFh).unit∧(l.getD k aFh).unit≤(y.us.length:Int)-1) (1≤(l.getD k aFh).kind∧(l.getD k aFh).kind≤2) k with hB|hB|hB|hB|hB
  ·skip
   skip
   replace H:=H.keep [1,2,6,7,16,17,18] rfl;replace S:=S.drew;refine seq_wq [(0,true),(1,true),(2,true),(3,true),(4,true),(5,false),(6,true),(7,true),(8,true),(9,true),(10,true),(11,true),(12,true),(13,true),(14,true),(15,true),(16,true),(17,true),(18,true),(19,true),(20,true),(21,true),(22,true),(23,true),(24,true),(25,true),(26,true),(27,true),(28,true),(29,true),(30,true),(31,true),(32,true),(33,true),(34,true),(35,true),(36,true)] (by kernel_rfl) (by kernel_rfl) (S.sel [0,1] G G) fun K16 k16=>?_
   refine qF H<|qd G (fun _ S=>(aC dK rfl))<|qd G (fun _ S=>aF aD rfl (aEh S (i:=0) G G))<|qd G (fun _ S=>(aC dZ rfl))<|qd G (fun _ S=>aF aD rfl (aEh S (i:=1) G G))<|qd G (fun _ S=>aR G G (by unfold i64ok;omega))<|qK ?_;clear H a;intro a H
   refine aT rfl ?_
   refine aA H G G Tryz.func82 G G (bO _ _ _ _) ?_;clear H a
   rintro _ _ a ⟨rfl,rfl⟩ H;refine wpList_nil (And.intro (S.sel [0,1] rfl rfl) ?_);refine qF H<|qd G (fun _ S=>gU rfl (by omega))<|qr 1 G<|qK ?_;clear H a;intro a H
   refine aK H G G G G G ?_;clear H a;intro a H
   refine aK H G G G G G ?_;clear H a;intro a H
   refine aK H G G G G G ?_;clear H a;intro a H
   refine aK H G G G G G ?_;clear H a;intro a H
   refine aK H G G G G G ?_;clear H a;intro a H
   refine aK H G G G G G ?_;clear H a;intro a H
   refine aK H G G G G G ?_;clear H a;intro a H
   refine aK H G G G G G ?_;clear H a;intro a H
   refine qF H<|qd G (fun _ S=>(aV G G G))<|qr 1 G<|qK ?_;clear H a;intro a H
   refine aK H G G G G G ?_;clear H a;intro a H
   refine aK H G G G G G ?_;clear H a;intro a H
   refine aK H G G G G G ?_;clear H a;intro a H
   refine aK H G G G G G ?_;clear H a;intro a H
   refine qF H<|qd G (fun _ S=>(aV G G G))<|qr 1 G<|qK ?_;clear H a;intro a H
   refine aK H G G G G G ?_;clear H a;intro a H
   refine aK H G G G G G ?_;clear H a;intro a H
   refine aK H G G G G G ?_;clear H a;intro a H
   refine bT H G G G G ?_;clear H a;intro a H
   refine bT H G G G G ?_;clear H a;intro a H
   refine bT H G G G G ?_;clear H a;intro a H
   refine bT H G G G G ?_;clear H a;intro a H
   refine bT H G G G G ?_;clear H a;intro a H
   refine bT H G G G G ?_;clear H a;intro a H
   refine bT H G G G G ?_;clear H a;intro a H
   refine bT H G G G G ?_;clear H a;intro a H
   refine aK H G G G G G ?_;clear H a;intro a H
   refine qF H<|qd G (fun _ S=>(aV G G G))<|qK ?_;clear H a;intro a H
   refine bL ?_
   refine k16 _ _ ?_;refine cond_ H rfl (fun hc4=>?_) (fun hc4=>?_)
   ·skip
    skip
    replace H:=H.keep [] rfl;refine sS H fun K17 k17=>sr 1 G<|sE ?_;clear H a;intro a H
    refine k17 _ ?_;refine wp_ret ?_;refine ret1 (fn:=Tryz.f39) rfl H rfl ?_;rw [gR hye (by omega) (show k<l.length by omega) (mA (by omega))];exact ⟨rfl,(S.sel [] G G)⟩
   skip
   cases hc4
  ·skip
   skip
   replace H:=H.keep [1,2,6,7,16,17,18] rfl;replace S:=S.drew;refine seq_wq [(0,true),(1,true),(2,true),(3,true),(4,true),(5,false),(6,true),(7,true),(8,true),(9,true),(10,true),(11,true),(12,true),(13,true),(14,false),(15,true),(16,true),(17,true),(18,true),(19,true),(20,true),(21,true),(22,true),(23,true),(24,true),(25,true),(26,true),(27,true),(28,true),(29,true),(30,true),(31,true),(32,true),(33,true),(34,true),(35,true),(36,true)] (by kernel_rfl) (by kernel_rfl) (S.sel [0,1] G G) fun K18 k18=>?_
   refine qF H<|qd G (fun _ S=>(aC dK rfl))<|qd G (fun _ S=>aF aD rfl (aEh S (i:=0) G G))<|qd G (fun _ S=>(aC dZ rfl))<|qd G (fun _ S=>aF aD rfl (aEh S (i:=1) G G))<|qd G (fun _ S=>aR G G (by unfold i64ok;omega))<|qK ?_;clear H a;intro a H
   refine aT rfl ?_
   refine aA H G G Tryz.func82 G G (bO _ _ _ _) ?_;clear H a
   rintro _ _ a ⟨rfl,rfl⟩ H;refine wpList_nil (And.intro (S.sel [0,1] rfl rfl) ?_);refine qF H<|qd G (fun _ S=>bV rfl (by omega))<|qr 1 G<|qK ?_;clear H a;intro a H
   refine aG H G G G G (fun _ S=>(aC eA rfl)) ?_;clear H a;intro a H
   refine aG H G G G G (fun _ S=>aF aD rfl (aEh S (i:=0) G G)) ?_;clear H a;intro a H
   refine aG H G G G G (fun _ S=>(aC dD rfl)) ?_;clear H a;intro a H
   refine aG H G G G G (fun _ S=>aF eR rfl (aEh S (i:=1) G G)) ?_;clear H a;intro a H
   refine aG H G G G G (fun _ S=>cE fJ rfl) ?_;clear H a;intro a H
   refine aG H G G G G (fun _ S=>aR G G (by unfold i64ok;omega)) ?_;clear H a;intro a H
   refine aT rfl ?_
   refine bA H G G ?_
   refine aA H G G Tryz.func82 G G (bO _ _ _ _) ?_;clear H a
   rintro _ _ a ⟨rfl,rfl⟩ H;refine wpList_nil (And.intro (S.sel [0,1] rfl rfl) ?_);refine aG H rfl rfl rfl rfl (fun _ S=>gU rfl (by omega)) ?_;clear H a;intro a H;refine qF H<|qd G (fun _ S=>(aZ rfl rfl rfl))<|qr 1 G<|qK ?_;clear H a;intro a H
   refine aK H G G G G G ?_;clear H a;intro a H
   refine aK H G G G G G ?_;clear H a;intro a H
   refine aK H G G G G G ?_;clear H a;intro a H
   refine aK H G G G G G ?_;clear H a;intro a H
   refine qF H<|qd G (fun _ S=>(aV G G G))<|qr 1 G<|qK ?_;clear H a;intro a H
   refine aK H G G G G G ?_;clear H a;intro a H
   refine aK H G G G G G ?_;clear H a;intro a H
   refine aK H G G G G G ?_;clear H a;intro a H
   refine bT H G G G G ?_;clear H a;intro a H
   refine bT H G G G G ?_;clear H a;intro a H
   refine bT H G G G G ?_;clear H a;intro a H
   refine bT H G G G G ?_;clear H a;intro a H
   refine bT H G G G G ?_;clear H a;intro a H
   refine bT H G G G G ?_;clear H a;intro a H
   refine bT H G G G G ?_;clear H a;intro a H
   refine bT H G G G G ?_;clear H a;intro a H
   refine aK H G G G G G ?_;clear H a;intro a H
   refine qF H<|qd G (fun _ S=>(aV G G G))<|qK ?_;clear H a;intro a H
   refine bL ?_
   refine k18 _ _ ?_;refine cond_ H rfl (fun hc5=>?_) (fun hc5=>?_)
   ·skip
    skip
    replace H:=H.keep [] rfl;refine sS H fun K19 k19=>sr 1 G<|sE ?_;clear H a;intro a H
    refine k19 _ ?_;refine wp_ret ?_;refine ret1 (fn:=Tryz.f39) rfl H rfl ?_;rw [gR hye (by omega) (show k<l.length by omega) (mA (by omega))];exact ⟨rfl,(S.sel [] G G)⟩
   skip
   cases hc5
  ·skip
   skip
   replace H:=H.keep [1,2,6,7,16,17,18] rfl;replace S:=S.drew;refine seq_wq [(0,true),(1,true),(2,true),(3,true),(4,true),(5,false),(6,true),(7,true),(8,true),(9,true),(10,true),(11,true),(12,true),(13,true),(14,false),(15,true),(16,true),(17,true),(18,true),(19,true),(20,false),(21,true),(22,true),(23,true),(24,true),(25,true),(26,true),(27,true),(28,true),(29,true),(30,true),(31,true),(32,true),(33,true),(34,true),(35,true),(36,true)] (by kernel_rfl) (by kernel_rfl) (S.sel [0,1] G G) fun K20 k20=>?_
   refine qF H<|qd G (fun _ S=>(aC dK rfl))<|qd G (fun _ S=>aF aD rfl (aEh S (i:=0) G G))<|qd G (fun _ S=>(aC dZ rfl))<|qd G (fun _ S=>aF aD rfl (aEh S (i:=1) G G))<|qd G (fun _ S=>aR G G (by unfold i64ok;omega))<|qK ?_;clear H a;intro a H
   refine aT rfl ?_
   refine aA H G G Tryz.func82 G G (bO _ _ _ _) ?_;clear H a
   rintro _ _ a ⟨rfl,rfl⟩ H;refine wpList_nil (And.intro (S.sel [0,1] rfl rfl) ?_);refine qF H<|qd G (fun _ S=>bV rfl (by omega))<|qr 1 G<|qK ?_;clear H a;intro a H
   refine aG H G G G G (fun _ S=>(aC eA rfl)) ?_;clear H a;intro a H
   refine aG H G G G G (fun _ S=>aF aD rfl (aEh S (i:=0) G G)) ?_;clear H a;intro a H
   refine aG H G G G G (fun _ S=>(aC dD rfl)) ?_;clear H a;intro a H
   refine aG H G G G G (fun _ S=>aF eR rfl (aEh S (i:=1) G G)) ?_;clear H a;intro a H
   refine aG H G G G G (fun _ S=>cE fJ rfl) ?_;clear H a;intro a H
   refine aG H G G G G (fun _ S=>aR G G (by unfold i64ok;omega)) ?_;clear H a;intro a H
   refine aT rfl ?_
   refine bA H G G ?_
   refine aA H G G Tryz.func82 G G (bO _ _ _ _) ?_;clear H a
   rintro _ _ a ⟨rfl,rfl⟩ H;refine wpList_nil (And.intro (S.sel [0,1] rfl rfl) ?_);refine aG H rfl rfl rfl rfl (fun _ S=>bV rfl (by omega)) ?_;clear H a;intro a H;refine qF H<|qd G (fun _ S=>(aZ rfl rfl rfl))<|qr 1 G<|qK ?_;clear H a;intro a H
   refine aG H G G G G (fun _ S=>(aC gE rfl)) ?_;clear H a;intro a H
   refine aG H G G G G (fun _ S=>aF aD rfl (aEh S (i:=0) G G)) ?_;clear H a;intro a H
   refine aT rfl ?_
   refine bA H G G ?_
   refine aA H G G Tryz.func82 G G (bO _ _ _ _) ?_;clear H a
   rintro _ _ a ⟨rfl,rfl⟩ H;refine wpList_nil (And.intro (S.sel [0,1] rfl rfl) ?_);refine aG H rfl rfl rfl rfl (fun _ S=>gU rfl (by omega)) ?_;clear H a;intro a H;refine qF H<|qd G (fun _ S=>(aZ rfl rfl rfl))<|qr 1 G<|qK ?_;clear H a;intro a H
   refine aK H G G G G G ?_;clear H a;intro a H
   refine aK H G G G G G ?_;clear H a;intro a H
   refine aK H G G G G G ?_;clear H a;intro a H
   refine bT H G G G G ?_;clear H a;intro a H
   refine bT H G G G G ?_;clear H a;intro a H
   refine bT H G G G G ?_;clear H a;intro a H
   refine bT H G G G G ?_;clear H a;intro a H
   refine bT H G G G G ?_;clear H a;intro a H
   refine bT H G G G G ?_;clear H a;intro a H
   refine bT H G G G G ?_;clear H a;intro a H
   refine bT H G G G G ?_;clear H a;intro a H
   refine aK H G G G G G ?_;clear H a;intro a H
   refine qF H<|qd G (fun _ S=>(aV G G G))<|qK ?_;clear H a;intro a H
   refine bL ?_
   refine k20 _ _ ?_;refine cond_ H rfl (fun hc6=>?_) (fun hc6=>?_)
   ·skip
    skip
    replace H:=H.keep [] rfl;refine sS H fun K21 k21=>sr 1 G<|sE ?_;clear H a;intro a H
    refine k21 _ ?_;refine wp_ret ?_;refine ret1 (fn:=Tryz.f39) rfl H rfl ?_;rw [gR hye (by omega) (show k<l.length by omega) (mA (by omega))];exact ⟨rfl,(S.sel [] G G)⟩
   skip
   cases hc6
  ·skip
   skip
   replace H:=H.keep [1,2,6,7,16,17,18] rfl;replace S:=S.drew;refine seq_wq [(0,true),(1,true),(2,true),(3,true),(4,true),(5,false),(6,true),(7,true),(8,true),(9,true),(10,true),(11,true),(12,true),(13,true),(14,false),(15,true),(16,true),(17,true),(18,true),(19,true),(20,false),(21,true),(22,true),(23,true),(24,true),(25,true),(26,true),(27,true),(28,true),(29,true),(30,true),(31,true),(32,true),(33,true),(34,true),(35,true),(36,true)] (by kernel_rfl) (by kernel_rfl) (S.sel [0,1] G G) fun K22 k22=>?_
   refine qF H<|qd G (fun _ S=>(aC dK rfl))<|qd G (fun _ S=>aF aD rfl (aEh S (i:=0) G G))<|qd G (fun _ S=>(aC dZ rfl))<|qd G (fun _ S=>aF aD rfl (aEh S (i:=1) G G))<|qd G (fun _ S=>aR G G (by unfold i64ok;omega))<|qK ?_;clear H a;intro a H
   refine aT rfl ?_
   refine aA H G G Tryz.func82 G G (bO _ _ _ _) ?_;clear H a
   rintro _ _ a ⟨rfl,rfl⟩ H;refine wpList_nil (And.intro (S.sel [0,1] rfl rfl) ?_);refine qF H<|qd G (fun _ S=>bV rfl (by omega))<|qr 1 G<|qK ?_;clear H a;intro a H
   refine aG H G G G G (fun _ S=>(aC eA rfl)) ?_;clear H a;intro a H
   refine aG H G G G G (fun _ S=>aF aD rfl (aEh S (i:=0) G G)) ?_;clear H a;intro a H
   refine aG H G G G G (fun _ S=>(aC dD rfl)) ?_;clear H a;intro a H
   refine aG H G G G G (fun _ S=>aF eR rfl (aEh S (i:=1) G G)) ?_;clear H a;intro a H
   refine aG H G G G G (fun _ S=>cE fJ rfl) ?_;clear H a;intro a H
   refine aG H G G G G (fun _ S=>aR G G (by unfold i64ok;omega)) ?_;clear H a;intro a H
   refine aT rfl ?_
   refine bA H G G ?_
   refine aA H G G Tryz.func82 G G (bO _ _ _ _) ?_;clear H a
   rintro _ _ a ⟨rfl,rfl⟩ H;refine wpList_nil (And.intro (S.sel [0,1] rfl rfl) ?_);refine aG H rfl rfl rfl rfl (fun _ S=>bV rfl (by omega)) ?_;clear H a;intro a H;refine qF H<|qd G (fun _ S=>(aZ rfl rfl rfl))<|qr 1 G<|qK ?_;clear H a;intro a H
   refine aG H G G G G (fun _ S=>(aC gE rfl)) ?_;clear H a;intro a H
   refine aG H G G G G (fun _ S=>aF aD rfl (aEh S (i:=0) G G)) ?_;clear H a;intro a H
   refine aT rfl ?_
   refine bA H G G ?_
   refine aA H G G Tryz.func82 G G (bO _ _ _ _) ?_;clear H a
   rintro _ _ a ⟨rfl,rfl⟩ H;refine wpList_nil (And.intro (S.sel [0,1] rfl rfl) ?_);refine aG H rfl rfl rfl rfl (fun _ S=>bV rfl (by omega)) ?_;clear H a;intro a H;refine qF H<|qd G (fun _ S=>(aZ rfl rfl rfl))<|qr 1 G<|qK ?_;clear H a;intro a H
   refine aG H G G G G (fun _ S=>aL rfl) ?_;clear H a;intro a H
   refine aG H G G G G (fun _ S=>xQ G G (by omega)) ?_;clear H a;intro a H
   refine aG H G G G G (fun _ S=>aL rfl) ?_;clear H a;intro a H
   refine aK H G G G G G ?_;clear H a;intro a H
   refine aK H G G G G G ?_;clear H a;intro a H
   refine aK H G G G G G ?_;clear H a;intro a H
   refine aK H G G G G G ?_;clear H a;intro a H
   refine aK H G G G G G ?_;clear H a;intro a H
   refine aK H G G G G G ?_;clear H a;intro a H
   refine aK H G G G G G ?_;clear H a;intro a H
   refine aK H G G G G G ?_;clear H a;intro a H
   refine aG H G G G G (fun _ S=>(aV G G G)) ?_;clear H a;intro a H
   refine qF H<|qd G (fun _ S=>(aZ G G G))<|qK ?_;clear H a;intro a H
   refine bL ?_
   refine k22 _ _ ?_;refine cond_ H rfl (fun hc7=>?_) (fun hc7=>?_)
   ·skip
    skip
    cases hc7
   skip
   refine wp_skip ?_;refine k14 _ _ ?_;replace H:=H.keep [1,2,16,17,18] rfl;refine sO H<|sd (aI G G (by unfold i64ok;omega))<|sr 1 G<|sE ?_;clear H a;intro a H
   exact k11 (g1-1) (k+1) a _ (by omega) (by first|exact ⟨by omega,by omega,fG (f:=tskB y l) hp.2.2 (oL hB)⟩|exact ⟨by omega,by omega,fG (f:=tskB y l) hp.2.2 (oM hB hc8)⟩) (S.sel [1] G G) (H.keep [18,1,2,16,17] rfl)
  skip
  replace H:=H.keep [1,2,6,7,16,17,18] rfl;replace S:=S.drew;refine seq_wq [(0,true),(1,true),(2,true),(3,true),(4,true),(5,false),(6,true),(7,true),(8,true),(9,true),(10,true),(11,true),(12,true),(13,true),(14,false),(15,true),(16,true),(17,true),(18,true),(19,true),(20,false),(21,true),(22,true),(23,true),(24,true),(25,true),(26,true),(27,true),(28,true),(29,true),(30,true),(31,true),(32,true),(33,false),(34,true),(35,true),(36,true)] (by kernel_rfl) (by kernel_rfl) (S.sel [0,1] G G) fun K24 k24=>?_
  refine qF H<|qd G (fun _ S=>(aC dK rfl))<|qd G (fun _ S=>aF aD rfl (aEh S (i:=0) G G))<|qd G (fun _ S=>(aC dZ rfl))<|qd G (fun _ S=>aF aD rfl (aEh S (i:=1) G G))<|qd G (fun _ S=>aR G G (by unfold i64ok;omega))<|qK ?_;clear H a;intro a H
  refine aT rfl ?_
  refine aA H G G Tryz.func82 G G (bO _ _ _ _) ?_;clear H a
  rintro _ _ a ⟨rfl,rfl⟩ H;refine wpList_nil (And.intro (S.sel [0,1] rfl rfl) ?_);refine qF H<|qd G (fun _ S=>bV rfl (by omega))<|qr 1 G<|qK ?_;clear H a;intro a H
  refine aG H G G G G (fun _ S=>(aC eA rfl)) ?_;clear H a;intro a H
  refine aG H G G G G (fun _ S=>aF aD rfl (aEh S (i:=0) G G)) ?_;clear H a;intro a H
  refine aG H G G G G (fun _ S=>(aC dD rfl)) ?_;clear H a;intro a H
  refine aG H G G G G (fun _ S=>aF eR rfl (aEh S (i:=1) G G)) ?_;clear H a;intro a H
  refine aG H G G G G (fun _ S=>cE fJ rfl) ?_;clear H a;intro a H
  refine aG H G G G G (fun _ S=>aR G G (by unfold i64ok;omega)) ?_;clear H a;intro a H
  refine aT rfl ?_
  refine bA H G G ?_
  refine aA H G G Tryz.func82 G G (bO _ _ _ _) ?_;clear H a
  rintro _ _ a ⟨rfl,rfl⟩ H;refine wpList_nil (And.intro (S.sel [0,1] rfl rfl) ?_);refine aG H rfl rfl rfl rfl (fun _ S=>bV rfl (by omega)) ?_;clear H a;intro a H;refine qF H<|qd G (fun _ S=>(aZ rfl rfl rfl))<|qr 1 G<|qK ?_;clear H a;intro a H
  refine aG H G G G G (fun _ S=>(aC gE rfl)) ?_;clear H a;intro a H
  refine aG H G G G G (fun _ S=>aF aD rfl (aEh S (i:=0) G G)) ?_;clear H a;intro a H
  refine aT rfl ?_
  refine bA H G G ?_
  refine aA H G G Tryz.func82 G G (bO _ _ _ _) ?_;clear H a
  rintro _ _ a ⟨rfl,rfl⟩ H;refine wpList_nil (And.intro (S.sel [0,1] rfl rfl) ?_);refine aG H rfl rfl rfl rfl (fun _ S=>bV rfl (by omega)) ?_;clear H a;intro a H;refine qF H<|qd G (fun _ S=>(aZ rfl rfl rfl))<|qr 1 G<|qK ?_;clear H a;intro a H
  refine aG H G G G G (fun _ S=>aL rfl) ?_;clear H a;intro a H
  refine aG H G G G G (fun _ S=>xP G G (by omega)) ?_;clear H a;intro a H
  refine aG H G G G G (fun _ S=>aL rfl) ?_;clear H a;intro a H
  refine aG H G G G G (fun _ S=>aL rfl) ?_;clear H a;intro a H
  refine aG H G G G G (fun _ S=>aL rfl) ?_;clear H a;intro a H
  refine aG H G G G G (fun _ S=>aR G G (by unfold i64ok;omega)) ?_;clear H a;intro a H
  refine aG H G G G G (fun _ S=>bZ dP dG G G (hl.adr (by omega)) (by omega) (by omega)) ?_;clear H a;intro a H
  refine aG H G G G G (fun _ S=>(aU oV dG rfl S hl (by omega) (by omega))) ?_;clear H a;intro a H
  refine aG H G G G G (fun _ S=>(aB oV dG rfl S (i:=0) G G)) ?_;clear H a;intro a H
  refine aT rfl ?_
  refine bA H G G ?_
  refine aA H G G Tryz.func83 G G (My (l.getD ((k:Int)-1).toNat aFh) (l.getD k aFh) _) ?_;clear H a
  rintro _ _ a ⟨rfl,S2⟩ H;replace S:=S.call S2;clear S2;refine wpList_nil (And.intro (S.sel [0,1] rfl rfl) ?_);refine aG H rfl rfl rfl rfl (fun _ S=>cO rfl) ?_;clear H a;intro a H;refine aG H rfl rfl rfl rfl (fun _ S=>(jQ rfl rfl rfl)) ?_;clear H a;intro a H;refine qF H<|qd G (fun _ S=>(aZ rfl rfl rfl))<|qK ?_;clear H a;intro a H
  refine bL ?_
  refine k24 _ _ ?_;refine cond_ H rfl (fun hc8=>?_) (fun hc8=>?_)
  ·skip
   try simp only [oz] at hc8
   replace hc8:befB (l.getD ((k:Int)-1).toNat aFh) (l.getD k aFh)=false:=by simpa using hc8
   replace H:=H.keep [] rfl;refine sS H fun K25 k25=>sr 1 G<|sE ?_;clear H a;intro a H
   refine k25 _ ?_;refine wp_ret ?_;refine ret1 (fn:=Tryz.f39) rfl H rfl ?_;rw [gR hye (by omega) (show k<l.length by omega) (Ee hB hc8)];exact ⟨rfl,(S.sel [] G G)⟩
  try simp only [oz] at hc8
  replace hc8:befB (l.getD ((k:Int)-1).toNat aFh) (l.getD k aFh)=true:=by simpa using hc8
  refine wp_skip ?_;refine k14 _ _ ?_;refine sO H<|sd (aI G G (by unfold i64ok;omega))<|sr 1 G<|sE ?_;clear H a;intro a H
  exact k11 (g1-1) (k+1) a _ (by omega) (by first|exact ⟨by omega,by omega,fG (f:=tskB y l) hp.2.2 (oL hB)⟩|exact ⟨by omega,by omega,fG (f:=tskB y l) hp.2.2 (oM hB hc8)⟩) (S.sel [1] G G) (H.keep [18,1,2,16,17] rfl)
 refine wp_exit ?_;refine k9 _ _ ?_;refine sS H fun K27 k27=>sr 1 G<|sE ?_;clear H a;intro a H
 refine k27 _ ?_;refine wp_ret ?_;refine ret1 (fn:=Tryz.f39) rfl H rfl ?_;rw [Dj hye (by omega) (bI.2 fun q hq=>hp.2.2 q (by omega))];exact ⟨rfl,(S.sel [] G G)⟩
end
section
open Classical in
noncomputable def yrB (y:Yr):Bool:=if yrI y then true else false
theorem Th {y:Yr} (h:yrI y):yrB y=true:=by unfold yrB;rw [if_pos h]
theorem Ti {y:Yr} (h:¬ yrI y):yrB y=false:=by unfold yrB;rw [if_neg h]
theorem Yb {y:Yr}:yrB y=true↔yrI y:=⟨fun h=>Classical.byContradiction (fun h2=>by rw [Ti h2] at h;cases h),Th⟩
theorem Yc {pl:Int} {ps:List Psg} {xs pe:List Int} {T:Int} (h:stE pl ps xs=0):dO pl ps xs 0 pe T=0↔((pe.length:Int)=pl∧∀ k,k<pe.length→0≤pe.getD k 0∧pe.getD k 0≤1000)∧(0≤T∧T≤60):=by
  constructor
  · intro h1
    obtain ⟨_,_,h2,h3⟩:=jC h1;have h4:=qN h2;exact ⟨⟨h4.2,h4.1⟩,h3⟩
  · rintro ⟨⟨h1,h2⟩,h3⟩
    unfold dO
    rw [if_neg (by omega),if_pos];have h4:eN pl pe=true:=by unfold eN;rw [decide_eq_true h1,Bool.and_true,bI];exact fun k hk=>decide_eq_true (h2 k hk)
    rw [h4,decide_eq_true h3];rfl
theorem Tj {ps:List Psg} {us:List Unt} {n i:Nat} {m:Int}:freeN ps us n (i+1) m=(freeN ps us n i m&&!decide ((us.getD i aFg).mach=m)):=by
 unfold freeN
 simp only [allN,Bool.and_assoc]
theorem Mz {p:Part} {l:List Use} (h:cK p l=0):wearE p l=0↔(refO p l).2.1=false:=by
  unfold refO
  rw [if_neg (by omega)];constructor
  · intro h1
    rw [if_neg (by rw [Az (mN h1).2];omega)]
  · intro h1
    split at h1
    · cases h1
    · exact wJ h (Ws.2 (by have:=(Ay p l).le;omega))
theorem Na {l:List Use} {o:Int} (h0:0≤o) (h:¬ (0<l.length∧o<(l.getD ((l.length:Int)-1).toNat aFi).day)):prevD l l.length≤o:=by
  rcases Nat.eq_zero_or_pos l.length with e|e
  · rw [e];exact h0
  · have h1:=pM (l:=l) (k:=((l.length:Int)-1).toNat) (by omega)
    omega
theorem Nb {l:List Use} {o:Int} (e:0<l.length) (h:o<(l.getD ((l.length:Int)-1).toNat aFi).day):o<prevD l l.length:=by
 have h1:=pM (l:=l) (k:=((l.length:Int)-1).toNat) (by omega)
 omega
theorem cW (n lo hi:Int) (w:World) :
    Calls Tryz.prog 48 [.int .i64 n,.int .i64 lo,.int .i64 hi].toArray w (Ret (fun v w'=>v = .bool (decide (lo≤n)&&decide (n≤hi))∧w'=w)):=by
 refine enter Tryz.func48 rfl Tryz.ntmps48 rfl (fun a H=>?_)
 have S:=St.start w
 refine sS H fun K1 k1=>sr 1 G<|sE ?_;intro a H
 refine k1 _ ?_;replace H:=H.keep [0,1,2] rfl;refine sS H fun K2 k2=>sr 4 G<|sg 3 3 10 13 true G G (fun hg4=>sy hg4<|sr 1 G<|sy hg4<|sr 1 G<|sy hg4<|sr 1 G<|sz 3 G G G)<|sa G G G<|sr 1 G<|sE ?_;intro a H
 refine k2 _ ?_;refine wp_ret ?_;refine ret1 (fn:=Tryz.f48) rfl H rfl ?_;exact ⟨rfl,rfl⟩
theorem Nc (a b:Tsk) (w:World) :
    Calls Tryz.prog 49 [.agg [.int .i64 a.day,.int .i64 a.unit,.int .i64 a.kind].toArray,.agg [.int .i64 b.day,.int .i64 b.unit,.int .i64 b.kind].toArray].toArray w (Ret (fun v w'=>v = .bool (befB a b)∧St w noF [] w')):=by
 refine enter Tryz.func49 rfl Tryz.ntmps49 rfl (fun a H=>?_)
 have S:=St.start w
 refine seq_list fun K1 k1=>?_
 refine aO H rfl S G G ?_;intro b2 _ a hb2 hbw2 S H
 refine aO H rfl S G G ?_;intro b3 _ a hb3 hbw3 S H
 refine ls 1 H<|sr 1 G<|sE ?_;intro a H
 refine k1 _ _ ?_;refine wp_seq_k fun K2 k2=>?_
 refine sS H fun K3 k3=>sf dK rfl<|sl S 1 aD G G G<|sf dK rfl<|sl S 0 aD G G G<|sr 1 G<|sE ?_;intro a H
 refine k3 _ ?_;refine condN H rfl (fun hc1=>?_) (fun hc1=>?_)
 ·skip
  replace H:=H.keep [2,3] rfl;refine sS H fun K4 k4=>sf dK rfl<|sl S 1 aD G G G<|sf dK rfl<|sl S 0 aD G G G<|sr 2 G<|sE ?_;intro a H
  refine k4 _ ?_;refine wp_ret ?_;refine ret1 (fn:=Tryz.f49) rfl H rfl ?_;refine ⟨?_,(S.sel [] G G)⟩;unfold befB;rw [if_pos hc1]
 refine wp_skip ?_;refine k2 _ _ ?_;refine wp_seq_k fun K5 k5=>?_
 replace H:=H.keep [2,3] rfl;refine sS H fun K6 k6=>sf eA rfl<|sl S 1 aD G G G<|sf eA rfl<|sl S 0 aD G G G<|sr 1 G<|sE ?_;intro a H
 refine k6 _ ?_;refine condN H rfl (fun hc2=>?_) (fun hc2=>?_)
 ·skip
  replace H:=H.keep [2,3] rfl;refine sS H fun K7 k7=>sf eA rfl<|sl S 1 aD G G G<|sf eA rfl<|sl S 0 aD G G G<|sr 2 G<|sE ?_;intro a H
  refine k7 _ ?_;refine wp_ret ?_;refine ret1 (fn:=Tryz.f49) rfl H rfl ?_;refine ⟨?_,(S.sel [] G G)⟩;unfold befB;rw [if_neg (fun h=>h (by omega)),if_pos hc2]
 refine wp_skip ?_;refine k5 _ _ ?_;replace H:=H.keep [2,3] rfl;refine sS H fun K8 k8=>sf gE rfl<|sl S 1 aD G G G<|sf gE rfl<|sl S 0 aD G G G<|sr 2 G<|sE ?_;intro a H
 refine k8 _ ?_;refine wp_ret ?_;refine ret1 (fn:=Tryz.f49) rfl H rfl ?_;refine ⟨?_,(S.sel [] G G)⟩;unfold befB;rw [if_neg (fun h=>h (by omega)),if_neg (fun h=>h (by omega))]
theorem Nd (y:Yr) (w:World) (hy:YIn w noF y) (hyb:YBd y) (hst:stE y.pl y.ps y.xs=0) :
    Calls Tryz.prog 86 [.agg [.int .i64 y.days,.int .i64 y.pl,.slice y.PA y.ps.length y.pc,.slice y.XA y.xs.length y.xc,.slice y.BA y.pe.length y.bc,.int .i64 y.limit,.bool y.help,.slice y.QA y.prs.length y.qc,.slice y.VA y.us.length y.vc,.int .i64 y.crew,.slice y.SA y.sps.length y.sc].toArray].toArray w (Ret (fun v w'=>v = .bool (yrB y)∧St w noF [] w')):=by
 have hlv:=Yc (pe:=y.pe) (T:=y.limit) hst;have hn4:=hyb.spn
 refine enter Tryz.func86 rfl Tryz.ntmps86 rfl (fun a H=>?_)
 have S:=St.start w
 refine seq_list fun K1 k1=>?_
 refine aO H rfl S G G ?_;intro b1 _ a hb1 hbw1 S H
 refine ls 1 H<|sr 1 G<|sE ?_;intro a H
 refine k1 _ _ ?_;refine wp_seq_k fun K2 k2=>?_
 replace H:=H.keep [1] rfl;refine seq_list fun K3 k3=>?_
 refine ls 2 H<|sf dZ rfl<|sl S 0 aD G G G<|sE ?_;intro a H
 refine aA H G G Tryz.func48 G G (cW _ _ _ _) ?_;clear H a
 rintro _ _ a ⟨rfl,rfl⟩ H;refine ls 2 H<|sr 2 G<|sE ?_;intro a H
 apply bR (i:=4) (g:=9) (t:=17) (b:=false) 8 H S G G (by kernel_rfl) (by kernel_rfl) G G
 case h1=>
  intro hg5;refine ls 6 H<|sy hg5<|sf iA rfl<|sy hg5<|sd ((aB bW cQ rfl S (i:=0) G G))<|sy hg5<|sf pX rfl<|sy hg5<|sl S 0 bE G G G<|sy hg5<|sf zN rfl<|sy hg5<|sl S 0 aD G G G<|sE ?_;intro a H
  refine cF H G G (by assumption) ?_
  refine aA H G G Tryz.func25 G G (kS y.pl y.ps y.PA y.pc y.xs y.XA y.xc 0 y.pe y.BA y.bc y.limit _ (hy.ps.now S) hyb.psn (hy.xs.now S) hyb.xsn (hy.pe.now S) hyb.pen) ?_
  rintro _ _ a ⟨rfl,S2⟩ H;replace S:=S.call S2;clear S2;refine ls 1 H<|sy hg5<|sr 1 G<|sE ?_;intro a H
  exact wpList_nil ⟨H.strip 8 G G,(S.sel [0] G G)⟩
 clear H a S;intro a _ H S;refine ls 13 H<|so G G G<|sr 1 G<|sg 4 14 19 23 false G G (fun hg15=>sy hg15<|sf zO rfl<|sy hg15<|sl S 0 aD G G G<|sy hg15<|sc rfl Tryz.func48 G G (cW _ _ _ _)<|sy hg15<|sr 1 G<|sz 4 G G G)<|so G G G<|sr 1 G<|sg 4 20 25 29 false G G (fun hg21=>sy hg21<|sf nX rfl<|sy hg21<|sl S 0 rM G G G<|sy hg21<|sL sW rfl<|sy hg21<|sr 1 G<|sz 4 G G G)<|so G G G<|sE ?_;intro a H
 refine k3 _ _ ?_;refine cond_ H rfl (fun hc1=>?_) (fun hc1=>?_)
 ·skip
  try simp only [oz] at hc1
  replace H:=H.keep [] rfl;refine sS H fun K4 k4=>sr 1 G<|sE ?_;intro a H
  refine k4 _ ?_;refine wp_ret ?_;refine ret1 (fn:=Tryz.f86) rfl H rfl ?_;rw [Ti (fun h=>by unfold yrI at h;have h9:=hlv.2 ⟨h.2.1,h.2.2.1⟩;omega)];exact ⟨rfl,(S.sel [] G G)⟩
 try simp only [oz] at hc1
 refine wp_skip ?_;refine k2 _ _ ?_;refine wp_seq_k fun K5 k5=>?_
 refine sS H fun K6 k6=>sr 1 G<|sE ?_;intro a H
 refine k6 _ ?_;refine wp_block ?_;refine loop_st (X:=Nat) (R0:=_) [1] H rfl (fun k=>[(3,.int .i64 (k:Int))]) (fun k=>[]) (fun g k=>k≤y.sps.length∧g+k=y.sps.length∧∀ q,q<k→sprB y.days (y.sps.getD q aFo)=true) (y.sps.length) 0 ?_ (S.sel [0] G G) (H.keep [3,1] rfl) ?_
 · exact ⟨by omega,by omega,fun q hq=>absurd hq (Nat.not_lt_zero q)⟩
 clear H S a;intro g1 x1 a w1 hp S H K7 k7;obtain ⟨k,rfl⟩:∃ y,y=x1:=⟨_,rfl⟩;refine wp_seq_k fun K8 k8=>?_
 refine sS H fun K9 k9=>sr 1 G<|sf nX rfl<|sl S 0 rM G G G<|sL sW rfl<|sr 1 G<|sE ?_;intro a H
 refine k9 _ ?_;refine condL H rfl (fun hc2=>?_) (fun hc2=>?_)
 ·skip
  refine wp_skip ?_;refine k8 _ _ ?_;refine wp_seq_k fun K10 k10=>?_
  refine wp_block ?_;replace H:=H.keep [1,3] rfl;refine seq_list fun K11 k11=>?_
  refine ls 5 H<|sf nX rfl<|sl S 0 rM G G G<|sr 1 G<|si sW mE G G (hy.sps.adr (by omega)) (by omega)<|sd ((aU zK mE rfl S hy.sps (by omega) (by omega)))<|sE ?_;intro a H
  refine aJ H rfl S Fm ?_;intro b4 _ a hb4 hbw4 S H
  refine aE H S (i:=0) G G G G mE G G ?_
  clear H a S;intro _ a S H;refine k11 _ _ ?_;replace H:=H.keep [1,3,4] rfl;refine sS H fun K12 k12=>sf vC rfl<|sl S 0 aD G G G<|sf dZ rfl<|sl S 1 aD G G G<|sd (aR G G (by unfold i64ok;omega))<|sc rfl Tryz.func48 G G (cW _ _ _ _)<|sr 2 G<|sg 4 7 50 54 false G G (fun hg8=>sy hg8<|sf vD rfl<|sy hg8<|sl S 0 aD G G G<|sy hg8<|sc rfl Tryz.func48 G G (cW _ _ _ _)<|sy hg8<|sr 1 G<|sz 4 G G G)<|so G G G<|sr 1 G<|sg 4 13 56 60 false G G (fun hg14=>sy hg14<|sf vE rfl<|sy hg14<|sl S 0 aD G G G<|sy hg14<|sc rfl Tryz.func48 G G (cW _ _ _ _)<|sy hg14<|sr 1 G<|sz 4 G G G)<|so G G G<|sE ?_;intro a H
  refine k12 _ ?_;refine cond_ H rfl (fun hc3=>?_) (fun hc3=>?_)
  ·skip
   try simp only [oz] at hc3
   replace H:=H.keep [] rfl;refine sS H fun K13 k13=>sr 1 G<|sE ?_;intro a H
   refine k13 _ ?_;refine wp_ret ?_;refine ret1 (fn:=Tryz.f86) rfl H rfl ?_;rw [Ti (fun h=>by have h9:=nS.1 (h.2.2.2.2.2 k (by omega));omega)];exact ⟨rfl,(S.sel [] G G)⟩
  try simp only [oz] at hc3
  refine wp_skip ?_;refine k10 _ _ ?_;refine sO H<|sr 1 G<|sd (aI G G (by unfold i64ok;omega))<|sr 1 G<|sE ?_;intro a H
  exact k7 (g1-1) (k+1) a _ (by omega) (⟨by omega,by omega,fG (f:=fun q=>sprB y.days (y.sps.getD q aFo)) hp.2.2 (nS.2 (by omega))⟩) (S.sel [1] G G) (H.keep [3,1] rfl)
 refine wp_exit ?_;refine k5 _ _ ?_;refine sS H fun K15 k15=>sr 1 G<|sE ?_;intro a H
 refine k15 _ ?_;refine wp_ret ?_;refine ret1 (fn:=Tryz.f86) rfl H rfl ?_;have h9:=hlv.1 (by omega);have h8:=hp.2.2;rw [Th (by unfold yrI;exact ⟨by omega,h9.1,h9.2,by omega,by omega,fun q hq=>h8 q (by omega)⟩)];exact ⟨rfl,(S.sel [] G G)⟩
theorem Ne (y:Yr) (i:Nat) (w:World) (hy:YIn w noF y) (hyb:YBd y) (hi:i<y.us.length) :
    Calls Tryz.prog 87 [.agg [.int .i64 y.days,.int .i64 y.pl,.slice y.PA y.ps.length y.pc,.slice y.XA y.xs.length y.xc,.slice y.BA y.pe.length y.bc,.int .i64 y.limit,.bool y.help,.slice y.QA y.prs.length y.qc,.slice y.VA y.us.length y.vc,.int .i64 y.crew,.slice y.SA y.sps.length y.sc].toArray,.int .i64 (i:Int)].toArray w (Ret (fun v w'=>v = .bool (untB y.ps y.us i)∧St w noF [] w')):=by
 have hn1:=hyb.psn;have hn3:=hyb.usn;have hn5:(y.us.getD i aFg).uses.length≤9223372036854775807:=hyb.uln hi;have hn6:(y.us.getD i aFg).rates.length≤9223372036854775807:=hyb.rtn hi
 refine enter Tryz.func87 rfl Tryz.ntmps87 rfl (fun a H=>?_)
 have S:=St.start w
 refine seq_list fun K1 k1=>?_
 refine aO H rfl S G G ?_;intro b2 _ a hb2 hbw2 S H
 refine ls 1 H<|sr 1 G<|sE ?_;clear H a;intro a H
 refine k1 _ _ ?_;refine seq_list fun K2 k2=>?_
 refine ls 5 H<|sf dD rfl<|sl S 0 eR G G G<|sr 1 G<|si fJ jS G G (hy.us.adr (by omega)) (by omega)<|sd ((aU rN jS rfl S hy.us (by omega) (by omega)))<|sE ?_;clear H a;intro a H
 refine aJ H rfl S xU ?_;intro b5 _ a hb5 hbw5 S H
 refine aE H S (i:=0) G G G G jS G G ?_
 clear H a S;intro _ a S H;refine k2 _ _ ?_;replace H:=H.keep [1,2,5] rfl;refine sS H fun K3 k3=>sr 1 G<|sE ?_;clear H a;intro a H
 refine k3 _ ?_;refine wp_seq_k fun K4 k4=>?_
 refine sS H fun K5 k5=>sr 1 G<|sE ?_;clear H a;intro a H
 refine k5 _ ?_;refine wp_block ?_;refine loop_st (X:=Nat) (R0:=_) [1,2,5] H rfl (fun k=>[(6,.bool (freeN y.ps y.us k 0 (y.us.getD i aFg).mach)),(7,.int .i64 (k:Int))]) (fun k=>[]) (fun g k=>k≤y.ps.length∧g+k=y.ps.length) (y.ps.length) 0 ?_ (S.sel [0,1] G G) (H.keep [6,7,1,2,5] rfl) ?_
 · exact ⟨by omega,by omega⟩
 clear H S a;intro g1 x1 a w1 hp S H K6 k6;obtain ⟨k,rfl⟩:∃ y,y=x1:=⟨_,rfl⟩;refine wp_seq_k fun K7 k7=>?_
 refine sS H fun K8 k8=>sr 1 G<|sf iA rfl<|sf fS rfl<|sl S 1 iU G G G<|sL iR rfl<|sr 1 G<|sE ?_;clear H a;intro a H
 refine k8 _ ?_;refine condL H rfl (fun hc1=>?_) (fun hc1=>?_)
 ·skip
  refine wp_skip ?_;refine k7 _ _ ?_;refine wp_seq_k fun K9 k9=>?_
  refine wp_block ?_;replace H:=H.keep [1,2,5,6,7] rfl;refine seq_list fun K10 k10=>?_
  refine ls 6 H<|sf iA rfl<|sf fS rfl<|sl S 1 iU G G G<|sr 1 G<|si iR dR G G (hy.ps.adr (by omega)) (by omega)<|sd ((aU jJ dR rfl S hy.ps (by omega) (by omega)))<|sE ?_;clear H a;intro a H
  refine aJ H rfl S oX ?_;intro b8 _ a hb8 hbw8 S H
  refine aE H S (i:=0) G G G G dR G G ?_
  clear H a S;intro _ a S H;refine k10 _ _ ?_;replace H:=H.keep [1,2,5,6,7,8] rfl
  refine sO H<|sr 2 G<|sg 10 1 33 43 false G G (fun hg2=>by
      have hq2:=hg2;try simp only [oz] at hq2
      exact sy hg2<|sf dQ rfl<|sy hg2<|sl S 0 aD G G G<|sy hg2<|sr 1 G<|sy hg2<|sr 1 G<|sg 5 5 37 42 true G G (fun hg6=>by
           have hq6:=hg6;try simp only [oz] at hq6
           exact sy hg6<|sf dQ rfl<|sy hg6<|sl S 0 aD G G G<|sy hg6<|sf nY rfl<|sy hg6<|sl S 1 aD G G G<|sy hg6<|sr 1 G<|sz 5 G G G)<|sy hg2<|sa G G G<|sz 6 G G G)<|so G G G<|sr 1 G<|sE ?_;clear H a;intro a H
  refine k9 _ _ ?_;replace H:=H.keep [1,2,5,6,7] rfl;refine sO H<|sr 1 G<|sd (aI G G (by unfold i64ok;omega))<|sr 1 G<|sE ?_;clear H a;intro a H
  rw [←Dl (ps:=y.ps) (us:=y.us)] at H;exact k6 (g1-1) (k+1) a _ (by omega) (⟨by omega,by omega⟩) (S.sel [1,2] G G) (H.keep [6,7,1,2,5] rfl)
 refine wp_exit ?_;refine k4 _ _ ?_;refine wp_seq_k fun K13 k13=>?_
 refine sS H fun K14 k14=>sr 1 G<|sE ?_;clear H a;intro a H
 refine k14 _ ?_;refine wp_block ?_;obtain rfl:k=y.ps.length:=by omega
 refine loop_st (X:=Nat) (R0:=_) [1,2,5] H rfl (fun k=>[(6,.bool (freeN y.ps y.us y.ps.length k (y.us.getD i aFg).mach)),(9,.int .i64 (k:Int))]) (fun k=>[]) (fun g k=>k≤i∧g+k=i) (i) 0 ?_ (S.sel [0,1] G G) (H.keep [6,9,1,2,5] rfl) ?_
 · exact ⟨by omega,by omega⟩
 clear H S a;intro g2 x2 a w2 hp S H K15 k15;obtain ⟨k,rfl⟩:∃ y,y=x2:=⟨_,rfl⟩;refine wp_seq_k fun K16 k16=>?_
 refine sS H fun K17 k17=>sr 3 G<|sE ?_;clear H a;intro a H
 refine k17 _ ?_;refine condL H rfl (fun hc2=>?_) (fun hc2=>?_)
 ·skip
  refine wp_skip ?_;refine k16 _ _ ?_;refine wp_seq_k fun K18 k18=>?_
  refine wp_block ?_;replace H:=H.keep [1,2,5,6,9] rfl;replace S:=S.drew
  refine sP H<|sr 2 G<|sg 9 1 51 60 true G G (fun hg2=>by
      have hq2:=hg2;try simp only [oz] at hq2
      exact sy hg2<|sf dD rfl<|sy hg2<|sl S 1 eR G G G<|sy hg2<|sr 1 G<|sy hg2<|si fJ jS G G (hy.us.adr (by omega)) (by omega)<|sy hg2<|sp nY rfl<|sy hg2<|slm aD rfl (hy.us.rd S (by omega) (by omega))<|sy hg2<|sf nY rfl<|sy hg2<|sl S 0 aD G G G<|sy hg2<|sr 1 G<|sz 9 G G G)<|sa G G G<|sr 1 G<|sE ?_;clear H a;intro a H
  refine k18 _ _ ?_;replace H:=H.keep [1,2,5,6,9] rfl;refine sO H<|sr 1 G<|sd (aI G G (by unfold i64ok;omega))<|sr 1 G<|sE ?_;clear H a;intro a H
  rw [←Tj (ps:=y.ps) (us:=y.us)] at H;exact k15 (g2-1) (k+1) a _ (by omega) (⟨by omega,by omega⟩) (S.sel [0,1] G G) (H.keep [6,9,1,2,5] rfl)
 refine wp_exit ?_;refine k13 _ _ ?_;refine wp_seq_k fun K21 k21=>?_
 obtain rfl:i=k:=by omega
 replace H:=H.keep [5,6] rfl;refine seq_list fun K22 k22=>?_
 refine ls 21 H<|sr 3 G<|sg 4 2 64 68 false G G (fun hg3=>by
     have hq3:=hg3;try simp only [oz] at hq3
     exact sy hg3<|sf tT rfl<|sy hg3<|sl S 0 aD G G G<|sy hg3<|sc rfl Tryz.func48 G G (cW _ _ _ _)<|sy hg3<|sr 1 G<|sz 4 G G G)<|so G G G<|sr 1 G<|sg 4 8 70 74 false G G (fun hg9=>by
     have hq9:=hg9;try simp only [oz] at hq9
     exact sy hg9<|sf zQ rfl<|sy hg9<|sl S 0 aD G G G<|sy hg9<|sc rfl Tryz.func48 G G (cW _ _ _ _)<|sy hg9<|sr 1 G<|sz 4 G G G)<|so G G G<|sr 1 G<|sg 4 14 76 80 false G G (fun hg15=>by
     have hq15:=hg15;try simp only [oz] at hq15
     exact sy hg15<|sf zR rfl<|sy hg15<|sl S 0 aD G G G<|sy hg15<|sc rfl Tryz.func48 G G (cW _ _ _ _)<|sy hg15<|sr 1 G<|sz 4 G G G)<|so G G G<|sr 1 G<|sE ?_;intro a H
 apply bR (i:=20) (g:=82) (t:=88) (b:=false) 6 H S G G (by kernel_rfl) (by kernel_rfl) G G
 case h1=>
  intro hg21;have hq21:=hg21;try simp only [oz] at hq21
  refine ls 4 H<|sy hg21<|sf nZ rfl<|sy hg21<|sd ((aB fH iQ rfl S (i:=0) G G))<|sy hg21<|sf iB rfl<|sy hg21<|sl S 0 kL G G G<|sE ?_;intro a H
  refine cF H G G (by assumption) ?_
  refine aA H G G Tryz.func126 G G (oQ (y.us.getD i aFg).rates (y.us.getD i aFg).worn (y.us.getD i aFg).turns (y.us.getD i aFg).age (y.us.getD i aFg).RA (y.us.getD i aFg).rc (y.us.getD i aFg).uses (y.us.getD i aFg).UA (y.us.getD i aFg).uc _ ((hy.rt i hi).now S) (hyb.rtn hi) ((hy.ul i hi).now S) (hyb.uln hi)) ?_
  rintro _ _ a ⟨rfl,S2⟩ H;replace S:=S.call S2;clear S2;refine ls 1 H<|sy hg21<|sr 1 G<|sE ?_;intro a H
  exact wpList_nil ⟨H.strip 6 G G,(S.sel [0,1] G G)⟩
 clear H a S;intro a _ H S
 refine ls 7 H<|so G G G<|sr 1 G<|sg 4 28 90 94 false G G (fun hg29=>by
     have hq29:=hg29;try simp only [oz] at hq29
     exact sy hg29<|sf iB rfl<|sy hg29<|sl S 0 kL G G G<|sy hg29<|sL dI rfl<|sy hg29<|sr 1 G<|sz 4 G G G)<|so G G G<|sE ?_;intro a H
 refine k22 _ _ ?_;refine cond_ H rfl (fun hc3=>?_) (fun hc3=>?_)
 ·skip
  try simp only [oz] at hc3
  replace H:=H.keep [] rfl;refine sS H fun K23 k23=>sr 1 G<|sE ?_;intro a H
  refine k23 _ ?_;refine wp_ret ?_;refine ret1 (fn:=Tryz.f87) rfl H rfl ?_;rw [Dm (fun h=>by have h1:freeN y.ps y.us y.ps.length i (y.us.getD i aFg).mach=true:=h.free;have h2:=h.i;have h3:cK ⟨(y.us.getD i aFg).rates,(y.us.getD i aFg).worn,(y.us.getD i aFg).turns,(y.us.getD i aFg).age⟩ (y.us.getD i aFg).uses=0:=(mN h.wear).1;unfold untI at h2;rw [h1] at hc3;simp only [Bool.true_eq_false,Bool.not_true,Bool.false_eq_true,not_true_eq_false,false_or] at hc3;omega)];exact ⟨rfl,(S.sel [] G G)⟩
 try simp only [oz] at hc3
 have hcp:cK (y.us.getD i aFg).part (y.us.getD i aFg).uses=0:=by show cK ⟨_,_,_,_⟩ _=0;omega
 have hrw:=Mz hcp
 refine wp_skip ?_;refine k21 _ _ ?_;replace H:=H.keep [5] rfl;refine seq_list fun K24 k24=>?_
 refine ls 4 H<|sf nZ rfl<|sd ((aB fH iQ rfl S (i:=0) G G))<|sf iB rfl<|sl S 0 kL G G G<|sE ?_;intro a H
 refine aA H G G Tryz.func127 G G (Eb (y.us.getD i aFg).rates (y.us.getD i aFg).worn (y.us.getD i aFg).turns (y.us.getD i aFg).age (y.us.getD i aFg).RA (y.us.getD i aFg).rc (y.us.getD i aFg).uses (y.us.getD i aFg).UA (y.us.getD i aFg).uc _ ((hy.rt i hi).now S) (hyb.rtn hi) ((hy.ul i hi).now S) (hyb.uln hi)) ?_;clear H a
 rintro _ _ a ⟨rfl,S2⟩ H;replace S:=S.call S2;clear S2;refine ls 7 H<|sr 7 G<|sE ?_;intro a H
 refine k24 _ _ ?_;refine wp_seq_k fun K25 k25=>?_
 replace H:=H.keep [5,11] rfl;replace S:=S.drew
 refine sD H fun K26 k26=>sr 2 G<|sg 4 1 106 110 false G G (fun hg2=>by
     have hq2:=hg2;try simp only [oz] at hq2
     exact sy hg2<|sf tU rfl<|sy hg2<|sl S 0 aD G G G<|sy hg2<|sc rfl Tryz.func48 G G (cW _ _ _ _)<|sy hg2<|sr 1 G<|sz 4 G G G)<|so G G G<|sr 1 G<|sg 18 7 112 130 false G G (fun hg8=>by
     have hq8:=hg8;try simp only [oz] at hq8
     exact sy hg8<|sf iB rfl<|sy hg8<|sl S 0 kL G G G<|sy hg8<|sL dI rfl<|sy hg8<|sr 1 G<|sy hg8<|sr 1 G<|sg 12 12 117 129 true G G (fun hg13=>by
          have hq13:=hg13;try simp only [oz] at hq13
          exact sy hg13<|sf tU rfl<|sy hg13<|sl S 0 aD G G G<|sy hg13<|sf iB rfl<|sy hg13<|sl S 0 kL G G G<|sy hg13<|sf iB rfl<|sy hg13<|sl S 0 kL G G G<|sy hg13<|sL dI rfl<|sy hg13<|sd (aR G G (by unfold i64ok;omega))<|sy hg13<|sI dI cY G G ((hy.ul i hi).adr (by omega)) (by omega) (by omega)<|sy hg13<|sp iE rfl<|sy hg13<|slm aD rfl ((hy.ul i hi).rd S (by omega) (by omega))<|sy hg13<|sr 1 G<|sz 12 G G G)<|sy hg8<|sa G G G<|sz 7 G G G)<|so G G G<|sE ?_;intro a H
 refine k26 _ ?_;refine cond_ H rfl (fun hc4=>?_) (fun hc4=>?_)
 ·skip
  try simp only [oz] at hc4
  replace H:=H.keep [] rfl;refine sS H fun K27 k27=>sr 1 G<|sE ?_;intro a H
  refine k27 _ ?_;refine wp_ret ?_;refine ret1 (fn:=Tryz.f87) rfl H rfl ?_
  rw [Dm (fun h=>by
    have h2:=h.i;have h3:=xB h.wear;unfold untI at h2
    have h5:=hrw.1 h.wear
    rcases hc4 with (h9|h9)|h9
    · have h6:(refO (y.us.getD i aFg).part (y.us.getD i aFg).uses).2.1=true:=h9
      rw [h5] at h6;cases h6
    · omega
    · have h7:=Nb (l:=(y.us.getD i aFg).uses) (by omega) h9.2;omega)];exact ⟨rfl,(S.sel [] G G)⟩
 try simp only [oz] at hc4
 refine wp_skip ?_;refine k25 _ _ ?_;replace H:=H.keep [5] rfl
 refine sS H fun K28 k28=>sf tV rfl<|sl S 0 aD G G G<|sc rfl Tryz.func48 G G (cW _ _ _ _)<|sr 1 G<|sg 8 3 135 143 true G G (fun hg4=>by
     have hq4:=hg4;try simp only [oz] at hq4
     exact sy hg4<|sf tW rfl<|sy hg4<|sl S 0 aD G G G<|sy hg4<|sf nZ rfl<|sy hg4<|sf fT rfl<|sy hg4<|sl S 0 iW G G G<|sy hg4<|sL dH rfl<|sy hg4<|sd (aR G G (by unfold i64ok;omega))<|sy hg4<|sc rfl Tryz.func48 G G (cW _ _ _ _)<|sz 8 G G G)<|sa G G G<|sr 1 G<|sE ?_;intro a H
 refine k28 _ ?_;refine wp_ret ?_;refine ret1 (fn:=Tryz.f87) rfl H rfl ?_;refine ⟨congrArg Value.bool ?_,(S.sel [] G G)⟩;rw [Bool.eq_iff_iff,lZ];simp only [Bool.and_eq_true,decide_eq_true_eq];constructor
 · intro h9
   refine ⟨?_,?_,hrw.2 ?_⟩
   · show freeN _ _ _ _ _=true;rcases hc3 with ⟨⟨⟨⟨⟨h1,_⟩,_⟩,_⟩,_⟩,_⟩;exact h1
   · have h8:=Na (l:=(y.us.getD i aFg).uses) (o:=(y.us.getD i aFg).old) (by omega) (by omega)
     unfold untI;omega
   · rcases hc4 with ⟨⟨h1,_⟩,_⟩;exact h1
 · intro h9
   have h2:=h9.i
   unfold untI at h2
   omega
theorem Bg (y:Yr) (w:World) (hy:YIn w noF y) (hyb:YBd y) :
    Calls Tryz.prog 47 [.agg [.int .i64 y.days,.int .i64 y.pl,.slice y.PA y.ps.length y.pc,.slice y.XA y.xs.length y.xc,.slice y.BA y.pe.length y.bc,.int .i64 y.limit,.bool y.help,.slice y.QA y.prs.length y.qc,.slice y.VA y.us.length y.vc,.int .i64 y.crew,.slice y.SA y.sps.length y.sc].toArray].toArray w (Ret (fun v w'=>v = .int .i64 (yearE y)∧St w noF [] w')):=by
 have hn3:=hyb.usn
 refine enter Tryz.func47 rfl Tryz.ntmps47 rfl (fun a H=>?_)
 have S:=St.start w
 refine seq_list fun K1 k1=>?_
 refine aO H rfl S G G ?_;intro b1 _ a hb1 hbw1 S H
 refine ls 1 H<|sr 1 G<|sE ?_;intro a H
 refine k1 _ _ ?_;refine seq_list fun K2 k2=>?_
 refine ls 2 H<|sf iA rfl<|sd ((aB bW cQ rfl S (i:=0) G G))<|sE ?_;intro a H
 refine aA H G G Tryz.func8 G G (nO y.pl y.ps y.PA y.pc y.xs y.XA y.xc _ (hy.ps.now S) hyb.psn (hy.xs.now S) hyb.xsn) ?_;clear H a
 rintro _ _ a ⟨rfl,S2⟩ H;replace S:=S.call S2;clear S2;refine ls 1 H<|sr 1 G<|sE ?_;intro a H
 refine k2 _ _ ?_;refine wp_seq_k fun K3 k3=>?_
 refine sS H fun K4 k4=>sr 2 G<|sE ?_;intro a H
 refine k4 _ ?_;refine condN H rfl (fun hc1=>?_) (fun hc1=>?_)
 ·skip
  replace H:=H.keep [3] rfl;refine sS H fun K5 k5=>sr 2 G<|sE ?_;intro a H
  refine k5 _ ?_;refine wp_ret ?_;refine ret1 (fn:=Tryz.f47) rfl H rfl ?_;have e9:=wA (day:=[]) (l:=y.prs) hc1;rw [pI (by rw [e9];exact hc1),e9];exact ⟨rfl,(S.sel [] G G)⟩
 refine wp_skip ?_;refine k3 _ _ ?_;refine seq_list fun K6 k6=>?_
 refine ls 4 H<|sf iA rfl<|sd ((aB bW cQ rfl S (i:=0) G G))<|sf pY rfl<|sl S 0 iV G G G<|sE ?_;intro a H
 refine aA H G G Tryz.func27 G G (lD y.pl y.ps y.PA y.pc y.xs y.XA y.xc ([]:List Hq) none 0 (fun _=>none) (fun _=>0) y.prs y.QA y.qc _ (hy.ps.now S) hyb.psn (hy.xs.now S) hyb.xsn InS.nil (by decide) (fun k hk=>absurd hk (Nat.not_lt_zero k)) (fun k hk=>absurd hk (Nat.not_lt_zero k)) (hy.prs.now S) hyb.prn) ?_;clear H a
 rintro _ _ a ⟨rfl,S2⟩ H;replace S:=S.call S2;clear S2;refine ls 1 H<|sr 1 G<|sE ?_;intro a H
 refine k6 _ _ ?_;refine wp_seq_k fun K7 k7=>?_
 replace H:=H.keep [1,3] rfl;refine sS H fun K8 k8=>sr 2 G<|sE ?_;intro a H
 refine k8 _ ?_;refine condN H rfl (fun hc2=>?_) (fun hc2=>?_)
 ·skip
  refine sS H fun K9 k9=>sr 2 G<|sE ?_;intro a H
  refine k9 _ ?_;refine wp_ret ?_;refine ret1 (fn:=Tryz.f47) rfl H rfl ?_;exact ⟨congrArg _ (pI hc2).symm,(S.sel [] G G)⟩
 refine wp_skip ?_;refine k7 _ _ ?_;refine wp_seq_k fun K10 k10=>?_
 refine seq_list fun K11 k11=>?_
 refine ls 1 H<|sd ((aB gZ jR rfl S (i:=0) G G))<|sE ?_;intro a H
 refine aA H G G Tryz.func86 G G (Nd y _ (hy.now S) hyb (by omega)) ?_;clear H a
 rintro _ _ a ⟨rfl,S2⟩ H;replace S:=S.call S2;clear S2;refine ls 1 H<|sr 1 G<|sE ?_;intro a H
 refine k11 _ _ ?_;refine cond_ H rfl (fun hc3=>?_) (fun hc3=>?_)
 ·skip
  try simp only [oz] at hc3
  refine sS H fun K12 k12=>sr 1 G<|sE ?_;intro a H
  refine k12 _ ?_;refine wp_ret ?_;refine ret1 (fn:=Tryz.f47) rfl H rfl ?_;rw [qX (by omega) (fun h=>by rw [Th h] at hc3;simp at hc3)];exact ⟨rfl,(S.sel [] G G)⟩
 try simp only [oz] at hc3
 have hyi:=Yb.1 (by simpa using hc3)
 refine wp_skip ?_;refine k10 _ _ ?_;refine wp_seq_k fun K13 k13=>?_
 replace H:=H.keep [1] rfl;refine sS H fun K14 k14=>sf dD rfl<|sl S 0 eR G G G<|sL fJ rfl<|sr 1 G<|sE ?_;intro a H
 refine k14 _ ?_;refine condL H rfl (fun hc4=>?_) (fun hc4=>?_)
 ·skip
  refine sS H fun K15 k15=>sr 1 G<|sE ?_;intro a H
  refine k15 _ ?_;refine wp_ret ?_;refine ret1 (fn:=Tryz.f47) rfl H rfl ?_;rw [wK (by omega) hyi (by omega)];exact ⟨rfl,(S.sel [] G G)⟩
 refine wp_skip ?_;refine k13 _ _ ?_;refine wp_seq_k fun K16 k16=>?_
 refine sS H fun K17 k17=>sr 1 G<|sE ?_;intro a H
 refine k17 _ ?_;refine wp_block ?_;refine loop_st (X:=Nat) (R0:=_) [1] H rfl (fun k=>[(4,.int .i64 (k:Int))]) (fun k=>[]) (fun g k=>k≤y.us.length∧g+k=y.us.length∧∀ q,q<k→untB y.ps y.us q=true) (y.us.length) 0 ?_ (S.sel [0] G G) (H.keep [4,1] rfl) ?_
 · exact ⟨by omega,by omega,fun q hq=>absurd hq (Nat.not_lt_zero q)⟩
 clear H S a;intro g1 x1 a w1 hp S H K18 k18;obtain ⟨k,rfl⟩:∃ y,y=x1:=⟨_,rfl⟩;refine wp_seq_k fun K19 k19=>?_
 refine sS H fun K20 k20=>sr 1 G<|sf dD rfl<|sl S 0 eR G G G<|sL fJ rfl<|sr 1 G<|sE ?_;intro a H
 refine k20 _ ?_;refine condL H rfl (fun hc5=>?_) (fun hc5=>?_)
 ·skip
  refine wp_skip ?_;refine k19 _ _ ?_;refine wp_seq_k fun K21 k21=>?_
  refine wp_block ?_;refine seq_list fun K22 k22=>?_
  refine ls 2 H<|sd ((aB gZ jR rfl S (i:=0) G G))<|sr 1 G<|sE ?_;intro a H
  refine aA H G G Tryz.func87 G G (Ne y k _ (hy.now S) hyb (by omega)) ?_;clear H a
  rintro _ _ a ⟨rfl,S2⟩ H;replace S:=S.call S2;clear S2;refine ls 1 H<|sr 1 G<|sE ?_;intro a H
  refine k22 _ _ ?_;refine cond_ H rfl (fun hc6=>?_) (fun hc6=>?_)
  ·skip
   try simp only [oz] at hc6
   replace H:=H.keep [] rfl;refine sS H fun K23 k23=>sr 1 G<|sE ?_;intro a H
   refine k23 _ ?_;refine wp_ret ?_;refine ret1 (fn:=Tryz.f47) rfl H rfl ?_;rw [wL (by omega) hyi (by omega) (show k<y.us.length by omega) (by simpa using hc6)];exact ⟨rfl,(S.sel [] G G)⟩
  try simp only [oz] at hc6
  refine wp_skip ?_;refine k21 _ _ ?_;refine sO H<|sr 1 G<|sd (aI G G (by unfold i64ok;omega))<|sr 1 G<|sE ?_;intro a H
  exact k18 (g1-1) (k+1) a _ (by omega) (⟨by omega,by omega,fG (f:=untB y.ps y.us) hp.2.2 (by simpa using hc6)⟩) (S.sel [0] G G) (H.keep [4,1] rfl)
 refine wp_exit ?_;refine k16 _ _ ?_;refine sS H fun K25 k25=>sr 1 G<|sE ?_;intro a H
 refine k25 _ ?_;refine wp_ret ?_;refine ret1 (fn:=Tryz.f47) rfl H rfl ?_;rw [Di (by omega) hyi (by omega) (bI.2 fun q hq=>hp.2.2 q (by omega))];exact ⟨rfl,(S.sel [] G G)⟩
theorem Tk (y:Yr) (l:List Tsk) (LA:Option Addr) (lc:Nat) (w:World) (hy:YIn w noF y) (hyb:YBd y) (hl:InS w noF 3 LA l.length (cD l)) (hln:l.length≤9223372036854775807) :
    Calls Tryz.prog 16 [.agg [.int .i64 y.days,.int .i64 y.pl,.slice y.PA y.ps.length y.pc,.slice y.XA y.xs.length y.xc,.slice y.BA y.pe.length y.bc,.int .i64 y.limit,.bool y.help,.slice y.QA y.prs.length y.qc,.slice y.VA y.us.length y.vc,.int .i64 y.crew,.slice y.SA y.sps.length y.sc].toArray,.slice LA l.length lc].toArray w (Ret (fun v w'=>v = .int .i64 (taskE y l)∧St w noF [] w')):=by
 have hn3:=hyb.usn
 refine enter Tryz.func16 rfl Tryz.ntmps16 rfl (fun a H=>?_)
 have S:=St.start w
 refine seq_list fun K1 k1=>?_
 refine aO H rfl S G G ?_;clear H a S;intro b2 _ a hb2 hbw2 S H
 refine ls 1 H<|sr 1 G<|sE ?_;clear H a;intro a H
 refine k1 _ _ ?_;refine seq_list fun K2 k2=>?_
 refine ls 1 H<|sd ((aB gZ jR rfl S (i:=0) G G))<|sE ?_;clear H a;intro a H
 refine aA H G G Tryz.func47 G G (Bg y _ (hy.now S) hyb) ?_;clear H a
 rintro _ _ a ⟨rfl,S2⟩ H;replace S:=S.call S2;clear S2;refine ls 1 H<|sr 1 G<|sE ?_;clear H a;intro a H
 refine k2 _ _ ?_;refine wp_seq_k fun K3 k3=>?_
 refine sS H fun K4 k4=>sr 2 G<|sE ?_;clear H a;intro a H
 refine k4 _ ?_;refine condN H rfl (fun hc1=>?_) (fun hc1=>?_)
 ·skip
  refine sS H fun K5 k5=>sr 2 G<|sE ?_;clear H a;intro a H
  refine k5 _ ?_;refine wp_ret ?_;refine ret1 (fn:=Tryz.f16) rfl H rfl ?_;exact ⟨congrArg _ (wM hc1).symm,(S.sel [] G G)⟩
 have hye:yearE y=0:=by omega
 have hyi:=(qY hye).yr
 unfold yrI at hyi
 refine wp_skip ?_;refine k3 _ _ ?_;refine wp_seq_k fun K6 k6=>?_
 replace H:=H.keep [1,2] rfl;refine sS H fun K7 k7=>sr 1 G<|sL dP rfl<|sr 1 G<|sE ?_;clear H a;intro a H
 refine k7 _ ?_;refine condL H rfl (fun hc2=>?_) (fun hc2=>?_)
 ·skip
  refine sS H fun K8 k8=>sr 1 G<|sE ?_;clear H a;intro a H
  refine k8 _ ?_;refine wp_ret ?_;refine ret1 (fn:=Tryz.f16) rfl H rfl ?_;rw [wN hye (by omega)];exact ⟨rfl,(S.sel [] G G)⟩
 refine wp_skip ?_;refine k6 _ _ ?_;refine wp_seq_k fun K9 k9=>?_
 refine sS H fun K10 k10=>sr 1 G<|sE ?_;clear H a;intro a H
 refine k10 _ ?_;refine wp_block ?_;refine loop_st (X:=Nat) (R0:=_) [1,2] H rfl (fun k=>[(6,.int .i64 (k:Int))]) (fun k=>[]) (fun g k=>k≤l.length∧g+k=l.length∧∀ q,q<k→tskB y l q=true) (l.length) 0 ?_ (S.sel [0] G G) (H.keep [6,1,2] rfl) ?_
 · exact ⟨by omega,by omega,fun q hq=>absurd hq (Nat.not_lt_zero q)⟩
 clear H S a;intro g1 x1 a w1 hp S H K11 k11;obtain ⟨k,rfl⟩:∃ y,y=x1:=⟨_,rfl⟩;refine wp_seq_k fun K12 k12=>?_
 refine sS H fun K13 k13=>sr 2 G<|sL dP rfl<|sr 1 G<|sE ?_;clear H a;intro a H
 refine k13 _ ?_;refine condL H rfl (fun hc3=>?_) (fun hc3=>?_)
 ·skip
  refine wp_skip ?_;refine k12 _ _ ?_;refine wp_seq_k fun K14 k14=>?_
  refine wp_block ?_;rcases chk5 (0≤(l.getD k aFh).day∧(l.getD k aFh).day≤y.days-1) (0≤(l.getD k aFh).unit∧(l.getD k aFh).unit≤(y.us.length:Int)-1) (1≤(l.getD k aFh).kind∧(l.getD k aFh).kind≤2) k with hB|hB|hB|hB|hB
  ·skip
   skip
   replace H:=H.keep [1,2,6] rfl;replace S:=S.drew;refine seq_wq [(0,true),(1,true),(2,true),(3,true),(4,true),(5,true),(6,true),(7,true),(8,false),(9,true),(10,true),(11,true),(12,true),(13,true),(14,true),(15,true),(16,true),(17,true),(18,true),(19,true),(20,true),(21,true),(22,true),(23,true),(24,true),(25,true),(26,true),(27,true),(28,true),(29,true),(30,true),(31,true),(32,true),(33,true),(34,true),(35,true),(36,true),(37,true),(38,true),(39,true),(40,true),(41,true),(42,true),(43,true),(44,true),(45,true),(46,true),(47,true),(48,true)] (by kernel_rfl) (by kernel_rfl) (S.sel [0] G G) fun K15 k15=>?_
   refine qF H<|qr 2 G<|qd G (fun _ S=>bG dP dG G G (hl.adr (by omega)) (by omega))<|qd G (fun _ S=>(bP dK rfl))<|qd G (fun _ S=>aF aD rfl (hl.rd S (by omega) (by omega)))<|qd G (fun _ S=>(aC dZ rfl))<|qd G (fun _ S=>aF aD rfl (aEh S (i:=0) G G))<|qd G (fun _ S=>aR G G (by unfold i64ok;omega))<|qK ?_;clear H a;intro a H
   refine aT rfl ?_
   refine aA H G G Tryz.func48 G G (cW _ _ _ _) ?_;clear H a
   rintro _ _ a ⟨rfl,rfl⟩ H;refine wpList_nil (And.intro (S.sel [0] rfl rfl) ?_);refine qF H<|qd G (fun _ S=>gU rfl (by omega))<|qr 1 G<|qK ?_;clear H a;intro a H
   refine aK H G G G G G ?_;clear H a;intro a H
   refine aK H G G G G G ?_;clear H a;intro a H
   refine aK H G G G G G ?_;clear H a;intro a H
   refine aK H G G G G G ?_;clear H a;intro a H
   refine aK H G G G G G ?_;clear H a;intro a H
   refine aK H G G G G G ?_;clear H a;intro a H
   refine aK H G G G G G ?_;clear H a;intro a H
   refine aK H G G G G G ?_;clear H a;intro a H
   refine aK H G G G G G ?_;clear H a;intro a H
   refine aK H G G G G G ?_;clear H a;intro a H
   refine aK H G G G G G ?_;clear H a;intro a H
   refine qF H<|qd G (fun _ S=>(aV G G G))<|qr 1 G<|qK ?_;clear H a;intro a H
   refine aK H G G G G G ?_;clear H a;intro a H
   refine aK H G G G G G ?_;clear H a;intro a H
   refine aK H G G G G G ?_;clear H a;intro a H
   refine aK H G G G G G ?_;clear H a;intro a H
   refine aK H G G G G G ?_;clear H a;intro a H
   refine aK H G G G G G ?_;clear H a;intro a H
   refine aK H G G G G G ?_;clear H a;intro a H
   refine qF H<|qd G (fun _ S=>(aV G G G))<|qr 1 G<|qK ?_;clear H a;intro a H
   refine aK H G G G G G ?_;clear H a;intro a H
   refine aK H G G G G G ?_;clear H a;intro a H
   refine aK H G G G G G ?_;clear H a;intro a H
   refine bT H G G G G ?_;clear H a;intro a H
   refine bT H G G G G ?_;clear H a;intro a H
   refine bT H G G G G ?_;clear H a;intro a H
   refine bT H G G G G ?_;clear H a;intro a H
   refine bT H G G G G ?_;clear H a;intro a H
   refine bT H G G G G ?_;clear H a;intro a H
   refine bT H G G G G ?_;clear H a;intro a H
   refine bT H G G G G ?_;clear H a;intro a H
   refine bT H G G G G ?_;clear H a;intro a H
   refine bT H G G G G ?_;clear H a;intro a H
   refine bT H G G G G ?_;clear H a;intro a H
   refine aK H G G G G G ?_;clear H a;intro a H
   refine qF H<|qd G (fun _ S=>(aV G G G))<|qK ?_;clear H a;intro a H
   refine bL ?_
   refine k15 _ _ ?_;refine cond_ H rfl (fun hc4=>?_) (fun hc4=>?_)
   ·skip
    skip
    replace H:=H.keep [] rfl;refine sS H fun K16 k16=>sr 1 G<|sE ?_;clear H a;intro a H
    refine k16 _ ?_;refine wp_ret ?_;refine ret1 (fn:=Tryz.f16) rfl H rfl ?_;rw [gR hye (by omega) (show k<l.length by omega) (mA (by omega))];exact ⟨rfl,(S.sel [] G G)⟩
   skip
   cases hc4
  ·skip
   skip
   replace H:=H.keep [1,2,6] rfl;replace S:=S.drew;refine seq_wq [(0,true),(1,true),(2,true),(3,true),(4,true),(5,true),(6,true),(7,true),(8,false),(9,true),(10,true),(11,true),(12,true),(13,true),(14,true),(15,true),(16,true),(17,true),(18,true),(19,true),(20,false),(21,true),(22,true),(23,true),(24,true),(25,true),(26,true),(27,true),(28,true),(29,true),(30,true),(31,true),(32,true),(33,true),(34,true),(35,true),(36,true),(37,true),(38,true),(39,true),(40,true),(41,true),(42,true),(43,true),(44,true),(45,true),(46,true),(47,true),(48,true)] (by kernel_rfl) (by kernel_rfl) (S.sel [0] G G) fun K17 k17=>?_
   refine qF H<|qr 2 G<|qd G (fun _ S=>bG dP dG G G (hl.adr (by omega)) (by omega))<|qd G (fun _ S=>(bP dK rfl))<|qd G (fun _ S=>aF aD rfl (hl.rd S (by omega) (by omega)))<|qd G (fun _ S=>(aC dZ rfl))<|qd G (fun _ S=>aF aD rfl (aEh S (i:=0) G G))<|qd G (fun _ S=>aR G G (by unfold i64ok;omega))<|qK ?_;clear H a;intro a H
   refine aT rfl ?_
   refine aA H G G Tryz.func48 G G (cW _ _ _ _) ?_;clear H a
   rintro _ _ a ⟨rfl,rfl⟩ H;refine wpList_nil (And.intro (S.sel [0] rfl rfl) ?_);refine qF H<|qd G (fun _ S=>bV rfl (by omega))<|qr 1 G<|qK ?_;clear H a;intro a H
   refine aG H G G G G (fun _ S=>aL rfl) ?_;clear H a;intro a H
   refine aG H G G G G (fun _ S=>aL rfl) ?_;clear H a;intro a H
   refine aG H G G G G (fun _ S=>bG dP dG G G (hl.adr (by omega)) (by omega)) ?_;clear H a;intro a H
   refine aG H G G G G (fun _ S=>(bP eA rfl)) ?_;clear H a;intro a H
   refine aG H G G G G (fun _ S=>aF aD rfl (hl.rd S (by omega) (by omega))) ?_;clear H a;intro a H
   refine aG H G G G G (fun _ S=>(aC dD rfl)) ?_;clear H a;intro a H
   refine aG H G G G G (fun _ S=>aF eR rfl (aEh S (i:=0) G G)) ?_;clear H a;intro a H
   refine aG H G G G G (fun _ S=>cE fJ rfl) ?_;clear H a;intro a H
   refine aG H G G G G (fun _ S=>aR G G (by unfold i64ok;omega)) ?_;clear H a;intro a H
   refine aT rfl ?_
   refine bA H G G ?_
   refine aA H G G Tryz.func48 G G (cW _ _ _ _) ?_;clear H a
   rintro _ _ a ⟨rfl,rfl⟩ H;refine wpList_nil (And.intro (S.sel [0] rfl rfl) ?_);refine aG H rfl rfl rfl rfl (fun _ S=>gU rfl (by omega)) ?_;clear H a;intro a H;refine qF H<|qd G (fun _ S=>(aZ rfl rfl rfl))<|qr 1 G<|qK ?_;clear H a;intro a H
   refine aK H G G G G G ?_;clear H a;intro a H
   refine aK H G G G G G ?_;clear H a;intro a H
   refine aK H G G G G G ?_;clear H a;intro a H
   refine aK H G G G G G ?_;clear H a;intro a H
   refine aK H G G G G G ?_;clear H a;intro a H
   refine aK H G G G G G ?_;clear H a;intro a H
   refine aK H G G G G G ?_;clear H a;intro a H
   refine qF H<|qd G (fun _ S=>(aV G G G))<|qr 1 G<|qK ?_;clear H a;intro a H
   refine aK H G G G G G ?_;clear H a;intro a H
   refine aK H G G G G G ?_;clear H a;intro a H
   refine aK H G G G G G ?_;clear H a;intro a H
   refine bT H G G G G ?_;clear H a;intro a H
   refine bT H G G G G ?_;clear H a;intro a H
   refine bT H G G G G ?_;clear H a;intro a H
   refine bT H G G G G ?_;clear H a;intro a H
   refine bT H G G G G ?_;clear H a;intro a H
   refine bT H G G G G ?_;clear H a;intro a H
   refine bT H G G G G ?_;clear H a;intro a H
   refine bT H G G G G ?_;clear H a;intro a H
   refine bT H G G G G ?_;clear H a;intro a H
   refine bT H G G G G ?_;clear H a;intro a H
   refine bT H G G G G ?_;clear H a;intro a H
   refine aK H G G G G G ?_;clear H a;intro a H
   refine qF H<|qd G (fun _ S=>(aV G G G))<|qK ?_;clear H a;intro a H
   refine bL ?_
   refine k17 _ _ ?_;refine cond_ H rfl (fun hc5=>?_) (fun hc5=>?_)
   ·skip
    skip
    replace H:=H.keep [] rfl;refine sS H fun K18 k18=>sr 1 G<|sE ?_;clear H a;intro a H
    refine k18 _ ?_;refine wp_ret ?_;refine ret1 (fn:=Tryz.f16) rfl H rfl ?_;rw [gR hye (by omega) (show k<l.length by omega) (mA (by omega))];exact ⟨rfl,(S.sel [] G G)⟩
   skip
   cases hc5
  ·skip
   skip
   replace H:=H.keep [1,2,6] rfl;replace S:=S.drew;refine seq_wq [(0,true),(1,true),(2,true),(3,true),(4,true),(5,true),(6,true),(7,true),(8,false),(9,true),(10,true),(11,true),(12,true),(13,true),(14,true),(15,true),(16,true),(17,true),(18,true),(19,true),(20,false),(21,true),(22,true),(23,true),(24,true),(25,true),(26,true),(27,true),(28,true),(29,false),(30,true),(31,true),(32,true),(33,true),(34,true),(35,true),(36,true),(37,true),(38,true),(39,true),(40,true),(41,true),(42,true),(43,true),(44,true),(45,true),(46,true),(47,true),(48,true)] (by kernel_rfl) (by kernel_rfl) (S.sel [0] G G) fun K19 k19=>?_
   refine qF H<|qr 2 G<|qd G (fun _ S=>bG dP dG G G (hl.adr (by omega)) (by omega))<|qd G (fun _ S=>(bP dK rfl))<|qd G (fun _ S=>aF aD rfl (hl.rd S (by omega) (by omega)))<|qd G (fun _ S=>(aC dZ rfl))<|qd G (fun _ S=>aF aD rfl (aEh S (i:=0) G G))<|qd G (fun _ S=>aR G G (by unfold i64ok;omega))<|qK ?_;clear H a;intro a H
   refine aT rfl ?_
   refine aA H G G Tryz.func48 G G (cW _ _ _ _) ?_;clear H a
   rintro _ _ a ⟨rfl,rfl⟩ H;refine wpList_nil (And.intro (S.sel [0] rfl rfl) ?_);refine qF H<|qd G (fun _ S=>bV rfl (by omega))<|qr 1 G<|qK ?_;clear H a;intro a H
   refine aG H G G G G (fun _ S=>aL rfl) ?_;clear H a;intro a H
   refine aG H G G G G (fun _ S=>aL rfl) ?_;clear H a;intro a H
   refine aG H G G G G (fun _ S=>bG dP dG G G (hl.adr (by omega)) (by omega)) ?_;clear H a;intro a H
   refine aG H G G G G (fun _ S=>(bP eA rfl)) ?_;clear H a;intro a H
   refine aG H G G G G (fun _ S=>aF aD rfl (hl.rd S (by omega) (by omega))) ?_;clear H a;intro a H
   refine aG H G G G G (fun _ S=>(aC dD rfl)) ?_;clear H a;intro a H
   refine aG H G G G G (fun _ S=>aF eR rfl (aEh S (i:=0) G G)) ?_;clear H a;intro a H
   refine aG H G G G G (fun _ S=>cE fJ rfl) ?_;clear H a;intro a H
   refine aG H G G G G (fun _ S=>aR G G (by unfold i64ok;omega)) ?_;clear H a;intro a H
   refine aT rfl ?_
   refine bA H G G ?_
   refine aA H G G Tryz.func48 G G (cW _ _ _ _) ?_;clear H a
   rintro _ _ a ⟨rfl,rfl⟩ H;refine wpList_nil (And.intro (S.sel [0] rfl rfl) ?_);refine aG H rfl rfl rfl rfl (fun _ S=>bV rfl (by omega)) ?_;clear H a;intro a H;refine qF H<|qd G (fun _ S=>(aZ rfl rfl rfl))<|qr 1 G<|qK ?_;clear H a;intro a H
   refine aG H G G G G (fun _ S=>aL rfl) ?_;clear H a;intro a H
   refine aG H G G G G (fun _ S=>aL rfl) ?_;clear H a;intro a H
   refine aG H G G G G (fun _ S=>bG dP dG G G (hl.adr (by omega)) (by omega)) ?_;clear H a;intro a H
   refine aG H G G G G (fun _ S=>(bP gE rfl)) ?_;clear H a;intro a H
   refine aG H G G G G (fun _ S=>aF aD rfl (hl.rd S (by omega) (by omega))) ?_;clear H a;intro a H
   refine aT rfl ?_
   refine bA H G G ?_
   refine aA H G G Tryz.func48 G G (cW _ _ _ _) ?_;clear H a
   rintro _ _ a ⟨rfl,rfl⟩ H;refine wpList_nil (And.intro (S.sel [0] rfl rfl) ?_);refine aG H rfl rfl rfl rfl (fun _ S=>gU rfl (by omega)) ?_;clear H a;intro a H;refine qF H<|qd G (fun _ S=>(aZ rfl rfl rfl))<|qr 1 G<|qK ?_;clear H a;intro a H
   refine aK H G G G G G ?_;clear H a;intro a H
   refine aK H G G G G G ?_;clear H a;intro a H
   refine aK H G G G G G ?_;clear H a;intro a H
   refine bT H G G G G ?_;clear H a;intro a H
   refine bT H G G G G ?_;clear H a;intro a H
   refine bT H G G G G ?_;clear H a;intro a H
   refine bT H G G G G ?_;clear H a;intro a H
   refine bT H G G G G ?_;clear H a;intro a H
   refine bT H G G G G ?_;clear H a;intro a H
   refine bT H G G G G ?_;clear H a;intro a H
   refine bT H G G G G ?_;clear H a;intro a H
   refine bT H G G G G ?_;clear H a;intro a H
   refine bT H G G G G ?_;clear H a;intro a H
   refine bT H G G G G ?_;clear H a;intro a H
   refine aK H G G G G G ?_;clear H a;intro a H
   refine qF H<|qd G (fun _ S=>(aV G G G))<|qK ?_;clear H a;intro a H
   refine bL ?_
   refine k19 _ _ ?_;refine cond_ H rfl (fun hc6=>?_) (fun hc6=>?_)
   ·skip
    skip
    replace H:=H.keep [] rfl;refine sS H fun K20 k20=>sr 1 G<|sE ?_;clear H a;intro a H
    refine k20 _ ?_;refine wp_ret ?_;refine ret1 (fn:=Tryz.f16) rfl H rfl ?_;rw [gR hye (by omega) (show k<l.length by omega) (mA (by omega))];exact ⟨rfl,(S.sel [] G G)⟩
   skip
   cases hc6
  ·skip
   skip
   replace H:=H.keep [1,2,6] rfl;replace S:=S.drew;refine seq_wq [(0,true),(1,true),(2,true),(3,true),(4,true),(5,true),(6,true),(7,true),(8,false),(9,true),(10,true),(11,true),(12,true),(13,true),(14,true),(15,true),(16,true),(17,true),(18,true),(19,true),(20,false),(21,true),(22,true),(23,true),(24,true),(25,true),(26,true),(27,true),(28,true),(29,false),(30,true),(31,true),(32,true),(33,true),(34,true),(35,true),(36,true),(37,true),(38,true),(39,true),(40,true),(41,true),(42,true),(43,true),(44,true),(45,true),(46,true),(47,true),(48,true)] (by kernel_rfl) (by kernel_rfl) (S.sel [0] G G) fun K21 k21=>?_
   refine qF H<|qr 2 G<|qd G (fun _ S=>bG dP dG G G (hl.adr (by omega)) (by omega))<|qd G (fun _ S=>(bP dK rfl))<|qd G (fun _ S=>aF aD rfl (hl.rd S (by omega) (by omega)))<|qd G (fun _ S=>(aC dZ rfl))<|qd G (fun _ S=>aF aD rfl (aEh S (i:=0) G G))<|qd G (fun _ S=>aR G G (by unfold i64ok;omega))<|qK ?_;clear H a;intro a H
   refine aT rfl ?_
   refine aA H G G Tryz.func48 G G (cW _ _ _ _) ?_;clear H a
   rintro _ _ a ⟨rfl,rfl⟩ H;refine wpList_nil (And.intro (S.sel [0] rfl rfl) ?_);refine qF H<|qd G (fun _ S=>bV rfl (by omega))<|qr 1 G<|qK ?_;clear H a;intro a H
   refine aG H G G G G (fun _ S=>aL rfl) ?_;clear H a;intro a H
   refine aG H G G G G (fun _ S=>aL rfl) ?_;clear H a;intro a H
   refine aG H G G G G (fun _ S=>bG dP dG G G (hl.adr (by omega)) (by omega)) ?_;clear H a;intro a H
   refine aG H G G G G (fun _ S=>(bP eA rfl)) ?_;clear H a;intro a H
   refine aG H G G G G (fun _ S=>aF aD rfl (hl.rd S (by omega) (by omega))) ?_;clear H a;intro a H
   refine aG H G G G G (fun _ S=>(aC dD rfl)) ?_;clear H a;intro a H
   refine aG H G G G G (fun _ S=>aF eR rfl (aEh S (i:=0) G G)) ?_;clear H a;intro a H
   refine aG H G G G G (fun _ S=>cE fJ rfl) ?_;clear H a;intro a H
   refine aG H G G G G (fun _ S=>aR G G (by unfold i64ok;omega)) ?_;clear H a;intro a H
   refine aT rfl ?_
   refine bA H G G ?_
   refine aA H G G Tryz.func48 G G (cW _ _ _ _) ?_;clear H a
   rintro _ _ a ⟨rfl,rfl⟩ H;refine wpList_nil (And.intro (S.sel [0] rfl rfl) ?_);refine aG H rfl rfl rfl rfl (fun _ S=>bV rfl (by omega)) ?_;clear H a;intro a H;refine qF H<|qd G (fun _ S=>(aZ rfl rfl rfl))<|qr 1 G<|qK ?_;clear H a;intro a H
   refine aG H G G G G (fun _ S=>aL rfl) ?_;clear H a;intro a H
   refine aG H G G G G (fun _ S=>aL rfl) ?_;clear H a;intro a H
   refine aG H G G G G (fun _ S=>bG dP dG G G (hl.adr (by omega)) (by omega)) ?_;clear H a;intro a H
   refine aG H G G G G (fun _ S=>(bP gE rfl)) ?_;clear H a;intro a H
   refine aG H G G G G (fun _ S=>aF aD rfl (hl.rd S (by omega) (by omega))) ?_;clear H a;intro a H
   refine aT rfl ?_
   refine bA H G G ?_
   refine aA H G G Tryz.func48 G G (cW _ _ _ _) ?_;clear H a
   rintro _ _ a ⟨rfl,rfl⟩ H;refine wpList_nil (And.intro (S.sel [0] rfl rfl) ?_);refine aG H rfl rfl rfl rfl (fun _ S=>bV rfl (by omega)) ?_;clear H a;intro a H;refine qF H<|qd G (fun _ S=>(aZ rfl rfl rfl))<|qr 1 G<|qK ?_;clear H a;intro a H
   refine aG H G G G G (fun _ S=>aL rfl) ?_;clear H a;intro a H
   refine aG H G G G G (fun _ S=>xQ G G (by omega)) ?_;clear H a;intro a H
   refine aG H G G G G (fun _ S=>aL rfl) ?_;clear H a;intro a H
   refine aK H G G G G G ?_;clear H a;intro a H
   refine aK H G G G G G ?_;clear H a;intro a H
   refine aK H G G G G G ?_;clear H a;intro a H
   refine aK H G G G G G ?_;clear H a;intro a H
   refine aK H G G G G G ?_;clear H a;intro a H
   refine aK H G G G G G ?_;clear H a;intro a H
   refine aK H G G G G G ?_;clear H a;intro a H
   refine aK H G G G G G ?_;clear H a;intro a H
   refine aK H G G G G G ?_;clear H a;intro a H
   refine aK H G G G G G ?_;clear H a;intro a H
   refine aK H G G G G G ?_;clear H a;intro a H
   refine aG H G G G G (fun _ S=>(aV G G G)) ?_;clear H a;intro a H
   refine qF H<|qd G (fun _ S=>(aZ G G G))<|qK ?_;clear H a;intro a H
   refine bL ?_
   refine k21 _ _ ?_;refine cond_ H rfl (fun hc7=>?_) (fun hc7=>?_)
   ·skip
    skip
    cases hc7
   skip
   refine wp_skip ?_;refine k14 _ _ ?_;replace H:=H.keep [1,2,6] rfl;refine sO H<|sr 1 G<|sd (aI G G (by unfold i64ok;omega))<|sr 1 G<|sE ?_;clear H a;intro a H
   exact k11 (g1-1) (k+1) a _ (by omega) (by first|exact ⟨by omega,by omega,fG (f:=tskB y l) hp.2.2 (oL hB)⟩|exact ⟨by omega,by omega,fG (f:=tskB y l) hp.2.2 (oM hB hc8)⟩) (S.sel [0] G G) (H.keep [6,1,2] rfl)
  skip
  replace H:=H.keep [1,2,6] rfl;replace S:=S.drew;refine seq_wq [(0,true),(1,true),(2,true),(3,true),(4,true),(5,true),(6,true),(7,true),(8,false),(9,true),(10,true),(11,true),(12,true),(13,true),(14,true),(15,true),(16,true),(17,true),(18,true),(19,true),(20,false),(21,true),(22,true),(23,true),(24,true),(25,true),(26,true),(27,true),(28,true),(29,false),(30,true),(31,true),(32,true),(33,true),(34,true),(35,true),(36,true),(37,true),(38,true),(39,true),(40,true),(41,true),(42,true),(43,true),(44,true),(45,false),(46,true),(47,true),(48,true)] (by kernel_rfl) (by kernel_rfl) (S.sel [0] G G) fun K23 k23=>?_
  refine qF H<|qr 2 G<|qd G (fun _ S=>bG dP dG G G (hl.adr (by omega)) (by omega))<|qd G (fun _ S=>(bP dK rfl))<|qd G (fun _ S=>aF aD rfl (hl.rd S (by omega) (by omega)))<|qd G (fun _ S=>(aC dZ rfl))<|qd G (fun _ S=>aF aD rfl (aEh S (i:=0) G G))<|qd G (fun _ S=>aR G G (by unfold i64ok;omega))<|qK ?_;clear H a;intro a H
  refine aT rfl ?_
  refine aA H G G Tryz.func48 G G (cW _ _ _ _) ?_;clear H a
  rintro _ _ a ⟨rfl,rfl⟩ H;refine wpList_nil (And.intro (S.sel [0] rfl rfl) ?_);refine qF H<|qd G (fun _ S=>bV rfl (by omega))<|qr 1 G<|qK ?_;clear H a;intro a H
  refine aG H G G G G (fun _ S=>aL rfl) ?_;clear H a;intro a H
  refine aG H G G G G (fun _ S=>aL rfl) ?_;clear H a;intro a H
  refine aG H G G G G (fun _ S=>bG dP dG G G (hl.adr (by omega)) (by omega)) ?_;clear H a;intro a H
  refine aG H G G G G (fun _ S=>(bP eA rfl)) ?_;clear H a;intro a H
  refine aG H G G G G (fun _ S=>aF aD rfl (hl.rd S (by omega) (by omega))) ?_;clear H a;intro a H
  refine aG H G G G G (fun _ S=>(aC dD rfl)) ?_;clear H a;intro a H
  refine aG H G G G G (fun _ S=>aF eR rfl (aEh S (i:=0) G G)) ?_;clear H a;intro a H
  refine aG H G G G G (fun _ S=>cE fJ rfl) ?_;clear H a;intro a H
  refine aG H G G G G (fun _ S=>aR G G (by unfold i64ok;omega)) ?_;clear H a;intro a H
  refine aT rfl ?_
  refine bA H G G ?_
  refine aA H G G Tryz.func48 G G (cW _ _ _ _) ?_;clear H a
  rintro _ _ a ⟨rfl,rfl⟩ H;refine wpList_nil (And.intro (S.sel [0] rfl rfl) ?_);refine aG H rfl rfl rfl rfl (fun _ S=>bV rfl (by omega)) ?_;clear H a;intro a H;refine qF H<|qd G (fun _ S=>(aZ rfl rfl rfl))<|qr 1 G<|qK ?_;clear H a;intro a H
  refine aG H G G G G (fun _ S=>aL rfl) ?_;clear H a;intro a H
  refine aG H G G G G (fun _ S=>aL rfl) ?_;clear H a;intro a H
  refine aG H G G G G (fun _ S=>bG dP dG G G (hl.adr (by omega)) (by omega)) ?_;clear H a;intro a H
  refine aG H G G G G (fun _ S=>(bP gE rfl)) ?_;clear H a;intro a H
  refine aG H G G G G (fun _ S=>aF aD rfl (hl.rd S (by omega) (by omega))) ?_;clear H a;intro a H
  refine aT rfl ?_
  refine bA H G G ?_
  refine aA H G G Tryz.func48 G G (cW _ _ _ _) ?_;clear H a
  rintro _ _ a ⟨rfl,rfl⟩ H;refine wpList_nil (And.intro (S.sel [0] rfl rfl) ?_);refine aG H rfl rfl rfl rfl (fun _ S=>bV rfl (by omega)) ?_;clear H a;intro a H;refine qF H<|qd G (fun _ S=>(aZ rfl rfl rfl))<|qr 1 G<|qK ?_;clear H a;intro a H
  refine aG H G G G G (fun _ S=>aL rfl) ?_;clear H a;intro a H
  refine aG H G G G G (fun _ S=>xP G G (by omega)) ?_;clear H a;intro a H
  refine aG H G G G G (fun _ S=>aL rfl) ?_;clear H a;intro a H
  refine aG H G G G G (fun _ S=>aL rfl) ?_;clear H a;intro a H
  refine aG H G G G G (fun _ S=>aL rfl) ?_;clear H a;intro a H
  refine aG H G G G G (fun _ S=>aR G G (by unfold i64ok;omega)) ?_;clear H a;intro a H
  refine aG H G G G G (fun _ S=>bZ dP dG G G (hl.adr (by omega)) (by omega) (by omega)) ?_;clear H a;intro a H
  refine aG H G G G G (fun _ S=>(aU oV dG rfl S hl (by omega) (by omega))) ?_;clear H a;intro a H
  refine aG H G G G G (fun _ S=>aL rfl) ?_;clear H a;intro a H
  refine aG H G G G G (fun _ S=>aL rfl) ?_;clear H a;intro a H
  refine aG H G G G G (fun _ S=>bG dP dG G G (hl.adr (by omega)) (by omega)) ?_;clear H a;intro a H
  refine aG H G G G G (fun _ S=>(aU oV dG rfl S hl (by omega) (by omega))) ?_;clear H a;intro a H
  refine aT rfl ?_
  refine bA H G G ?_
  refine aA H G G Tryz.func49 G G (Nc (l.getD ((k:Int)-1).toNat aFh) (l.getD k aFh) _) ?_;clear H a
  rintro _ _ a ⟨rfl,S2⟩ H;replace S:=S.call S2;clear S2;refine wpList_nil (And.intro (S.sel [0] rfl rfl) ?_);refine aG H rfl rfl rfl rfl (fun _ S=>cO rfl) ?_;clear H a;intro a H;refine aG H rfl rfl rfl rfl (fun _ S=>(jQ rfl rfl rfl)) ?_;clear H a;intro a H;refine qF H<|qd G (fun _ S=>(aZ rfl rfl rfl))<|qK ?_;clear H a;intro a H
  refine bL ?_
  refine k23 _ _ ?_;refine cond_ H rfl (fun hc8=>?_) (fun hc8=>?_)
  ·skip
   try simp only [oz] at hc8
   replace hc8:befB (l.getD ((k:Int)-1).toNat aFh) (l.getD k aFh)=false:=by simpa using hc8
   replace H:=H.keep [] rfl;refine sS H fun K24 k24=>sr 1 G<|sE ?_;clear H a;intro a H
   refine k24 _ ?_;refine wp_ret ?_;refine ret1 (fn:=Tryz.f16) rfl H rfl ?_;rw [gR hye (by omega) (show k<l.length by omega) (Ee hB hc8)];exact ⟨rfl,(S.sel [] G G)⟩
  try simp only [oz] at hc8
  replace hc8:befB (l.getD ((k:Int)-1).toNat aFh) (l.getD k aFh)=true:=by simpa using hc8
  refine wp_skip ?_;refine k14 _ _ ?_;refine sO H<|sr 1 G<|sd (aI G G (by unfold i64ok;omega))<|sr 1 G<|sE ?_;clear H a;intro a H
  exact k11 (g1-1) (k+1) a _ (by omega) (by first|exact ⟨by omega,by omega,fG (f:=tskB y l) hp.2.2 (oL hB)⟩|exact ⟨by omega,by omega,fG (f:=tskB y l) hp.2.2 (oM hB hc8)⟩) (S.sel [0] G G) (H.keep [6,1,2] rfl)
 refine wp_exit ?_;refine k9 _ _ ?_;refine sS H fun K26 k26=>sr 1 G<|sE ?_;clear H a;intro a H
 refine k26 _ ?_;refine wp_ret ?_;refine ret1 (fn:=Tryz.f16) rfl H rfl ?_;rw [Dj hye (by omega) (bI.2 fun q hq=>hp.2.2 q (by omega))];exact ⟨rfl,(S.sel [] G G)⟩
end
section
theorem Jk {sz:Nat} {vs:List Value} (h:∀ j,j<sz→(vs.getD j undef).oneCell'=true):∀ k j,k<1→j<sz→(([vs].getD k []).getD j undef).oneCell'=true:=by
 intro k j hk hj;have e:k=0:=by omega
 subst e;exact h j hj
theorem Nf {k sz:Nat} {cell:Nat→Nat→Value} {vs:List Value} (h:∀ j,j<sz→vs.getD j undef=cell k j):∀ q j,q<k+1→j<sz→capp k cell (fun k' j=>([vs].getD k' []).getD j undef) q j=cell q j:=by
  intro q j hq hj;unfold capp;by_cases hc:q<k
  · rw [if_pos hc]
  · rw [if_neg hc]
    obtain rfl:q=k:=by omega
    rw [←h j hj];simp
theorem Ye {k q j:Nat} (hj:j<1):cput (fun q _ => .int .i64 (if q<k then -1 else 0)) k 0 (.int .i64 (-1)) q j = .int .i64 (if q<k+1 then -1 else 0):=by
  have:j=0:=by omega
  subst this;unfold cput;by_cases e:q=k
  · subst e;rw [if_pos ⟨rfl,rfl⟩,if_pos (by omega)]
  · rw [if_neg (fun h=>e h.1)]
    dsimp only;by_cases h:q<k
    · rw [if_pos h,if_pos (by omega)]
    · rw [if_neg h,if_neg (by omega)]
theorem Yf {x:Tsk} {vs:List Value} (h0:vs.getD 0 undef = .int .i64 x.day) (h1:vs.getD 1 undef = .int .i64 x.unit) (h2:vs.getD 2 undef = .int .i64 x.kind):∀ k j,k<1→j<3→([vs].getD k []).getD j undef=cD [x] k j:=fun k j hk hj=>by
 have:k=0:=by omega
 subst this;match j,hj with
 | 0,_=>exact h0
 | 1,_=>exact h1
 | 2,_=>exact h2
theorem Eh (l:List Tsk):∀ k j,k<l.length→j<3→(cD l k j).oneCell'=true:=fun k j _ _=>by
 unfold cD Tsk.cell
 split <;> rfl
theorem Ei {l m:List Tsk}:∀ k j,k<l.length+m.length→j<3→capp l.length (cD l) (cD m) k j=cD (l++m) k j:=by
 intro k j hk hj;unfold capp cD;by_cases h:k<l.length
 ·rw [if_pos h,List.getD_eq_getElem?_getD,List.getD_eq_getElem?_getD,List.getElem?_append_left h]
 ·rw [if_neg h,List.getD_eq_getElem?_getD,List.getD_eq_getElem?_getD,List.getElem?_append_right (by omega)]
theorem Bh (pl:Int) (ps:List Psg) (PA:Option Addr) (pc:Nat) (xs:List Int) (XA:Option Addr) (xc:Nat) (mm:Int) (js:List Jq) (JA:Option Addr) (jc:Nat) (AA:Nat→Option Addr) (ac:Nat→Nat) (nv:List Int) (NA:Option Addr) (nc:Nat) (cr un:Int) (st:List Int) (SA:Option Addr) (sc:Nat) (pe:List Int) (BA:Option Addr) (bc:Nat) (hlp:Bool) (T0:Int) (prs:List Prm) (QA:Option Addr) (qc:Nat) (w:World) (hps:InS w noF 7 PA ps.length (pcell ps)) (hps8:ps.length*56≤140737488351232) (hxs:InS w noF 1 XA xs.length (icl xs)) (hxs8:xs.length*8≤140737488351232) (hpe:InS w noF 1 BA pe.length (icl pe)) (hpe8:pe.length*8≤140737488351232) (hjs:InS w noF 3 JA js.length (jD js AA ac)) (hnv:InS w noF 1 NA nv.length (icl nv)) (haf:∀ k,k<js.length→InS w noF 1 (AA k) (js.getD k Jq.zero).after.length (icl (js.getD k Jq.zero).after)) (hjn:js.length≤9223372036854775807) (hnn:nv.length≤9223372036854775807) (han:∀ k,k<js.length→(js.getD k Jq.zero).after.length≤9223372036854775807) (hst:InS w noF 1 SA st.length (icl st)) (hsl:st.length=js.length) (hprs:InS w noF 5 QA prs.length (dX prs)) (hprn:prs.length≤9223372036854775807) (V:WkV mm js nv cr un) (hsb:∀ k,k<js.length→0≤st.getD k 0∧st.getD k 0≤24) (hpr6:prs.length≤6) :
    Calls Tryz.prog 11 [.agg [.int .i64 pl,.slice PA ps.length pc,.slice XA xs.length xc].toArray,.agg [.int .i64 mm,.slice JA js.length jc,.slice NA nv.length nc,.int .i64 cr,.int .i64 un].toArray,.slice SA st.length sc,.agg [.slice BA pe.length bc,.bool hlp,.int .i64 T0,.slice QA prs.length qc].toArray].toArray w (Ret (fun v w'=>∃ (QA2:Option Addr) (qc2:Nat) (RA:Nat→Option Addr) (rc:Nat→Nat) (VA:Option Addr) (vc:Nat) (LA:Option Addr) (lc:Nat),v = .tuple #[.agg [.int .i64 (calY un pl ps PA pc xs XA xc pe BA bc T0 hlp prs QA2 qc2 (calM js js.length) RA rc VA vc cr).days,.int .i64 (calY un pl ps PA pc xs XA xc pe BA bc T0 hlp prs QA2 qc2 (calM js js.length) RA rc VA vc cr).pl,.slice (calY un pl ps PA pc xs XA xc pe BA bc T0 hlp prs QA2 qc2 (calM js js.length) RA rc VA vc cr).PA (calY un pl ps PA pc xs XA xc pe BA bc T0 hlp prs QA2 qc2 (calM js js.length) RA rc VA vc cr).ps.length (calY un pl ps PA pc xs XA xc pe BA bc T0 hlp prs QA2 qc2 (calM js js.length) RA rc VA vc cr).pc,.slice (calY un pl ps PA pc xs XA xc pe BA bc T0 hlp prs QA2 qc2 (calM js js.length) RA rc VA vc cr).XA (calY un pl ps PA pc xs XA xc pe BA bc T0 hlp prs QA2 qc2 (calM js js.length) RA rc VA vc cr).xs.length (calY un pl ps PA pc xs XA xc pe BA bc T0 hlp prs QA2 qc2 (calM js js.length) RA rc VA vc cr).xc,.slice (calY un pl ps PA pc xs XA xc pe BA bc T0 hlp prs QA2 qc2 (calM js js.length) RA rc VA vc cr).BA (calY un pl ps PA pc xs XA xc pe BA bc T0 hlp prs QA2 qc2 (calM js js.length) RA rc VA vc cr).pe.length (calY un pl ps PA pc xs XA xc pe BA bc T0 hlp prs QA2 qc2 (calM js js.length) RA rc VA vc cr).bc,.int .i64 (calY un pl ps PA pc xs XA xc pe BA bc T0 hlp prs QA2 qc2 (calM js js.length) RA rc VA vc cr).limit,.bool (calY un pl ps PA pc xs XA xc pe BA bc T0 hlp prs QA2 qc2 (calM js js.length) RA rc VA vc cr).help,.slice (calY un pl ps PA pc xs XA xc pe BA bc T0 hlp prs QA2 qc2 (calM js js.length) RA rc VA vc cr).QA (calY un pl ps PA pc xs XA xc pe BA bc T0 hlp prs QA2 qc2 (calM js js.length) RA rc VA vc cr).prs.length (calY un pl ps PA pc xs XA xc pe BA bc T0 hlp prs QA2 qc2 (calM js js.length) RA rc VA vc cr).qc,.slice (calY un pl ps PA pc xs XA xc pe BA bc T0 hlp prs QA2 qc2 (calM js js.length) RA rc VA vc cr).VA (calY un pl ps PA pc xs XA xc pe BA bc T0 hlp prs QA2 qc2 (calM js js.length) RA rc VA vc cr).us.length (calY un pl ps PA pc xs XA xc pe BA bc T0 hlp prs QA2 qc2 (calM js js.length) RA rc VA vc cr).vc,.int .i64 (calY un pl ps PA pc xs XA xc pe BA bc T0 hlp prs QA2 qc2 (calM js js.length) RA rc VA vc cr).crew,.slice (calY un pl ps PA pc xs XA xc pe BA bc T0 hlp prs QA2 qc2 (calM js js.length) RA rc VA vc cr).SA (calY un pl ps PA pc xs XA xc pe BA bc T0 hlp prs QA2 qc2 (calM js js.length) RA rc VA vc cr).sps.length (calY un pl ps PA pc xs XA xc pe BA bc T0 hlp prs QA2 qc2 (calM js js.length) RA rc VA vc cr).sc].toArray,.slice LA (calL (calM js js.length) js st un.toNat).length lc,.bool (decide (taskE (calY un pl ps PA pc xs XA xc pe BA bc T0 hlp prs QA2 qc2 (calM js js.length) RA rc VA vc cr) (calL (calM js js.length) js st un.toNat)=0))]∧St w noF [ownM 98 5 QA2 (prs.map (calP un)).length qc2 (dX (prs.map (calP un))),ownM 58 12 VA (calUs (calM js js.length) RA rc).length vc (vcell (calUs (calM js js.length) RA rc)),ragM 88 2 (fun q=>q<(calUs (calM js js.length) RA rc).length) RA (fun _=>1) rc (fun _=>scell [(0,0)]),ownM 74 3 LA (calL (calM js js.length) js st un.toNat).length lc (cD (calL (calM js js.length) js st un.toNat))] w')):=by
 have hjl:=V.nj
 have hub:=V.unb
 have hmb:=V.mmb
 have hM:((mm.toNat:Nat):Int)=mm:=by omega
 refine enter Tryz.func11 rfl Tryz.ntmps11 rfl (fun a H=>?_)
 have S:=St.start w
 refine seq_list fun K1 k1=>?_
 refine aO H rfl S G G ?_;intro b4 _ a hb4 hbw4 S H
 refine aO H rfl S G G ?_;intro b5 _ a hb5 hbw5 S H
 refine aO H rfl S G G ?_;intro b7 _ a hb7 hbw7 S H
 refine aJ H rfl S Hn ?_;intro b8 _ a hb8 hbw8 S H
 refine ls 2 H<|sr 2 G<|sE ?_;clear H a;intro a H
 refine k1 _ _ ?_;replace H:=H.keep [2,4,5,7,8] rfl;refine seq_list fun K2 k2=>?_
 refine ls 12 H<|sf fI rfl<|sl S 2 aD G G G<|sd ((aB bW cQ rfl S (i:=3) G G))<|sf tQ rfl<|sl S 1 bE G G G<|sf tR rfl<|sl S 1 aD G G G<|sf Hk rfl<|sl S 1 iP G G G<|sf tP rfl<|sl S 2 aD G G G<|sd (aN aDh G G)<|sE ?_;clear H a;intro a H
 refine aJ H rfl S Hn ?_;intro b11 _ a hb11 hbw11 S H
 refine aE H S (i:=0) G G G G jR G G ?_
 clear H a S;intro _ a S H;refine k2 _ _ ?_;refine wp_seq_k fun K3 k3=>?_
 replace H:=H.keep [2,5,7,8,11] rfl;refine sS H fun K4 k4=>sr 1 G<|sE ?_;clear H a;intro a H
 refine k4 _ ?_;refine wp_block ?_;replace S:=S.newNil 98 5 (dX (prs.map (calP un)));refine loop_st (X:=Nat×Option Addr×Nat) (R0:=_) [2,5,7,8,11] H rfl (fun ⟨k,A5,c5⟩=>[(12,.int .i64 (k:Int))]) (fun ⟨k,A5,c5⟩=>[boxM b11 43 [.int .i64 un,.int .i64 pl,.slice PA ps.length pc,.slice XA xs.length xc,.slice BA pe.length bc,.int .i64 T0,.bool hlp,.slice A5 k c5,.slice none 0 0,.int .i64 cr,.slice none 0 0],ownM 98 5 A5 k c5 (dX (prs.map (calP un)))]) (fun g ⟨k,A5,c5⟩=>k≤prs.length∧g+k=prs.length) (prs.length) (0,none,0) ?_ (S.sel [1,0,2,3,4,5] G G) (H.keep [12,2,5,7,8,11] rfl) ?_
 · exact ⟨by omega,by omega⟩
 clear H S a;intro g1 x1 a w1 hp S H K5 k5;obtain ⟨k,A5,c5⟩:=x1;dsimp only at hp S H;refine wp_seq_k fun K6 k6=>?_
 refine sS H fun K7 k7=>sr 1 G<|sf jN rfl<|sl S 3 iV G G G<|sL gO rfl<|sr 1 G<|sE ?_;clear H a;intro a H
 refine k7 _ ?_;refine condL H rfl (fun hc1=>?_) (fun hc1=>?_)
 ·skip
  refine wp_skip ?_;refine k6 _ _ ?_;refine wp_seq_k fun K8 k8=>?_
  refine wp_block ?_;replace H:=H.keep [2,5,7,8,11,12] rfl;refine seq_list fun K9 k9=>?_
  refine ls 5 H<|sf jN rfl<|sl S 3 iV G G G<|sr 1 G<|si gO fW G G (hprs.adr (by omega)) (by omega)<|sd ((aU rO fW rfl S hprs (by omega) (by omega)))<|sE ?_;clear H a;intro a H
  refine aJ H rfl S sY ?_;intro b13 _ a hb13 hbw13 S H
  refine aE H S (i:=0) G G G G fW G G ?_
  clear H a S;intro _ a S H;refine k9 _ _ ?_;have SR:=(S.sel [1,2,3,4,5,6] G G);refine meet_sr (X:=Unit) [2,5,7,8,11,12,13] H rfl (fun _z9=>[]) (fun _z9=>[boxM b13 98 [.int .i64 (prs.getD k aFj).fr,.int .i64 (prs.getD k aFj).to,.int .i64 0,.int .i64 (un-1),.bool (prs.getD k aFj).helped]]) (fun _z9=>True) SR (fun K10 k10=>?_) ?_
  ·skip
   replace H:=H.keep [2,5,7,8,11,12,13] rfl;replace S:=S.drew;refine one_wt 999999 (.q 0 (.q 1 (.q 2 (.q 3 (.e 4 (.q 5 (.e 6 .nil))))))) (by kernel_rfl) (by kernel_rfl) (S.sel [1,2,3,4,5,6] G G) ?_;refine aH H G G (fun _ S=>(aC fI rfl)) ?_;clear H a;intro a H;refine aH H G G (fun _ S=>aF aD rfl (aEh S (i:=4) G G)) ?_;clear H a;intro a H;refine aH H G G (fun _ S=>aR G G (by unfold i64ok;omega)) ?_;clear H a;intro a H;refine aH H G G (fun _ S=>(aC mH rfl)) ?_;clear H a;intro a H;refine aM rfl ?_;refine aE H S (i:=0) G G G G aX G G ?_;clear H a S;intro _ a S H;refine wpList_nil (And.intro (Or.inr (S.sel [1,2,3,4,5,6] G G)) ?_);refine aH H G G (fun _ S=>(aC lA rfl)) ?_;clear H a;intro a H;refine aM rfl ?_;refine aE H S (i:=0) G G G G aX G G ?_;clear H a S;intro _ a S H;refine wpList_nil (And.intro (Or.inr (S.sel [1,2,3,4,5,6] G G)) ?_);refine bD ?_;exact k10 () a _ (trivial) (S.sel [0,1,2,3,4,5,6] G G) (H.keep [2,5,7,8,11,12,13] rfl)
  clear SR H S a;intro xm a wm hp S H;obtain ⟨_z9,rfl⟩:∃ y,y=xm:=⟨_,rfl⟩;replace H:=H.keep [2,5,7,8,11,12,13] rfl;refine one_list ?_;refine ls 3 H<|sf pY rfl<|sl S 1 iV rfl rfl rfl<|sd ((aB rO fW rfl S (i:=0) rfl rfl))<|sE ?_;clear H a;intro a H
  refine aY H rfl S gO fW sY G G G G G G G G G ?_;intro A1 _ a hA1 S H
  refine bM H rfl S gO fW sY Zg G G (i:=3) G G G (aEi S (i:=0) rfl) (Jk (fiveI G G G G G)) (by omega) (by omega) ?_;intro A2 c2 _ a S H
  replace S:=S.recell (i:=3) rfl (cell':=dX (prs.map (calP un))) (Nf (aCa (by omega) (fiveI G G G G G)));refine ls 1 H<|sf pY rfl<|sE ?_;clear H a;intro a H
  refine aE H S (i:=2) G G G G Ze G G ?_
  clear H a S;intro _ a S H;refine k8 _ _ ?_;replace H:=H.keep [2,5,7,8,11,12] rfl;refine sO H<|sr 1 G<|sd (aI G G (by unfold i64ok;omega))<|sr 1 G<|sE ?_;clear H a;intro a H
  exact k5 (g1-1) (k+1,_,_) a _ (by omega) (⟨by omega,by omega⟩) (S.sel [2,3,4,5,6,7] G G) (H.keep [12,2,5,7,8,11] rfl)
 refine wp_exit ?_;refine k3 _ _ ?_;refine seq_list fun K14 k14=>?_
 refine ls 2 H<|sf jL rfl<|sl S 4 aD G G G<|sE ?_;clear H a;intro a H
 refine fP (n:=mm.toNat) H rfl S aP aX fD mQ rfl (by decide) (by rw [hM];rfl) (by rw [hM];rfl) (by omega) (by omega) ?_;intro A3 _ a hA3 S H
 generalize A3=AU at S H
 replace S:=S.recell (i:=0) rfl (cell':=fun q _ => .int .i64 (if q<0 then -1 else 0)) (fun k9 j9 _ hj9=>by
   obtain rfl:j9=0:=by omega
   rfl)
 refine ls 1 H<|sr 1 G<|sE ?_;clear H a;intro a H
 refine k14 _ _ ?_;refine wp_seq_k fun K15 k15=>?_
 refine sS H fun K16 k16=>sr 1 G<|sE ?_;clear H a;intro a H
 refine k16 _ ?_;refine wp_block ?_;obtain rfl:k=prs.length:=by omega
 refine loop_st (X:=Nat) (R0:=_) [2,5,8,11,14] H rfl (fun k=>[(15,.int .i64 (k:Int))]) (fun k=>[ownM 3 1 AU mm.toNat mm.toNat (fun q _ => .int .i64 (if q<k then -1 else 0))]) (fun g k=>k≤mm.toNat∧g+k=mm.toNat) (mm.toNat) 0 ?_ (S.sel [0,1,2,3,4,5,6] G G) (H.keep [15,2,5,8,11,14] rfl) ?_
 · exact ⟨by omega,by omega⟩
 clear H S a;intro g2 x2 a w2 hp S H K17 k17;obtain ⟨k,rfl⟩:∃ y,y=x2:=⟨_,rfl⟩;refine wp_seq_k fun K18 k18=>?_
 refine sS H fun K19 k19=>sr 1 G<|sf jL rfl<|sl S 5 aD G G G<|sr 1 G<|sE ?_;clear H a;intro a H
 refine k19 _ ?_;refine condL H rfl (fun hc2=>?_) (fun hc2=>?_)
 ·skip
  refine wp_skip ?_;refine k18 _ _ ?_;refine wp_seq_k fun K20 k20=>?_
  refine wp_block ?_;refine one_list ?_;refine ls 3 H<|sr 2 G<|si aP aX G G (aEj S (i:=0) rfl (by omega)) (by omega)<|sE ?_;clear H a;intro a H
  refine bC H S (i:=0) (kk:=k) G G G (by omega) (by omega) aX rfl ?_
  clear H a S;intro _ a S H;replace S:=S.recell (i:=0) rfl (cell':=fun q _ => .int .i64 (if q<k+1 then -1 else 0)) (fun k9 j9 _ hj9=>Ye hj9);refine k20 _ _ ?_;replace H:=H.keep [2,5,8,11,14,15] rfl;refine sO H<|sr 1 G<|sd (aI G G (by unfold i64ok;omega))<|sr 1 G<|sE ?_;clear H a;intro a H
  exact k17 (g2-1) (k+1) a _ (by omega) (⟨by omega,by omega⟩) (S.sel [0,1,2,3,4,5,6] G G) (H.keep [15,2,5,8,11,14] rfl)
 refine wp_exit ?_;refine k15 _ _ ?_;refine wp_seq_k fun K23 k23=>?_
 refine sS H fun K24 k24=>sr 1 G<|sE ?_;clear H a;intro a H
 refine k24 _ ?_;refine wp_block ?_;replace S:=S.recell (i:=0) rfl (cell':=fun q _ => .int .i64 (posI [] (q:Int))) (fun k9 j9 hk9 _=>by rw [if_pos (by omega)];rfl);replace S:=S.newNil 58 12 (vcell (calUs [] (fun _=>none) (fun _=>0)));replace S:=aFb S 88 2 (fun _=>none) (fun _=>1) (fun _=>0) (fun _=>scell [(0,0)]);refine loop_st (X:=Nat×List Int×Option Addr×Nat×(Nat→Option Addr)×(Nat→Nat)) (R0:=_) [2,5,8,11,14] H rfl (fun ⟨i,ms,A8,c8,RA,rc⟩=>[(16,.int .i64 (i:Int))]) (fun ⟨i,ms,A8,c8,RA,rc⟩=>[boxM b11 43 [.int .i64 un,.int .i64 pl,.slice PA ps.length pc,.slice XA xs.length xc,.slice BA pe.length bc,.int .i64 T0,.bool hlp,.slice A5 prs.length c5,.slice A8 ms.length c8,.int .i64 cr,.slice none 0 0],ownM 3 1 AU mm.toNat mm.toNat (fun q _ => .int .i64 (posI ms (q:Int))),ownM 58 12 A8 ms.length c8 (vcell (calUs ms RA rc)),ragM 88 2 (fun q=>q<ms.length) RA (fun _=>1) rc (fun _=>scell [(0,0)])]) (fun g ⟨i,ms,A8,c8,RA,rc⟩=>i≤js.length∧g+i=js.length∧ms=calM js i) (js.length) (0,[],none,0,(fun _=>none),(fun _=>0)) ?_ (S.sel [3,2,1,0,4,5,6,7,8] G G) (H.keep [16,2,5,8,11,14] rfl) ?_
 · exact ⟨by omega,by omega,rfl⟩
 clear H S a;intro g3 x3 a w3 hp S H K25 k25;obtain ⟨i,ms,A8,c8,RA,rc⟩:=x3;dsimp only at hp S H;obtain ⟨hil,hgi,hms⟩:=hp;refine wp_seq_k fun K26 k26=>?_
 refine sS H fun K27 k27=>sr 1 G<|sf dC rfl<|sl S 7 eJ G G G<|sL eW rfl<|sr 1 G<|sE ?_;clear H a;intro a H
 refine k27 _ ?_;refine condL H rfl (fun hc3=>?_) (fun hc3=>?_)
 ·skip
  refine wp_skip ?_;refine k26 _ _ ?_;refine wp_seq_k fun K28 k28=>?_
  refine wp_block ?_;have hji:=V.job i (by omega);have hmt:(((js.getD i Jq.zero).mach.toNat:Nat):Int)=(js.getD i Jq.zero).mach:=by omega
  have hmsl:ms.length≤i:=by rw [hms];exact wX i
  have hpb:=Xo (ms:=ms) (m:=(((js.getD i Jq.zero).mach.toNat:Nat):Int))
  replace H:=H.keep [2,5,8,11,14,16] rfl;refine sS H fun K29 k29=>sf dC rfl<|sl S 7 eJ G G G<|sr 1 G<|si eW dV G G (hjs.adr (by omega)) (by omega)<|sp lM rfl<|slm aD rfl (hjs.rd S (by omega) (by omega))<|sr 1 G<|sE ?_;clear H a;intro a H
  refine k29 _ ?_;replace H:=H.keep [2,5,8,11,14,16,17] rfl;refine sS H fun K30 k30=>sr 2 G<|sI aP aX G G (aEj S (i:=1) rfl (by omega)) (by omega) (by omega)<|slm aD rfl (aEk S (i:=1) rfl (by omega) (by omega))<|sr 1 G<|sE ?_;clear H a;intro a H
  refine k30 _ ?_;refine condL H rfl (fun hc4=>?_) (fun hc4=>?_)
  ·skip
   have hpn:posI ms (js.getD i Jq.zero).mach<0:=by rw [←hmt];exact hc4
   replace H:=H.keep [2,5,8,11,14,16,17] rfl;refine seq_list fun K31 k31=>?_
   refine ls 6 H<|sr 2 G<|sf dD rfl<|sl S 0 eR G G G<|sL fJ rfl<|sI aP aX G G (aEj S (i:=1) rfl (by omega)) (by omega) (by omega)<|sE ?_;clear H a;intro a H
   refine bC H S (i:=1) (kk:=(js.getD i Jq.zero).mach.toNat) G G G (by omega) (by omega) aX rfl ?_
   clear H a S;intro _ a S H;replace S:=S.recell (i:=1) rfl (cell':=fun q _ => .int .i64 (posI (ms++[(js.getD i Jq.zero).mach]) (q:Int))) (fun k9 j9 _ hj9=>aCb hpn (by omega) k9 j9 hj9);refine k31 _ _ ?_;replace H:=H.keep [2,5,8,11,14,16,17] rfl;refine one_list ?_;refine ls 4 H<|sf dD rfl<|sl S 0 eR G G G<|sr 1 G<|sd (aN dW G G)<|sE ?_;clear H a;intro a H
   refine aY H rfl S dH aS cB G G G G G G G G G ?_;intro A4 _ a hA4 S H
   obtain ⟨AR,rfl⟩:∃ y,y=A4:=⟨_,rfl⟩
   replace S:=S.recell (i:=0) rfl (cell':=scell [(0,0)]) (fun k9 j9 hk9 hj9=>by
     obtain rfl:k9=0:=by omega
     rcases (show j9=0∨j9=1 by omega) with rfl|rfl <;> rfl)
   refine ls 2 H<|sd (aN aDi G G)<|sd (aN aDj G G)<|sE ?_;clear H a;intro a H
   refine aY H rfl S fJ jS xU G G G G G G G G G ?_;intro A5 _ a hA5 S H
   refine bM H rfl S fJ jS xU aDf G G (i:=4) G G G (aEi S (i:=0) rfl) (Jk (Ji G G G G G G G G G G G G)) (by omega) (by omega) ?_;intro A6 c6 _ a S H
   replace S:=S.recell (i:=4) rfl (cell':=vcell (calUs (ms++[(js.getD i Jq.zero).mach]) (upd RA ms.length AR) (upd rc ms.length 1))) (Xq (Ji G G G G G G G G G G G G));refine ls 1 H<|sf dD rfl<|sE ?_;clear H a;intro a H
   refine aE H S (i:=2) G G G G aDc G G ?_
   clear H a S;intro _ a S H;replace S:=Tb (S.sel [1,5,0,2,3,4,6,7,8,9,10] G G) rfl;rw [show ms.length+1=(ms++[(js.getD i Jq.zero).mach]).length by rw [List.length_append];rfl] at S;refine k28 _ _ ?_;replace H:=H.keep [2,5,8,11,14,16] rfl;refine sO H<|sr 1 G<|sd (aI G G (by unfold i64ok;omega))<|sr 1 G<|sE ?_;clear H a;intro a H
   exact k25 (g3-1) (i+1,_,_,_,_,_) a _ (by omega) (⟨by omega,by omega,by rw [calM,←hms,if_pos hpn]⟩) (S.sel [2,3,4,0,5,6,7,8,9] G G) (H.keep [16,2,5,8,11,14] rfl)
  refine wp_skip ?_;refine k28 _ _ ?_;refine sO H<|sr 1 G<|sd (aI G G (by unfold i64ok;omega))<|sr 1 G<|sE ?_;clear H a;intro a H
  exact k25 (g3-1) (i+1,_,_,_,_,_) a _ (by omega) (⟨by omega,by omega,by rw [calM,←hms,if_neg (by rw [←hmt];omega)]⟩) (S.sel [0,1,2,3,4,5,6,7,8] G G) (H.keep [16,2,5,8,11,14] rfl)
 refine wp_exit ?_;refine k23 _ _ ?_;refine sS H fun K35 k35=>sr 1 G<|sE ?_;clear H a;intro a H
 refine k35 _ ?_;refine wp_seq_k fun K36 k36=>?_
 refine sS H fun K37 k37=>sr 1 G<|sE ?_;clear H a;intro a H
 refine k37 _ ?_;refine wp_block ?_;obtain rfl:i=js.length:=by omega
 have hmsl:ms.length≤js.length:=by rw [hms];exact wX _
 replace S:=S.newNil 74 3 (cD []);refine loop_st (X:=Nat×List Tsk×Option Addr×Nat) (R0:=_) [2,5,8,11,14] H rfl (fun ⟨d,l9,A9,c9⟩=>[(18,.slice A9 l9.length c9),(19,.int .i64 (d:Int))]) (fun ⟨d,l9,A9,c9⟩=>[ownM 74 3 A9 l9.length c9 (cD l9)]) (fun g ⟨d,l9,A9,c9⟩=>(d:Int)≤un∧g+d=un.toNat∧l9=calL ms js st d) (un.toNat) (0,[],none,0) ?_ (S.sel [0,1,2,3,4,5,6,7,8,9] G G) (H.keep [18,19,2,5,8,11,14] rfl) ?_
 · exact ⟨by omega,by omega,rfl⟩
 clear H S a;intro g4 x4 a w4 hp S H K38 k38;obtain ⟨d,l9,A9,c9⟩:=x4;dsimp only at hp S H;obtain ⟨hdl,hgd,hl9⟩:=hp;refine wp_seq_k fun K39 k39=>?_
 refine sS H fun K40 k40=>sr 1 G<|sf fI rfl<|sl S 8 aD G G G<|sr 1 G<|sE ?_;clear H a;intro a H
 refine k40 _ ?_;refine condL H rfl (fun hc5=>?_) (fun hc5=>?_)
 ·skip
  refine wp_skip ?_;refine k39 _ _ ?_;refine wp_seq_k fun K41 k41=>?_
  refine wp_block ?_;refine sS H fun K42 k42=>sr 1 G<|sE ?_;clear H a;intro a H
  refine k42 _ ?_;refine wp_block ?_;refine loop_st (X:=Nat×List Tsk×Option Addr×Nat) (R0:=_) [2,5,8,11,14,19] H rfl (fun ⟨u,l9,A9,c9⟩=>[(18,.slice A9 l9.length c9),(20,.int .i64 (u:Int))]) (fun ⟨u,l9,A9,c9⟩=>[ownM 74 3 A9 l9.length c9 (cD l9)]) (fun g ⟨u,l9,A9,c9⟩=>u≤ms.length∧g+u=ms.length∧l9=calL ms js st d++calV ms js st d u) (ms.length) (0,_,_,_) ?_ (S.sel [0,1,2,3,4,5,6,7,8,9] G G) (H.keep [18,20,2,5,8,11,14,19] rfl) ?_
  · exact ⟨by omega,by omega,by rw [hl9];exact (List.append_nil _).symm⟩
  clear H S a;intro g5 x5 a w5 hp S H K43 k43;obtain ⟨u,l9,A9,c9⟩:=x5;dsimp only at hp S H;refine wp_seq_k fun K44 k44=>?_
  refine sS H fun K45 k45=>sr 1 G<|sf dD rfl<|sl S 1 eR G G G<|sL fJ rfl<|sr 1 G<|sE ?_;clear H a;intro a H
  refine k45 _ ?_;refine condL H rfl (fun hc6=>?_) (fun hc6=>?_)
  ·skip
   refine wp_skip ?_;refine k44 _ _ ?_;refine wp_seq_k fun K46 k46=>?_
   refine wp_block ?_;refine sS H fun K47 k47=>sr 1 G<|sE ?_;clear H a;intro a H
   refine k47 _ ?_;refine wp_block ?_;obtain ⟨hul,hgu,hl9⟩:=hp;refine loop_st (X:=Nat×List Tsk×Option Addr×Nat) (R0:=_) [2,5,8,11,14,19,20] H rfl (fun ⟨q,l9,A9,c9⟩=>[(18,.slice A9 l9.length c9),(21,.int .i64 (q:Int))]) (fun ⟨q,l9,A9,c9⟩=>[ownM 74 3 A9 l9.length c9 (cD l9)]) (fun g ⟨q,l9,A9,c9⟩=>q≤js.length∧g+q=js.length∧l9=(calL ms js st d++calV ms js st d u)++calI ms js st d u q) (js.length) (0,_,_,_) ?_ (S.sel [0,1,2,3,4,5,6,7,8,9] rfl rfl) (H.keep [18,21,2,5,8,11,14,19,20] rfl) ?_
   · exact ⟨by omega,by omega,by rw [hl9];exact (List.append_nil _).symm⟩
   clear H S a;intro g6 x6 a w6 hp S H K48 k48;obtain ⟨q,l9,A9,c9⟩:=x6;dsimp only at hp S H;obtain ⟨hql,hgq,hl9⟩:=hp;refine wp_seq_k fun K49 k49=>?_
   refine sS H fun K50 k50=>sr 1 G<|sf dC rfl<|sl S 8 eJ G G G<|sL eW rfl<|sr 1 G<|sE ?_;clear H a;intro a H
   refine k50 _ ?_;refine condL H rfl (fun hc7=>?_) (fun hc7=>?_)
   ·skip
    refine wp_skip ?_;refine k49 _ _ ?_;refine wp_seq_k fun K51 k51=>?_
    refine wp_block ?_;have hjq:=V.job q (by omega);have hsq:=hsb q (by omega);replace H:=H.keep [2,5,8,11,14,18,19,20,21] rfl;replace S:=S.drew
    refine sD H fun K52 k52=>sr 1 G<|sf dC rfl<|sl S 8 eJ G G G<|sr 1 G<|si eW dV G G (hjs.adr (by omega)) (by omega)<|sp lM rfl<|slm aD rfl (hjs.rd S (by omega) (by omega))<|sI aP aX G G (aEj S (i:=2) rfl (by omega)) (by omega) (by omega)<|slm aD rfl (aEk S (i:=2) rfl (by omega) (by omega))<|sr 3 G<|sg 6 11 134 140 true G G (fun hg12=>by
        have hq12:=hg12;try simp only [oz] at hq12
        exact sy hg12<|sr 1 G<|sy hg12<|sr 1 G<|sy hg12<|si aP aX G G (hst.adr (by omega)) (by omega)<|sy hg12<|slm aD rfl (hst.rd S (by omega) (by omega))<|sy hg12<|sr 1 G<|sy hg12<|sr 1 G<|sz 6 G G G)<|sa G G G<|sr 1 G<|sg 13 19 142 155 true G G (fun hg20=>by
        have hq20:=hg20;try simp only [oz] at hq20
        exact sy hg20<|sr 1 G<|sy hg20<|sr 1 G<|sy hg20<|sr 1 G<|sy hg20<|si aP aX G G (hst.adr (by omega)) (by omega)<|sy hg20<|slm aD rfl (hst.rd S (by omega) (by omega))<|sy hg20<|sf dC rfl<|sy hg20<|sl S 8 eJ G G G<|sy hg20<|sr 1 G<|sy hg20<|si eW dV G G (hjs.adr (by omega)) (by omega)<|sy hg20<|sp kM rfl<|sy hg20<|slm aD rfl (hjs.rd S (by omega) (by omega))<|sy hg20<|sd (aI G G (by unfold i64ok;omega))<|sy hg20<|sr 1 G<|sz 13 G G G)<|sa G G G<|sE ?_;clear H a;intro a H
    refine k52 _ ?_;refine cond_ H rfl (fun hc8=>?_) (fun hc8=>?_)
    ·skip
     try simp only [oz] at hc8
     have hcb:calB ms js st d u q=true:=aCc (by omega) hc8
     have hlb:l9.length≤1000:=by rw [hl9];exact Jh (by omega) (by omega) (by omega) (by omega) (by omega)
     replace H:=H.keep [2,5,8,11,14,18,19,20,21] rfl;refine one_list ?_;refine ls 4 H<|sr 3 G<|sd (aN aDk G G)<|sE ?_;clear H a;intro a H
     refine aY H rfl S dP dG sX G G G G G G G G G ?_;intro A7 _ a hA7 S H
     replace S:=S.recell (i:=0) rfl (cell':=cD [(⟨(d:Int),(u:Int),1⟩:Tsk)]) (fun k9 j9 hk9 hj9=>Yf G G G k9 j9 hk9 hj9);refine bM H rfl S dP dG sX Ou G G (i:=1) G G G (aEi S (i:=0) rfl) (Eh [(⟨(d:Int),(u:Int),1⟩:Tsk)]) (by show (_+1)*_≤_;omega) (by show _+1≤_;omega) ?_;intro A8 c8 _ a S H;replace S:=S.recell (i:=1) rfl (cell':=cD (l9++[(⟨(d:Int),(u:Int),1⟩:Tsk)])) (fun k9 j9 hk9 hj9=>Ei (m:=[(⟨(d:Int),(u:Int),1⟩:Tsk)]) k9 j9 hk9 hj9);rw [show l9.length+1=(l9++[(⟨(d:Int),(u:Int),1⟩:Tsk)]).length by rw [List.length_append];rfl] at S H;refine ls 1 H<|sr 1 G<|sE ?_;clear H a;intro a H
     refine k51 _ _ ?_;replace H:=H.keep [2,5,8,11,14,18,19,20,21] rfl;refine sO H<|sr 1 G<|sd (aI G G (by unfold i64ok;omega))<|sr 1 G<|sE ?_;clear H a;intro a H
     exact k48 (g6-1) (q+1,_,_,_) a _ (by omega) (⟨by omega,by omega,by rw [hl9];exact Xr hcb⟩) (S.sel [1,2,3,4,5,6,7,8,9,10] G G) (H.keep [18,21,2,5,8,11,14,19,20] rfl)
    try simp only [oz] at hc8
    refine wp_skip ?_;refine k51 _ _ ?_;refine sO H<|sr 1 G<|sd (aI G G (by unfold i64ok;omega))<|sr 1 G<|sE ?_;clear H a;intro a H
    exact k48 (g6-1) (q+1,_,_,_) a _ (by omega) (⟨by omega,by omega,by rw [hl9];exact Xs (aCd (a:=(((js.getD q Jq.zero).mach.toNat:Nat):Int)) (by omega) (by omega))⟩) (S.sel [0,1,2,3,4,5,6,7,8,9] G G) (H.keep [18,21,2,5,8,11,14,19,20] rfl)
   refine wp_exit ?_;refine k46 _ _ ?_;refine sO H<|sr 1 G<|sd (aI G G (by unfold i64ok;omega))<|sr 1 G<|sE ?_;clear H a;intro a H
   obtain rfl:q=js.length:=by omega
   exact k43 (g5-1) (u+1,_,_,_) a _ (by omega) (⟨by omega,by omega,by rw [hl9];exact Xu⟩) (S.sel [0,1,2,3,4,5,6,7,8,9] G G) (H.keep [18,20,2,5,8,11,14,19] rfl)
  refine wp_exit ?_;refine k41 _ _ ?_;replace H:=H.keep [2,5,8,11,14,18,19] rfl;refine sO H<|sr 1 G<|sd (aI G G (by unfold i64ok;omega))<|sr 1 G<|sE ?_;clear H a;intro a H
  obtain rfl:u=ms.length:=by omega
  exact k38 (g4-1) (d+1,_,_,_) a _ (by omega) (⟨by omega,by omega,hp.2.2⟩) (S.sel [0,1,2,3,4,5,6,7,8,9] G G) (H.keep [18,19,2,5,8,11,14] rfl)
 refine wp_exit ?_;refine k36 _ _ ?_
 have hlb:l9.length≤1000:=by
   rw [hl9,←List.append_nil (calL ms js st d),←List.append_nil (calL ms js st d++[])];exact Jh (u:=0) (i:=0) (by omega) (by omega) (by omega) (by omega) (by omega)
 obtain rfl:d=un.toNat:=by omega
 subst hms;rw [show (calM js js.length).length=(calUs (calM js js.length) RA rc).length from calUs_len.symm,show prs.length=(prs.map (calP un)).length from (List.length_map ..).symm] at S;replace H:=H.keep [8,11,18] rfl;replace S:=S.drew;refine seq_wt 999999 (.q 0 (.q 1 (.q 2 (.q 3 (.e 4 (.q 5 (.e 6 (.q 7 (.q 8 .nil))))))))) (by kernel_rfl) (by kernel_rfl) (S.sel [0,1,2,3,4,5,7,8,9] G G) fun K58 k58=>?_
 refine aH H G G (fun _ S=>(aB gZ jR rfl S (i:=1) G G)) ?_;intro a H
 refine aH H G G (fun _ S=>aL rfl) ?_;intro a H
 refine aH H G G (fun _ S=>(aB gZ jR rfl S (i:=1) G G)) ?_;intro a H
 refine aH H G G (fun _ S=>aL rfl) ?_;intro a H
 refine aM rfl ?_
 refine aA H G G Tryz.func16 G G (Tk (calY un pl ps PA pc xs XA xc pe BA bc T0 hlp prs A5 c5 (calM js js.length) RA rc A8 c8 cr) l9 A9 c9 _ (Be S hps hxs hpe (i:=5) rfl (j:=3) rfl (k:=4) rfl) (Jj hps8 hxs8 hpe8 (by omega) (by omega)) (aEi S (i:=0) rfl) (by omega)) ?_;clear H a
 rintro _ _ a ⟨rfl,S2⟩ H;replace S:=S.call S2;clear S2;refine wpList_nil (And.intro (Or.inr (S.sel [0,1,2,3,4,5,7,8,9] rfl rfl)) ?_);refine aH H rfl rfl (fun _ S=>Bo rfl rfl) ?_;intro a H;refine aM rfl ?_;refine aE H S (i:=6) rfl rfl rfl rfl jR rfl rfl ?_;clear H a S;intro _ a S H;refine wpList_nil (And.intro (Or.inr (S.sel [0,1,2,3,4,5,7,8,9] rfl rfl)) ?_);refine aH H rfl rfl (fun _ S=>bK rfl) ?_;intro a H;refine aH H rfl rfl (fun _ S=>bK rfl) ?_;intro a H;refine bD ?_;refine k58 _ _ ?_;refine wp_ret ?_;refine Zq (fn:=Tryz.f11) rfl H rfl gZ (by exact jR) (dN S (i:=6) rfl) rfl rfl ?_;exact ⟨_,_,_,_,_,_,_,_,by rw [hl9];rfl,by rw [←hl9];exact (S.sel [5,3,4,0] rfl rfl)⟩
end
section
theorem six {p:Nat→Prop} (h0:p 0) (h1:p 1) (h2:p 2) (h3:p 3) (h4:p 4) (h5:p 5):∀ j,j<6→p j:=by
 intro j hj;match j,hj with
 | 0,_=>exact h0
 | 1,_=>exact h1
 | 2,_=>exact h2
 | 3,_=>exact h3
 | 4,_=>exact h4
 | 5,_=>exact h5
theorem xC {l:List Use} {x:Use} {vs:List Value} (h:∀ j,j<6→vs.getD j undef=x.cell j):∀ q j,q<l.length+1→j<6→capp l.length (ucell l) (fun k' j=>([vs].getD k' []).getD j undef) q j=ucell (l++[x]) q j:=by
  intro q j hq hj;unfold capp ucell;by_cases h1:q<l.length
  · rw [if_pos h1,List.getD_eq_getElem?_getD,List.getD_eq_getElem?_getD,List.getElem?_append_left h1]
  · rw [if_neg h1]
    have e:q=l.length:=by omega
    subst e;rw [Nat.sub_self,List.getD_eq_getElem?_getD (l:=l++[x]),List.getElem?_append_right (Nat.le_refl _),Nat.sub_self];exact h j hj
theorem Yg {w:World} {p:Part} {l:List Use} {v:Value} {w':World} (h:v = .tuple #[.int .i64 (eQ p l Prod.snd).1,.int .i64 (eQ p l Prod.snd).2]∧St w noF [] w'):∃ n e:Int,v = .tuple #[.int .i64 n,.int .i64 e]∧bydB p l=(!decide (e=0)||decide (0≤n))∧St w noF [] w':=⟨_,_,h.1,rfl,h.2⟩
theorem Tl {w:World} {F:Nat→Prop} {sz n:Nat} {A:Option Addr} {cell:Nat→Nat→Value} (h:InS w F sz A n cell):A=none→n=0∧n=0:=fun e=>by
  rcases Nat.eq_zero_or_pos n with h0|h0
  · exact ⟨h0,h0⟩
  · obtain ⟨b,o,h1,_⟩:=h h0
    rw [e] at h1;cases h1
theorem Ng (u:Unt) (l:List Use) (LA:Option Addr) (lc:Nat) (age:Int) (w:World) (hur:InS w noF 2 u.RA u.rates.length (scell u.rates)) (hurn:u.rates.length≤9223372036854775807) (huu:InS w noF 6 u.UA u.uses.length (ucell u.uses)) (huun:u.uses.length≤9223372036854775807) (hl:InS w noF 6 LA l.length (ucell l)) (hln:l.length≤1000000) (hlc:l.length≤lc) :
    Calls Tryz.prog 157 [.agg [.int .i64 u.mach,.int .i64 u.every,.int .i64 u.seen,.slice u.RA u.rates.length u.rc,.int .i64 u.worn,.int .i64 u.turns,.int .i64 u.age,.slice u.UA u.uses.length u.uc,.int .i64 u.old,.int .i64 u.tn,.int .i64 u.cl,.int .i64 u.kind].toArray,.slice LA l.length lc,.int .i64 age].toArray w (Ret (fun v w'=>v = .bool (bydB u.part (l++[⟨age,u.tn,u.cl,false,0,0⟩]))∧St w noF [] w')):=by
 refine enter Tryz.func157 rfl Tryz.ntmps157 rfl (fun a H=>?_)
 have S:=St.start w
 refine seq_list fun K1 k1=>?_
 refine aO H rfl S G G ?_;intro b3 _ a hb3 hbw3 S H
 refine ls 1 H<|sr 1 G<|sE ?_;intro a H
 refine k1 _ _ ?_;replace H:=H.keep [1,2,3] rfl;refine seq_list fun K2 k2=>?_
 refine ls 6 H<|sr 1 G<|sf tV rfl<|sl S 0 aD G G G<|sf tW rfl<|sl S 0 aD G G G<|sd (aN Pm G G)<|sE ?_;intro a H
 refine aJ H rfl S lH ?_;intro b7 _ a hb7 hbw7 S H
 refine aE H S (i:=0) G G G G cY G G ?_
 clear H a S;intro _ a S H;refine k2 _ _ ?_;replace H:=H.keep [1,3,7] rfl;replace S:=S.drew;refine seq_wt 999999 (.q 0 (.q 1 (.q 2 (.q 3 (.q 4 (.q 5 (.q 6 (.q 7 (.q 8 (.e 9 (.e 10 (.e 11 (.q 12 (.q 13 (.q 14 (.q 15 (.q 16 .nil))))))))))))))))) (by kernel_rfl) (by kernel_rfl) (S.sel [0,1] G G) fun K3 k3=>?_
 refine aH H G G (fun _ S=>(aC nZ rfl)) ?_;intro a H
 refine aH H G G (fun _ S=>(aB fH iQ rfl S (i:=1) G G)) ?_;intro a H
 refine aH H G G (fun _ S=>aL rfl) ?_;intro a H
 refine aH H G G (fun _ S=>aL rfl) ?_;intro a H
 refine aH H G G (fun _ S=>cE dI rfl) ?_;intro a H
 refine aH H G G (fun _ S=>aL rfl) ?_;intro a H
 refine aH H G G (fun _ S=>cE dI rfl) ?_;intro a H
 refine aH H G G (fun _ S=>tG dI cY G G G hlc) ?_;intro a H
 refine aH H G G (fun _ S=>(aB kY cY rfl S (i:=0) G G)) ?_;intro a H
 refine aM rfl ?_
 refine aY H rfl S dI cY lH G G G G G G G G G ?_;intro A1 _ a hA1 S H
 refine wpList_nil (And.intro (Or.inr (S.sel [1,2] rfl rfl)) ?_);refine aM rfl ?_;refine rB H rfl S dI cY lH Pd rfl rfl rfl rfl (n:=l.length) (cell:=ucell l) (cell':=_) (hl.now S) (Tl (hl.now S)) (by omega) (by omega) (aEi S (i:=0) rfl) (jA (six rfl rfl rfl rfl rfl rfl)) (by omega) (by omega) ?_;intro A2 c2 _ a S H;replace S:=S.recell (i:=0) rfl (cell':=ucell (l++[⟨age,u.tn,u.cl,false,0,0⟩])) (xC (x:=⟨age,u.tn,u.cl,false,0,0⟩) (six rfl rfl rfl rfl rfl rfl));refine wpList_nil (And.intro (Or.inr (S.sel [2,3] rfl rfl)) ?_);refine aM rfl ?_;rw [show l.length+1=(l++[(⟨age,u.tn,u.cl,false,0,0⟩:Use)]).length by simp] at H S;have hcl9:=eY (Bf u.rates u.worn u.turns u.age u.RA u.rc (l++[⟨age,u.tn,u.cl,false,0,0⟩]) A2 c2 _ (hur.now S) hurn ((aEi S (i:=0) rfl)) (by simp;omega)) (fun _ _ h=>Yg h);refine aA H rfl rfl Tryz.func183 rfl rfl hcl9 ?_;clear H a hcl9;rintro _ _ a ⟨n9,e9,rfl,hb9,S2⟩ H;replace S:=S.call S2;clear S2;refine wpList_nil (And.intro (Or.inr (S.sel [2,3] rfl rfl)) ?_);refine aH H rfl rfl (fun _ S=>aL rfl) ?_;intro a H;refine aH H rfl rfl (fun _ S=>aQ rfl rfl) ?_;intro a H;refine aH H rfl rfl (fun _ S=>aQ rfl rfl) ?_;intro a H;refine aH H rfl rfl (fun _ S=>bK rfl) ?_;intro a H;refine aH H rfl rfl (fun _ S=>bK rfl) ?_;intro a H;refine bD ?_;refine k3 _ _ ?_;replace H:=H.keep [8,9] rfl;refine sS H fun K4 k4=>sr 3 G<|sg 2 2 33 35 false rfl rfl (fun hg3=>sy hg3<|sr 1 G<|sy hg3<|sr 1 G<|sz 2 rfl rfl rfl)<|so rfl rfl rfl<|sr 1 G<|sE ?_;intro a H
 refine k4 _ ?_;refine wp_ret ?_;refine ret1 (fn:=Tryz.f157) rfl H rfl ?_;exact ⟨congrArg Value.bool hb9.symm,(S.sel [] G G)⟩
theorem Yh (u:Unt) (J:Nat→Int) (dy:Nat) (w:World) (hur:InS w noF 2 u.RA u.rates.length (scell u.rates)) (hurn:u.rates.length≤9223372036854775807) (huu:InS w noF 6 u.UA u.uses.length (ucell u.uses)) (huun:u.uses.length≤9223372036854775807) (hucp:u.uses.length≤u.uc) (hui:untI u) (ho0:0≤u.old) (hJ:∀ d,0≤J d∧J d≤6) (hdy:dy≤20) :
    Calls Tryz.prog 125 [.agg [.int .i64 u.mach,.int .i64 u.every,.int .i64 u.seen,.slice u.RA u.rates.length u.rc,.int .i64 u.worn,.int .i64 u.turns,.int .i64 u.age,.slice u.UA u.uses.length u.uc,.int .i64 u.old,.int .i64 u.tn,.int .i64 u.cl,.int .i64 u.kind].toArray,.agg ((List.range 20).map fun k=>Value.int .i64 (J k)).toArray,.int .i64 (dy:Int)].toArray w (Ret (fun v w'=>v = .agg [.int .i64 (bsum (runB' u J) dy),.int .i64 (bsum (certB u J) dy)].toArray∧St w noF [] w')):=by
 have hmx:maxLen=9223372036854775807:=rfl
 unfold untI at hui
 refine enter Tryz.func125 rfl Tryz.ntmps125 rfl (fun a H=>?_)
 have S:=St.start w
 refine seq_list fun K1 k1=>?_
 refine aO H rfl S G G ?_;intro b3 _ a hb3 hbw3 S H
 refine aO H rfl S G G ?_;intro b4 _ a hb4 hbw4 S H
 refine aJ H rfl S rR ?_;intro b6 _ a hb6 hbw6 S H
 refine k1 _ _ ?_;replace S:=Xe S (i:=1) rfl (by omega);refine seq_list fun K2 k2=>?_
 refine aJ H rfl S rR ?_;intro b7 _ a hb7 hbw7 S H
 refine k2 _ _ ?_;replace H:=H.keep [2,3,4,6,7] rfl;replace S:=S.drew;refine sD H fun K3 k3=>sf iB rfl<|sl S 3 kL G G G<|sf tU rfl<|sl S 3 aD G G G<|sd (jP rfl (by unfold i64ok;omega))<|sf zQ rfl<|sl S 3 aD G G G<|sr 3 G<|sE ?_;clear H a;intro a H
 refine k3 _ ?_;refine wp_seq_k fun K4 k4=>?_
 replace H:=H.keep [2,3,4,6,7,8,9,10] rfl;refine sS H fun K5 k5=>sr 2 G<|sE ?_;clear H a;intro a H
 refine k5 _ ?_;refine wp_block ?_;replace S:=S.frz0;refine loop_st (X:=Nat×LSt×Option Addr×Nat×(Nat→Prop)×World) (R0:=_) [3,4,6,7,21] H rfl (fun ⟨d,st,A9,c9,B9,wz⟩=>[(8,.slice A9 st.uses.length c9),(9,.int .i64 st.born),(10,.int .i64 st.seen),(22,.int .i64 (d:Int))]) (fun ⟨d,st,A9,c9,B9,wz⟩=>[boxM b7 139 [.int .i64 (bsum (runB' u J) d),.int .i64 (bsum (certB u J) d)],frzM B9 wz]) (fun g ⟨d,st,A9,c9,B9,wz⟩=>(d≤dy∧g+d=dy)∧(RdF w noF B9 wz 6 A9 st.uses.length (ucell st.uses)∧st.uses.length≤c9)∧st=lifeS u J d) (dy) (0,lifeS u J 0,u.UA,u.uc,noF,_) ?_ (S.sel [1,0,2,3,4] G G) (H.keep [8,9,10,22,3,4,6,7,21] rfl) ?_
 · exact ⟨⟨by omega,by omega⟩,⟨RdF.base huu,hucp⟩,rfl⟩
 clear H S a;intro g1 x1 a w1 hp S H K6 k6;obtain ⟨d,st,A9,c9,B9,wz⟩:=x1;dsimp only at hp S H;obtain ⟨⟨hdl,hgd⟩,⟨hrd,hcap⟩,hst9⟩:=hp;subst hst9;have hln:=Md (u:=u) (J:=J) d;have hbo:=Gv (u:=u) (J:=J) (by omega) d;have hsn:=Gw (u:=u) (J:=J) (by omega) d;skip;refine sS H fun K7 k7=>sr 1 G<|sE ?_;clear H a;intro a H
 refine k7 _ ?_;refine wp_seq_k fun K8 k8=>?_
 refine condL H rfl (fun hc1=>?_) (fun hc1=>?_)
 ·skip
  refine wp_skip ?_;refine k8 _ _ ?_;refine wp_seq_k fun K9 k9=>?_
  refine wp_block ?_;refine sS H fun K10 k10=>sr 2 G<|sE ?_;clear H a;intro a H
  refine k10 _ ?_;have hJd:=hJ d;replace H:=H.keep [3,4,6,7,8,9,10,11,21,22] rfl;replace S:=S.drew;refine sD H fun K11 k11=>sr 1 G<|sd (cR Tryz.underlying239 aX G G (by omega) (by omega))<|slm aD rfl (aEk S (i:=3) (k:=d) (j:=0) rfl (by omega) (by omega))<|sd (gV G G (by omega) (by omega))<|sd (fO G G)<|sr 2 G<|sd (cR Tryz.underlying239 aX G G (by omega) (by omega))<|slm aD rfl (aEk S (i:=3) (k:=d) (j:=0) rfl (by omega) (by omega))<|sd (gV G G (by omega) (by omega))<|sd (fO G G)<|sr 3 G<|sE ?_;clear H a;intro a H
  refine k11 _ ?_;have SR:=(S.sel [0,1,2,3,4] G G);refine meet_sr (X:=Int) [3,4,6,7,8,9,11,13,21,22] H rfl (fun x=>[(10,.int .i64 x)]) (fun x=>[]) (fun x=>x=seenN (lifeS u J d) (J d) d) SR (fun K13 k13=>?_) ?_
  ·skip
   replace H:=H.keep [3,4,6,7,8,9,10,11,12,13,21,22] rfl;refine sS H fun K14 k14=>sr 1 G<|sE ?_;clear H a;intro a H
   refine k14 _ ?_;refine condE H rfl (fun hc2=>?_) (fun hc2=>?_)
   ·skip
    refine sO H<|sr 2 G<|sE ?_;clear H a;intro a H
    exact k13 _ a _ ((if_pos (show insp (J d)=true from decide_eq_true hc2)).symm) (S.sel [0,1,2,3,4] G G) (H.keep [10,3,4,6,7,8,9,11,13,21,22] rfl)
   refine wp_skip ?_;exact k13 _ a _ ((if_neg (show ¬ insp (J d)=true from fun h=>hc2 (of_decide_eq_true h))).symm) (S.sel [0,1,2,3,4] G G) (H.keep [10,3,4,6,7,8,9,11,13,21,22] rfl)
  clear SR H S a;intro xm a wm hp S H;obtain ⟨x,rfl⟩:∃ y,y=xm:=⟨_,rfl⟩;have hx9:=hp;have hxb:=Dn (s:=(lifeS u J d)) (j:=J d) (d:=d) hsn;rw [←hx9] at hxb;have SR:=(S.sel [1,2,3,4] rfl rfl);refine meet_sr (X:=Unit) [3,4,6,7,8,9,10,11,13,21,22] H rfl (fun u3=>[]) (fun u3=>[boxM b7 139 [.int .i64 (bsum (runB' u J) d),.int .i64 (bsum (certB u J) (d+1))]]) (fun u3=>True) SR (fun K17 k17=>?_) ?_
  ·skip
   refine sS H fun K18 k18=>sr 2 G<|sd (aR G G (by unfold i64ok;omega))<|sf tT rfl<|sl S 4 aD G G G<|sr 1 G<|sE ?_;clear H a;intro a H
   refine k18 _ ?_;refine condG H rfl (fun hc3=>?_) (fun hc3=>?_)
   ·skip
    replace H:=H.keep [3,4,6,7,8,9,10,11,13,21,22] rfl;refine mT 6 (by kernel_rfl) (by kernel_rfl) ?_;replace S:=S.drew;refine sF H<|sf Cd rfl<|sl S 0 aD G G G<|sr 1 G<|sd (dU G G (by omega) (by omega) (Gu (by omega)))<|sd (wQ G G (yN _ (by omega)) (by omega) (Iy (Nat.le_refl d)))<|sf Cd rfl<|sE ?_;clear H a;intro a H
    refine aE H S (i:=0) G G G G aX G G ?_
    clear H a S;intro _ a S H;replace S:=aEl S (i:=0) rfl (cs':=[.int .i64 (bsum (runB' u J) d),.int .i64 (bsum (certB u J) (d+1))]) (by rw [←Sd (f:=certB u J) (n:=d) ((Dp u J d x hx9).symm.trans (decide_eq_true hc3))] <;> rfl);exact k17 () a _ (trivial) (S.sel [0,1,2,3,4] G G) (H.keep [3,4,6,7,8,9,10,11,13,21,22] rfl)
   refine wp_skip ?_;replace S:=aEl S (i:=0) rfl (cs':=[.int .i64 (bsum (runB' u J) d),.int .i64 (bsum (certB u J) (d+1))]) (by rw [←Se (f:=certB u J) (n:=d) ((Dp u J d x hx9).symm.trans (decide_eq_false (by omega)))] <;> rfl);exact k17 () a _ (trivial) (S.sel [0,1,2,3,4] G G) (H.keep [3,4,6,7,8,9,10,11,13,21,22] rfl)
  clear SR H S a;intro xm a wm hp S H;obtain ⟨u3,rfl⟩:∃ y,y=xm:=⟨_,rfl⟩;skip;have SR:=(S.sel [2,3,4] rfl rfl);refine meet_sr (X:=Option Addr×Nat×(Nat→Prop)×World) [3,4,6,7,9,10,11,13,21,22] H rfl (fun ⟨A8,c8,B8,wy⟩=>[(8,.slice A8 (usesN u J d).length c8)]) (fun ⟨A8,c8,B8,wy⟩=>[boxM b7 139 [.int .i64 (bsum (runB' u J) (d+1)),.int .i64 (bsum (certB u J) (d+1))],frzM B8 wy]) (fun ⟨A8,c8,B8,wy⟩=>RdF w noF B8 wy 6 A8 (usesN u J d).length (ucell (usesN u J d))∧(usesN u J d).length≤c8) SR (fun K21 k21=>?_) ?_
  ·skip
   replace H:=H.keep [3,4,6,7,8,9,10,11,13,21,22] rfl;refine seq_list fun K22 k22=>?_
   refine ls 13 H<|sr 1 G<|sd (cR Tryz.underlying239 aX G G (by omega) (by omega))<|slm aD rfl (aEk S (i:=3) (k:=d) (j:=0) rfl (by omega) (by omega))<|sr 2 G<|sg 6 4 55 61 true G G (fun hg5=>sy hg5<|sr 1 G<|sy hg5<|sr 1 G<|sy hg5<|sd (aR G G (by unfold i64ok;omega))<|sy hg5<|sf tT rfl<|sy hg5<|sl S 4 aD G G G<|sy hg5<|sr 1 G<|sz 6 G G G)<|sa G G G<|sr 1 G<|sE ?_;clear H a;intro a H
   apply bR (i:=12) (g:=63) (t:=70) (b:=true) 7 H S G G (by kernel_rfl) (by kernel_rfl) G G
   case h1=>
    intro hg13;refine ls 5 H<|sy hg13<|sd ((aB rN jS rfl S (i:=4) G G))<|sy hg13<|sr 1 G<|sy hg13<|sr 1 G<|sy hg13<|sr 1 G<|sy hg13<|sd (aR G G (by unfold i64ok;omega))<|sE ?_;intro a H
    refine cF H G G (by assumption) ?_
    refine aA H G G Tryz.func157 G G (Ng u (lifeS u J d).uses A9 c9 ((d:Int)-(lifeS u J d).born) _ (hur.now S) hurn (huu.now S) huun (hrd.now S (i:=1) rfl) (by omega) hcap) ?_
    rintro _ _ a ⟨rfl,S2⟩ H;replace S:=S.call S2;clear S2;refine ls 1 H<|sy hg13<|sr 1 G<|sE ?_;intro a H
    exact wpList_nil ⟨H.strip 7 G G,(S.sel [0,1,2,3,4] G G)⟩
   clear H a S;intro a _ H S;refine ls 1 H<|sa G G G<|sE ?_;clear H a;intro a H
   refine k22 _ _ ?_;refine cond_ H rfl (fun hc4=>?_) (fun hc4=>?_)
   ·skip
    rw [Iz u J d x hx9] at hc4;replace H:=H.keep [3,4,6,7,8,9,10,11,13,21,22] rfl;refine mS 6 (by kernel_rfl) (by kernel_rfl) fun K23 k23=>?_
    replace S:=S.drew;refine sF H<|sf uV rfl<|sl S 0 aD G G G<|sr 1 G<|sd (dU G G (by omega) (by omega) (Gu (by omega)))<|sd (wQ G G (yN _ (by omega)) (by omega) (Iy (Nat.le_refl d)))<|sf uV rfl<|sE ?_;clear H a;intro a H
    refine aE H S (i:=0) G G G G aX G G ?_
    clear H a S;intro _ a S H;refine k23 _ _ ?_;replace H:=H.keep [3,4,6,7,8,9,10,11,13,21,22] rfl;replace S:=S.drew;refine one_wq [(0,true),(1,true),(2,true),(3,true),(4,true),(5,true),(6,true),(7,true),(8,true),(9,true),(10,true),(11,true),(12,true),(13,true),(14,false),(15,false),(16,true)] (by kernel_rfl) (by kernel_rfl) (S.sel [0,1,2,3,4] G G) ?_;refine qF H<|qr 2 G<|qd G (fun _ S=>cE dI rfl)<|qr 1 G<|qd G (fun _ S=>cE dI rfl)<|qd G (fun _ S=>tG dI cY G G G hcap)<|qr 2 G<|qd G (fun _ S=>aR G G (by unfold i64ok;omega))<|qd G (fun _ S=>(aC tV rfl))<|qd G (fun _ S=>aF aD rfl (aEh S (i:=4) G G))<|qd G (fun _ S=>(aC tW rfl))<|qd G (fun _ S=>aF aD rfl (aEh S (i:=4) G G))<|qd G (fun _ S=>aN Pm G G)<|qK ?_;clear H a;intro a H
    refine aT rfl ?_
    refine aY H rfl S dI cY lH G G G G G G G G G ?_;intro A1 _ a hA1 S H
    refine wpList_nil (And.intro (S.sel [1,2,3,4,5] G G) ?_);refine aT rfl ?_;refine rB H rfl S dI cY lH Pd G G G G (n:=(lifeS u J d).uses.length) (cell:=ucell (lifeS u J d).uses) (cell':=_) (hrd.now S (i:=2) rfl) (Tl (hrd.now S (i:=2) rfl)) (by omega) (by omega) (aEi S (i:=0) rfl) (jA (six G G G G G G)) (by omega) (by omega) ?_;intro A3 c3 _ a S H;replace S:=S.recell (i:=0) rfl (cell':=ucell ((lifeS u J d).uses++[useAt u d (lifeS u J d).born])) (xC (x:=useAt u d (lifeS u J d).born) (six G G G G G G));refine wpList_nil (And.intro (S.sel [2,3,4,5,6] G G) ?_);refine qF H<|qr 1 G<|qK ?_;clear H a;intro a H
    refine bL ?_
    replace S:=aEl S (i:=2) rfl (cs':=[.int .i64 (bsum (runB' u J) (d+1)),.int .i64 (bsum (certB u J) (d+1))]) (by rw [←Sd (f:=runB' u J) (n:=d) hc4] <;> rfl);replace S:=(S.sel [0,1,2,3,4,5,6] rfl rfl);have hle3:=aEt S (i:=0) rfl;obtain ⟨B2,S,hA2,_⟩:=St.freeze S (i:=2) rfl;rw [show (lifeS u J d).uses.length+1=(usesN u J d).length by unfold usesN;rw [if_pos hc4];simp] at H;exact k21 (A3,c3,B2,_) a _ (⟨by rw [Ja hc4,List.length_append];exact hA2,by rw [Ja hc4,List.length_append];exact hle3.1⟩) (S.sel [1,2,3,4,5] rfl rfl) (H.keep [8,3,4,6,7,9,10,11,13,21,22] rfl)
   rw [Iz u J d x hx9] at hc4;refine wp_skip ?_;replace S:=aEl S (i:=0) rfl (cs':=[.int .i64 (bsum (runB' u J) (d+1)),.int .i64 (bsum (certB u J) (d+1))]) (by rw [←Se (f:=runB' u J) (n:=d) hc4] <;> rfl);rw [←Bc hc4] at H;exact k21 (A9,c9,B9,wz) a _ (⟨by rw [Bc hc4];exact hrd,by rw [Bc hc4];exact hcap⟩) (S.sel [0,1,2,3,4] G G) (H.keep [8,3,4,6,7,9,10,11,13,21,22] rfl)
  clear SR H S a;intro xm a wm hp S H;obtain ⟨A8,c8,B8,wy⟩:=xm;rw [show Value.bool (decide (J d/2^(2:Int).toNat%2=1))=Value.bool (renw (J d)) from rfl] at H;replace H:=H.keep [3,4,6,7,8,9,10,11,13,21,22] rfl;refine sS H fun K25 k25=>sr 1 G<|sE ?_;clear H a;intro a H
  refine k25 _ ?_;refine cond_ H rfl (fun hc5=>?_) (fun hc5=>?_)
  ·skip
   skip
   refine sO H<|sr 3 G<|sE ?_;clear H a;intro a H
   refine k9 _ _ ?_;refine sO H<|sd (aI G G (by unfold i64ok;omega))<|sr 1 G<|sE ?_;clear H a;intro a H
   have hp8:=hp
   exact k6 (g1-1) (d+1,⟨[],(d:Int),x⟩,none,0,B8,wy) a _ (by omega) (⟨⟨by omega,by omega⟩,⟨RdF.nil,Nat.le_refl 0⟩,aBu hc5 hx9⟩) (S.sel [0,1,2,3,4] G G) (H.keep [8,9,10,22,3,4,6,7,21] rfl)
  skip
  refine wp_skip ?_;refine k9 _ _ ?_;refine sO H<|sd (aI G G (by unfold i64ok;omega))<|sr 1 G<|sE ?_;clear H a;intro a H
  have hp8:=hp
  exact k6 (g1-1) (d+1,⟨usesN u J d,(lifeS u J d).born,x⟩,A8,c8,B8,wy) a _ (by omega) (⟨⟨by omega,by omega⟩,hp8,aBv hc5 hx9⟩) (S.sel [0,1,2,3,4] G G) (H.keep [8,9,10,22,3,4,6,7,21] rfl)
 refine wp_exit ?_;refine k4 _ _ ?_;replace H:=H.keep [6,7] rfl;refine seq_list fun K29 k29=>?_
 refine ls 1 H<|sd ((aB mD hH rfl S (i:=0) G G))<|sE ?_;clear H a;intro a H
 refine aE H S (i:=2) G G G G hH G G ?_
 clear H a S;intro _ a S H;refine k29 _ _ ?_;refine wp_ret ?_;refine retA (fn:=Tryz.f125) rfl H rfl mD (by exact hH) (dN S (i:=2) rfl) ?_;obtain rfl:d=dy:=by omega
 exact ⟨rfl,(S.sel [] G G)⟩
end
section
theorem keyOK:KeyOk Tryz.prog 241 (encN (n:=21)):=
 Wy (Sb Tryz.underlying241 uS (.cons (by decide) rfl (PartK.int2 Tryz.underlying3 aD) (.cons (by decide) rfl (PartK.of (Sa Tryz.underlying239 Oe (PartK.int Tryz.underlying3 aD) aX)) (.nil 21))) (by kernel_rfl)) (by omega) (by rw [Tryz.underlying241])
theorem YIn.nowR {w w0:World} {F0:Nat→Prop} {R:List Mem} {y:Yr} (h:YIn w0 F0 y) (S:St w0 F0 R w):YIn w (fps R) y:=
 ⟨h.ps.nowR S,h.xs.nowR S,h.pe.nowR S,h.prs.nowR S,h.us.nowR S,h.sps.nowR S,fun k hk=>(h.rt k hk).nowR S,fun k hk=>(h.ul k hk).nowR S⟩
theorem YOk.days {y:Yr} (h:YOk y):1≤y.days∧y.days≤20:=h.yr.1
theorem YOk.unit {y:Yr} (h:YOk y) {i:Nat} (hi:i<y.us.length):UntOk y.ps y.us (y.us.getD i aFg) i:=lZ.1 (h.un i hi)
theorem YOk.old {y:Yr} (h:YOk y) {i:Nat} (hi:i<y.us.length):0≤(y.us.getD i aFg).old:=by
 have h1:=h.unit hi
 have h2:=xB h1.wear
 have h3:=h1.i
 unfold untI at h3
 omega
theorem Jl (y:Yr) (w:World) :
    Calls Tryz.prog 40 [.agg [.int .i64 y.days,.int .i64 y.pl,.slice y.PA y.ps.length y.pc,.slice y.XA y.xs.length y.xc,.slice y.BA y.pe.length y.bc,.int .i64 y.limit,.bool y.help,.slice y.QA y.prs.length y.qc,.slice y.VA y.us.length y.vc,.int .i64 y.crew,.slice y.SA y.sps.length y.sc].toArray].toArray w (Ret (fun v w'=>∃ cb bl bs bk,v = .pointer (some ⟨cb,0,none⟩)∧St w noF [boxM cb 204 [.int .i64 y.days,.int .i64 y.pl,.slice y.PA y.ps.length y.pc,.slice y.XA y.xs.length y.xc,.slice y.BA y.pe.length y.bc,.int .i64 y.limit,.bool y.help,.slice y.QA y.prs.length y.qc,.slice y.VA y.us.length y.vc,.int .i64 y.crew,.slice y.SA y.sps.length y.sc,.map (some bl),.map (some bs),.map (some bk)],mapK (encN (n:=21)) bl (livP y),mapK (fun n:Int=>Value.int .i64 n) bs (safP y),mapK enc2 bk (kepP y)] w')):=by
 refine enter Tryz.func40 rfl Tryz.ntmps40 rfl (fun a H=>?_)
 have S:=St.start w
 refine seq_list fun K1 k1=>?_
 refine aO H rfl S G G ?_;intro b1 _ a hb1 hbw1 S H
 refine ls 1 H<|sr 1 G<|sE ?_;intro a H
 refine k1 _ _ ?_;refine seq_list fun K2 k2=>?_
 refine ls 1 H<|sd ((aB gZ jR rfl S (i:=0) G G))<|sE ?_;intro a H
 refine jO (encN (n:=21)) (livP y) Mj H rfl S ?_;intro bl _ a hbl S H
 refine jO (fun n:Int=>Value.int .i64 n) (safP y) Mk H rfl S ?_;intro bs _ a hbs S H
 refine jO enc2 (kepP y) Ml H rfl S ?_;intro bk _ a hbk S H
 refine ls 1 H<|sd (aN aAk G G)<|sE ?_;intro a H
 refine aO H rfl S G G ?_;intro b8 _ a hb8 hbw8 S H
 refine ls 1 H<|sr 1 G<|sE ?_;intro a H
 refine k2 _ _ ?_;refine wp_ret ?_;refine ret1 (fn:=Tryz.f40) rfl H rfl ?_;exact ⟨b8,bl,bs,bk,rfl,(S.sel [0,3,2,1] G G)⟩
theorem Tm (y:Yr) (cb bl bs bk:Nat) (i:Nat) (l:List Tsk) (LA:Option Addr) (lc:Nat) (w:World) (F:Nat→Prop) (S:St w F [boxM cb 204 [.int .i64 y.days,.int .i64 y.pl,.slice y.PA y.ps.length y.pc,.slice y.XA y.xs.length y.xc,.slice y.BA y.pe.length y.bc,.int .i64 y.limit,.bool y.help,.slice y.QA y.prs.length y.qc,.slice y.VA y.us.length y.vc,.int .i64 y.crew,.slice y.SA y.sps.length y.sc,.map (some bl),.map (some bs),.map (some bk)],mapK (encN (n:=21)) bl (livP y),mapK (fun n:Int=>Value.int .i64 n) bs (safP y),mapK enc2 bk (kepP y)] w) (hy:YIn w F y) (hyb:YBd y) (hok:YOk y) (hi:i<y.us.length) (hl:InS w F 3 LA l.length (cD l)) (hln:l.length≤9223372036854775807) (htk:∀ k,k<l.length→tskI y (l.getD k aFh)) :
    Calls Tryz.prog 84 [.pointer (some ⟨cb,0,none⟩),.int .i64 (i:Int),.slice LA l.length lc].toArray w (Ret (fun v w'=>v=lifeV (y.us.getD i aFg) (jobF l i) y.days.toNat∧St w F [boxM cb 204 [.int .i64 y.days,.int .i64 y.pl,.slice y.PA y.ps.length y.pc,.slice y.XA y.xs.length y.xc,.slice y.BA y.pe.length y.bc,.int .i64 y.limit,.bool y.help,.slice y.QA y.prs.length y.qc,.slice y.VA y.us.length y.vc,.int .i64 y.crew,.slice y.SA y.sps.length y.sc,.map (some bl),.map (some bs),.map (some bk)],mapK (encN (n:=21)) bl (livP y),mapK (fun n:Int=>Value.int .i64 n) bs (safP y),mapK enc2 bk (kepP y)] w')):=by
 have hmx:maxLen=9223372036854775807:=rfl
 have hdy:=hok.days;have husn:=hyb.usn
 have hD:((y.days.toNat:Nat):Int)=y.days:=by omega
 refine enter Tryz.func84 rfl Tryz.ntmps84 rfl (fun a H=>?_)
 skip
 refine seq_list fun K1 k1=>?_
 refine aJ H rfl S rR ?_;clear H a S;intro b6 _ a hb6 hbw6 S H
 refine k1 _ _ ?_;refine seq_list fun K2 k2=>?_
 refine ls 2 H<|sr 1 G<|sd (aN aAo G G)<|sE ?_;clear H a;intro a H
 refine aJ H rfl S Pc ?_;clear H a S;intro b7 _ a hb7 hbw7 S H
 refine aE H S (i:=0) G G G G uS G G ?_
 clear H a S;intro _ a S H;refine k2 _ _ ?_;refine wp_seq_k fun K3 k3=>?_
 replace S:=aEl S (i:=0) rfl (cs':=[.int .i64 (i:Int),.int .i64 0,.int .i64 0,.int .i64 0,.int .i64 0,.int .i64 0,.int .i64 0,.int .i64 0,.int .i64 0,.int .i64 0,.int .i64 0,.int .i64 0,.int .i64 0,.int .i64 0,.int .i64 0,.int .i64 0,.int .i64 0,.int .i64 0,.int .i64 0,.int .i64 0,.int .i64 0]) rfl;replace S:=Dr S (i:=0) rfl (by show 21≤maxLen;decide);replace S:=S.recell (i:=0) rfl (cell':=kcl i (jobP l 0 i)) (fun k j hk hj=>Si hk hj);refine sS H fun K4 k4=>sr 1 G<|sL dP rfl<|sr 1 G<|sE ?_;clear H a;intro a H
 refine k4 _ ?_;refine wp_block ?_;refine loop_st (X:=Nat) (R0:=_) [0,1,6,7,14,15] H rfl (fun k=>[(16,.int .i64 (k:Int))]) (fun k=>[ownM 241 1 (some ⟨b7,0,none⟩) 21 21 (kcl i (jobP l k i))]) (fun g k=>k≤l.length∧g+k=l.length) (l.length) 0 ?_ (S.sel [0,1,2,3,4,5] G G) (H.keep [16,0,1,6,7,14,15] rfl) ?_
 · exact ⟨by omega,by omega⟩
 clear H S a;intro g1 x1 a w1 hp S H K5 k5;obtain ⟨k,rfl⟩:∃ y,y=x1:=⟨_,rfl⟩;refine sS H fun K6 k6=>sr 1 G<|sE ?_;clear H a;intro a H
 refine k6 _ ?_;refine wp_seq_k fun K7 k7=>?_
 refine condL H rfl (fun hc1=>?_) (fun hc1=>?_)
 ·skip
  refine wp_skip ?_;refine k7 _ _ ?_;refine wp_seq_k fun K8 k8=>?_
  refine wp_block ?_;refine seq_list fun K9 k9=>?_
  refine ls 2 H<|si dP dG G G (hl.adr (by omega)) (by omega)<|sd ((aU oV dG rfl S hl (by omega) (by omega)))<|sE ?_;clear H a;intro a H
  refine aJ H rfl S sX ?_;clear H a S;intro b9 _ a hb9 hbw9 S H
  refine aE H S (i:=0) G G G G dG G G ?_
  clear H a S;intro _ a S H;refine k9 _ _ ?_;have htt:=htk k (by omega);unfold tskI at htt;refine sS H fun K10 k10=>sf eA rfl<|sl S 0 aD G G G<|sr 2 G<|sE ?_;clear H a;intro a H
  refine k10 _ ?_;refine condE H rfl (fun hc2=>?_) (fun hc2=>?_)
  ·skip
   replace H:=H.keep [0,1,6,7,9,14,15,16] rfl;refine mT 11 (by kernel_rfl) (by kernel_rfl) ?_;replace S:=S.drew;refine sF H<|sf dK rfl<|sl S 0 aD G G G<|sf vF rfl<|sd ((cR Tryz.underlying239 aX G G (by omega) (by omega)).to (v' := .pointer (some (pt (some ⟨b7,0,none⟩) 1 ((l.getD k aFh).day.toNat+1) 0))) (congrArg (fun o=>Value.pointer (some ⟨b7,o,none⟩)) (show 0+1+(l.getD k aFh).day.toNat*1=0+((l.getD k aFh).day.toNat+1)*1+0 by omega)))<|slm aD rfl (aEk S (i:=1) (k:=(l.getD k aFh).day.toNat+1) (j:=0) rfl (by omega) (by omega))<|sf gE rfl<|sl S 0 aD G G G<|sd (dU G G (by omega) (by omega) (Xh htt.2.2))<|sd (Sf G G (Mg _ _ _) (by omega))<|sf vF rfl<|sd ((cR Tryz.underlying239 aX G G (by omega) (by omega)).to (v' := .pointer (some (pt (some ⟨b7,0,none⟩) 1 ((l.getD k aFh).day.toNat+1) 0))) (congrArg (fun o=>Value.pointer (some ⟨b7,o,none⟩)) (show 0+1+(l.getD k aFh).day.toNat*1=0+((l.getD k aFh).day.toNat+1)*1+0 by omega)))<|sE ?_;clear H a;intro a H
   refine bC H S (i:=1) G G G (by omega) (by omega) aX rfl ?_
   clear H a S;intro _ a S H;refine k8 _ _ ?_;replace H:=H.keep [0,1,6,7,14,15,16] rfl;refine sO H<|sd (aI G G (by unfold i64ok;omega))<|sr 1 G<|sE ?_;clear H a;intro a H
   replace S:=S.recell (i:=1) rfl (cell':=kcl i (jobP l (k+1) i)) (fun k9 j9 hk9 hj9=>Xj (d:=(l.getD k aFh).day.toNat) (by omega) htt.2.2 (by omega) (by omega) k9 j9 hj9);exact k5 (g1-1) (k+1) a _ (by omega) (⟨by omega,by omega⟩) (S.sel [1,2,3,4,5,6] G G) (H.keep [16,0,1,6,7,14,15] rfl)
  refine wp_skip ?_;refine k8 _ _ ?_;refine sO H<|sd (aI G G (by unfold i64ok;omega))<|sr 1 G<|sE ?_;clear H a;intro a H
  rw [←Xi (l:=l) (n:=k) (i:=i) (by omega) htt.2.2 (by omega)] at S;exact k5 (g1-1) (k+1) a _ (by omega) (⟨by omega,by omega⟩) (S.sel [1,2,3,4,5,6] G G) (H.keep [16,0,1,6,7,14,15] rfl)
 refine wp_exit ?_;refine k3 _ _ ?_;obtain rfl:k=l.length:=by omega
 rw [Sh] at S;replace S:=Xg S (i:=0) rfl;obtain ⟨h0,hh0,S⟩:=aEr S (i:=3) rfl;rcases hk0:h0 (keyOf i (jobF l i)) with _|v0
 ·skip
  skip
  replace H:=H.keep [0,1,6,7] rfl;replace S:=S.drew;refine seq_wq [(0,true),(1,true),(2,true),(3,true),(4,true),(5,true),(6,true),(7,true),(8,true),(9,false),(10,false),(11,true)] (by kernel_rfl) (by kernel_rfl) (S.sel [0,1,2,3,4,5] G G) fun K14 k14=>?_
  refine qF H<|qr 2 G<|qd G (fun _ S=>(aC uY rfl))<|qd G (fun _ S=>aF zG rfl (aEh S (i:=2) G G))<|qd G (fun _ S=>(aB zM uS rfl S (i:=0) G G))<|qd G (fun _ S=>eV S (i:=3) rfl Fq keyOK Pq rfl (k:=keyOf i (jobF l i)) rfl (fun h e=>by subst e;rw [hk0];exact ⟨rfl,rfl⟩))<|qr 3 G<|qK ?_;clear H a;intro a H
  refine aT rfl ?_
  refine aJ H rfl S rR ?_;clear H a S;intro b10 _ a hb10 hbw10 S H
  refine wpList_nil (And.intro (S.sel [1,2,3,4,5,6] G G) ?_);refine aT rfl ?_;refine aE H S (i:=0) G G G G hH G G ?_;clear H a S;intro _ a S H;refine wpList_nil (And.intro (S.sel [1,2,3,4,5,6] G G) ?_);refine qF H<|qr 1 G<|qK ?_;clear H a;intro a H
  refine bL ?_
  refine k14 _ _ ?_;refine wp_seq_k fun K15 k15=>?_
  replace H:=H.keep [0,1,6,7,10,11] rfl;refine sS H fun K16 k16=>sr 2 G<|sE ?_;clear H a;intro a H
  refine k16 _ ?_;refine cond_ H rfl (fun hc3=>?_) (fun hc3=>?_)
  ·skip
   skip
   replace H:=H.keep [0,1,6,7,10] rfl;replace S:=S.drew;refine seq_wq [(0,true),(1,true),(2,true),(3,true),(4,true),(5,true),(6,true),(7,true),(8,true),(9,true),(10,true),(11,true),(12,true),(13,true),(14,true),(15,false),(16,false)] (by kernel_rfl) (by kernel_rfl) (S.sel [1,2,3,4,5,6] G G) fun K17 k17=>?_
   refine qF H<|qr 2 G<|qd G (fun _ S=>(aC dJ rfl))<|qd G (fun _ S=>(aC dD rfl))<|qd G (fun _ S=>aF eR rfl (aEh S (i:=2) G G))<|qr 1 G<|qd G (fun _ S=>bG fJ jS G G (hy.us.adr (by omega)) (by omega))<|qd G (fun _ S=>(aU rN jS rfl S hy.us (by omega) (by omega)))<|qd G (fun _ S=>(aC vF rfl))<|qd G (fun _ S=>(aB Uo Oe rfl S (i:=0) G G))<|qr 2 G<|qd G (fun _ S=>(aC dJ rfl))<|qd G (fun _ S=>(aC dZ rfl))<|qd G (fun _ S=>aF aD rfl (aEh S (i:=2) G G))<|qK ?_;clear H a;intro a H
   refine aT rfl ?_
   rw [←hD] at H;refine aA H rfl rfl Tryz.func125 rfl rfl (Yh (y.us.getD i aFg) (jobF l i) y.days.toNat _ ((hy.rt i hi).now S) (hyb.rtn hi) ((hy.ul i hi).now S) (hyb.uln hi) (hyb.cap i hi) (hok.unit hi).i (hok.old hi) (fun d=>Xf _ _ _) (by omega)) ?_;clear H a;rintro _ _ a ⟨rfl,S2⟩ H;replace S:=S.call S2;clear S2;refine wpList_nil (And.intro (S.sel [1,2,3,4,5,6] rfl rfl) ?_);refine aT rfl ?_;refine aE H S (i:=0) rfl rfl rfl rfl hH rfl rfl ?_;clear H a S;intro _ a S H;refine wpList_nil (And.intro (S.sel [1,2,3,4,5,6] rfl rfl) ?_);refine bL ?_;refine k17 _ _ ?_;replace H:=H.keep [0,6,7,10] rfl;refine mT 6 (by kernel_rfl) (by kernel_rfl) ?_;replace S:=S.drew;refine sF H<|sr 2 G<|sf uY rfl<|sl S 3 zG rfl rfl rfl<|sd ((aB zM uS rfl S (i:=1) rfl rfl))<|sd ((aB mD hH rfl S (i:=0) rfl rfl))<|sE ?_;clear H a;intro a H
   refine fF (k:=keyOf i (jobF l i)) (livP y) H S (i:=4) rfl Fq keyOK G G G (fun h e=>by subst e;exact Sj (by omega) rfl h hh0) ?_;clear H a S;intro _ a S H
   refine k15 _ _ ?_;refine seq_list fun K19 k19=>?_
   refine ls 1 H<|sd ((aB mD hH rfl S (i:=0) G G))<|sE ?_;clear H a;intro a H
   refine aE H S (i:=2) G G G G hH G G ?_
   clear H a S;intro _ a S H;refine k19 _ _ ?_;refine wp_ret ?_;refine retA (fn:=Tryz.f84) rfl H rfl mD (by exact hH) (dN S (i:=2) rfl) ?_;exact ⟨rfl,(S.sel [3,4,5,6] G G)⟩
  skip
  cases hc3
 obtain rfl:=hh0 _ _ _ hi hk0
 replace H:=H.keep [0,1,6,7] rfl;replace S:=S.drew;refine seq_wq [(0,true),(1,true),(2,true),(3,true),(4,true),(5,true),(6,true),(7,true),(8,true),(9,false),(10,false),(11,true)] (by kernel_rfl) (by kernel_rfl) (S.sel [0,1,2,3,4,5] G G) fun K20 k20=>?_
 refine qF H<|qr 2 G<|qd G (fun _ S=>(aC uY rfl))<|qd G (fun _ S=>aF zG rfl (aEh S (i:=2) G G))<|qd G (fun _ S=>(aB zM uS rfl S (i:=0) G G))<|qd G (fun _ S=>eV S (i:=3) rfl Fq keyOK Pq rfl (k:=keyOf i (jobF l i)) rfl (fun h e=>by subst e;rw [hk0];exact ⟨rfl,rfl⟩))<|qr 3 G<|qK ?_;clear H a;intro a H
 refine aT rfl ?_
 refine aJ H rfl S rR ?_;clear H a S;intro b10 _ a hb10 hbw10 S H
 refine wpList_nil (And.intro (S.sel [1,2,3,4,5,6] G G) ?_);refine aT rfl ?_;refine aE H S (i:=0) G G G G hH G G ?_;clear H a S;intro _ a S H;refine wpList_nil (And.intro (S.sel [1,2,3,4,5,6] G G) ?_);refine qF H<|qr 1 G<|qK ?_;clear H a;intro a H
 refine bL ?_
 refine k20 _ _ ?_;refine wp_seq_k fun K21 k21=>?_
 replace H:=H.keep [0,1,6,7,10,11] rfl;refine sS H fun K22 k22=>sr 2 G<|sE ?_;clear H a;intro a H
 refine k22 _ ?_;refine cond_ H rfl (fun hc4=>?_) (fun hc4=>?_)
 ·skip
  skip
  cases hc4
 skip
 refine wp_skip ?_;refine k21 _ _ ?_;refine seq_list fun K23 k23=>?_
 refine ls 1 H<|sd ((aB mD hH rfl S (i:=0) G G))<|sE ?_;clear H a;intro a H
 refine aE H S (i:=2) G G G G hH G G ?_
 clear H a S;intro _ a S H;refine k23 _ _ ?_;refine wp_ret ?_;refine retA (fn:=Tryz.f84) rfl H rfl mD (by exact hH) (dN S (i:=2) rfl) ?_;replace S:=aEs S (i:=4) rfl (Φ':=livP y) (fun g e=>by subst e;exact hh0);exact ⟨rfl,(S.sel [3,4,5,6] G G)⟩
end
section
theorem Tn {y:Yr} {out:Int} {w w':World} {u:Value} (hl:dO y.pl y.ps y.xs out y.pe y.limit=0) (h:(dO y.pl y.ps y.xs out y.pe y.limit≠0∧u = .tuple #[.int .i64 0,.int .i64 (dO y.pl y.ps y.xs out y.pe y.limit)]∧St w noF [] w')∨(dO y.pl y.ps y.xs out y.pe y.limit=0∧u = .tuple #[.int .i64 (mfv y.pl.toNat y.limit.toNat y.pe y.xs (hds out y.xs y.ps)),.int .i64 0]∧St w noF [] w')):∃ n:Int,u = .tuple #[.int .i64 n,.int .i64 0]∧leavB y out=decide (n=sumI y.pe y.pe.length)∧St w noF [] w':=by
 rcases h with ⟨h0,_⟩|⟨_,rfl,S⟩
 ·exact absurd hl h0
 ·exact ⟨_,rfl,rfl,S⟩
theorem Jo {y:Yr} {out fr to:Int} {help:Bool} {w w':World} {u:Value} (ha:askE y.pl y.ps y.xs out [fr,to]=0) (h:(askE y.pl y.ps y.xs out [fr,to]≠0∧u = .tuple #[.int .i64 0,.slice none 0 0,.int .i64 (askE y.pl y.ps y.xs out [fr,to])]∧St w noF [] w')∨(askE y.pl y.ps y.xs out [fr,to]=0∧FarOk y.pl.toNat y.ps out help to.toNat (dst y.pl.toNat y.ps out help to.toNat)∧((dst y.pl.toNat y.ps out help to.toNat fr.toNat<0∧u = .tuple #[.int .i64 0,.slice none 0 0,.int .i64 3]∧St w noF [] w')∨(0≤dst y.pl.toNat y.ps out help to.toNat fr.toNat∧∃ A c,u = .tuple #[.int .i64 (dst y.pl.toNat y.ps out help to.toNat fr.toNat),.slice A (wayL y.pl.toNat y.ps out help fr.toNat to.toNat).length c,.int .i64 0]∧St w noF [ownM 3 1 A (wayL y.pl.toNat y.ps out help fr.toNat to.toNat).length c (wcl (wayL y.pl.toNat y.ps out help fr.toNat to.toNat))] w')))):∃ (t e:Int) (A:Option Addr) (n c:Nat),u = .tuple #[.int .i64 t,.slice A n c,.int .i64 e]∧(decide (e=0)=decide (0≤dst y.pl.toNat y.ps out help to.toNat fr.toNat))∧St w noF [] w':=by
 rcases h with ⟨h0,_⟩|⟨_,_,⟨h1,rfl,S⟩|⟨h1,A,c,rfl,S⟩⟩
 ·exact absurd ha h0
 ·exact ⟨0,3,none,0,0,rfl,by rw [decide_eq_false (show ¬ 0≤dst y.pl.toNat y.ps out help to.toNat fr.toNat by omega)];rfl,S⟩
 ·exact ⟨_,0,A,_,c,rfl,by rw [decide_eq_true h1];rfl,S.sel [] rfl rfl⟩
theorem lt40 {m:Int} (h:m≤4095):m<2^40:=by
 have e9:(2:Int)^40=1099511627776:=by decide
 omega
theorem To {y:Yr} {l:List Tsk} {k q:Nat}:setsQ y l k q q 0 = .int .i64 (outY y l q k):=by unfold setsQ;rw [if_neg (Nat.lt_irrefl q)]
theorem sets0 {y:Yr} {l:List Tsk} {k j:Nat} (hj:j<1):([Value.int .i64 0]:List Value).getD j undef=setsV y l 0 k j:=by
 have:j=0:=by omega
 subst this;rfl
theorem Yi {m:Int} (h:0≤m∧m≤11):i64ok (1*2^m.toNat):=by
 have:=Gu (d:=m.toNat) (by omega)
 rw [Int.toNat_natCast] at this;exact this
section
variable {y:Yr} {d out:Int} {k:Nat} {b:Bool} {e:Int}
theorem Nh (hb:b=allN (prmB y d out) k) (h:d<(y.prs.getD k aFj).first∨(y.prs.getD k aFj).last<d):b=allN (prmB y d out) (k+1):=by
 have:prmB y d out k=true:=by
  unfold prmB
  rcases h with h|h
  ·rw [decide_eq_false (p:=(y.prs.getD k aFj).first≤d) (by omega)];rfl
  ·rw [decide_eq_false (p:=d≤(y.prs.getD k aFj).last) (by omega),Bool.and_false];rfl
 rw [allN,this,Bool.and_true,hb]
theorem Ej (hb:b=allN (prmB y d out) k) (h:(y.prs.getD k aFj).first≤d∧d≤(y.prs.getD k aFj).last) (hw:decide (e=0)=decide (0≤dst y.pl.toNat y.ps out (y.help&&(y.prs.getD k aFj).helped) (y.prs.getD k aFj).to.toNat (y.prs.getD k aFj).fr.toNat)) (he:¬ e=0):false=allN (prmB y d out) (k+1):=by
 have:prmB y d out k=false:=by
  unfold prmB
  rw [←hw,decide_eq_true h.1,decide_eq_true h.2,decide_eq_false he];rfl
 rw [allN,this,Bool.and_false]
theorem yU (hb:b=allN (prmB y d out) k) (h:(y.prs.getD k aFj).first≤d∧d≤(y.prs.getD k aFj).last) (hw:decide (e=0)=decide (0≤dst y.pl.toNat y.ps out (y.help&&(y.prs.getD k aFj).helped) (y.prs.getD k aFj).to.toNat (y.prs.getD k aFj).fr.toNat)) (he:e=0):b=allN (prmB y d out) (k+1):=by
 have:prmB y d out k=true:=by
  unfold prmB
  rw [←hw,decide_eq_true he,Bool.or_true]
 rw [allN,this,Bool.and_true,hb]
end
theorem Tp {y:Yr} (h:YOk y) {out:Int} (ho:0≤out∧out≤4095) {k:Nat} (hk:k<y.prs.length):askE y.pl y.ps y.xs out [(y.prs.getD k aFj).fr,(y.prs.getD k aFj).to]=0:=by
 have h1:=lV h.kept
 have h2:=kI.1 (h1.2.2 k hk)
 have h3:=(oE h1.1).1
 unfold askE
 rw [if_neg (by omega),if_pos];rw [decide_eq_true ho,vZ.2 ⟨by omega,by omega⟩];rfl
theorem Yj (y:Yr) (cb bl bs bk:Nat) (l:List Tsk) (LA:Option Addr) (lc:Nat) (w:World) (F:Nat→Prop) (S:St w F [boxM cb 204 [.int .i64 y.days,.int .i64 y.pl,.slice y.PA y.ps.length y.pc,.slice y.XA y.xs.length y.xc,.slice y.BA y.pe.length y.bc,.int .i64 y.limit,.bool y.help,.slice y.QA y.prs.length y.qc,.slice y.VA y.us.length y.vc,.int .i64 y.crew,.slice y.SA y.sps.length y.sc,.map (some bl),.map (some bs),.map (some bk)],mapK (encN (n:=21)) bl (livP y),mapK (fun n:Int=>Value.int .i64 n) bs (safP y),mapK enc2 bk (kepP y)] w) (hy:YIn w F y) (hyb:YBd y) (hok:YOk y) (hl:InS w F 3 LA l.length (cD l)) (hln:l.length≤9223372036854775807) (htk:∀ k,k<l.length→tskI y (l.getD k aFh)) :
    Calls Tryz.prog 41 [.pointer (some ⟨cb,0,none⟩),.slice LA l.length lc].toArray w (Ret (fun v w'=>∃ A c,v = .slice A y.days.toNat c∧St w F (ownM 3 1 A y.days.toNat c (setsV y l y.us.length)::[boxM cb 204 [.int .i64 y.days,.int .i64 y.pl,.slice y.PA y.ps.length y.pc,.slice y.XA y.xs.length y.xc,.slice y.BA y.pe.length y.bc,.int .i64 y.limit,.bool y.help,.slice y.QA y.prs.length y.qc,.slice y.VA y.us.length y.vc,.int .i64 y.crew,.slice y.SA y.sps.length y.sc,.map (some bl),.map (some bs),.map (some bk)],mapK (encN (n:=21)) bl (livP y),mapK (fun n:Int=>Value.int .i64 n) bs (safP y),mapK enc2 bk (kepP y)]) w')):=by
 have hmx:maxLen=9223372036854775807:=rfl
 have hdy:=hok.days;have husn:=hyb.usn
 have hD:((y.days.toNat:Nat):Int)=y.days:=by omega
 refine enter Tryz.func41 rfl Tryz.ntmps41 rfl (fun a H=>?_)
 skip
 refine sS H fun K1 k1=>sr 1 G<|sE ?_;clear H a;intro a H
 refine k1 _ ?_;refine seq_list fun K2 k2=>?_
 refine ls 5 H<|sr 2 G<|sf dJ rfl<|sf dZ rfl<|sl S 0 aD G G G<|sE ?_;clear H a;intro a H
 rw [←hD] at H;refine fP (n:=y.days.toNat) H rfl S aP aX fD mQ rfl (by decide) G G (by omega) (by omega) ?_;intro A1 _ a hA1 S H;refine ls 1 H<|sr 1 G<|sE ?_;clear H a;intro a H
 refine k2 _ _ ?_;refine wp_seq_k fun K3 k3=>?_
 replace H:=H.keep [0,1,5] rfl;refine sS H fun K4 k4=>sr 2 G<|sf dJ rfl<|sf dD rfl<|sl S 1 eR G G G<|sL fJ rfl<|sr 1 G<|sE ?_;clear H a;intro a H
 refine k4 _ ?_;refine wp_block ?_;replace S:=S.recell (i:=0) rfl (cell':=setsV y l 0) (fun k9 j9 hk9 hj9=>sets0 hj9);refine loop_st (X:=Nat) (R0:=_) [0,1,5,20,21] H rfl (fun k=>[(22,.int .i64 (k:Int))]) (fun k=>[ownM 3 1 A1 y.days.toNat y.days.toNat (setsV y l k)]) (fun g k=>k≤y.us.length∧g+k=y.us.length) (y.us.length) 0 ?_ (S.sel [0,1,2,3,4] G G) (H.keep [22,0,1,5,20,21] rfl) ?_
 · exact ⟨by omega,by omega⟩
 clear H S a;intro g1 x1 a w1 hp S H K5 k5;obtain ⟨k,rfl⟩:∃ y,y=x1:=⟨_,rfl⟩;refine sS H fun K6 k6=>sr 1 G<|sE ?_;clear H a;intro a H
 refine k6 _ ?_;refine wp_seq_k fun K7 k7=>?_
 refine condL H rfl (fun hc1=>?_) (fun hc1=>?_)
 ·skip
  refine wp_skip ?_;refine k7 _ _ ?_;refine wp_seq_k fun K8 k8=>?_
  refine wp_block ?_;refine seq_list fun K9 k9=>?_
  refine ls 3 H<|sr 1 G<|si fJ jS G G (hy.us.adr (by omega)) (by omega)<|sd ((aU rN jS rfl S hy.us (by omega) (by omega)))<|sE ?_;clear H a;intro a H
  refine aJ H rfl S xU ?_;intro b7 _ a hb7 hbw7 S H
  refine ls 1 H<|sr 1 G<|sE ?_;clear H a;intro a H
  refine aE H S (i:=0) G G G G jS G G ?_
  clear H a S;intro _ a S H;refine k9 _ _ ?_;replace H:=H.keep [0,1,5,6,7,20,21,22] rfl;refine seq_list fun K10 k10=>?_
  refine ls 3 H<|sr 3 G<|sE ?_;clear H a;intro a H
  refine aA H G G Tryz.func84 G G (Tm y cb bl bs bk k l LA lc _ _ ((S.sel [2,3,4,5] G G).startR) (hy.nowR (S.sel [2,3,4,5] G G)) hyb hok (by omega) (hl.nowR (S.sel [2,3,4,5] G G)) hln htk) ?_;clear H a
  rintro _ _ a ⟨rfl,S2⟩ H;replace S:=St.callR (M:=[_,_,_,_]) (S.sel [2,3,4,5,0,1] rfl rfl) S2;clear S2;refine aJ H rfl S rR ?_;intro b8 _ a hb8 hbw8 S H;refine aE H S (i:=0) rfl rfl rfl rfl hH rfl rfl ?_;clear H a S;intro _ a S H;refine k10 _ _ ?_;refine sS H fun K11 k11=>sr 1 G<|sL aP rfl<|sr 1 G<|sE ?_;clear H a;intro a H
  refine k11 _ ?_;refine wp_block ?_;rw [←Gz] at S;refine loop_st (X:=Nat) (R0:=_) [0,1,5,7,8,20,21,22,32] H rfl (fun q=>[(33,.int .i64 (q:Int))]) (fun q=>[ownM 3 1 A1 y.days.toNat y.days.toNat (setsQ y l k q)]) (fun g q=>q≤y.days.toNat∧g+q=y.days.toNat) (y.days.toNat) 0 ?_ (S.sel [6,0,1,2,3,4,5] G G) (H.keep [33,0,1,5,7,8,20,21,22,32] rfl) ?_
  · exact ⟨by omega,by omega⟩
  clear H S a;intro g2 x2 a w2 hp S H K12 k12;obtain ⟨q,rfl⟩:∃ y,y=x2:=⟨_,rfl⟩;refine sS H fun K13 k13=>sr 1 G<|sE ?_;clear H a;intro a H
  refine k13 _ ?_;refine wp_seq_k fun K14 k14=>?_
  refine condL H rfl (fun hc2=>?_) (fun hc2=>?_)
  ·skip
   refine wp_skip ?_;refine k14 _ _ ?_;refine wp_seq_k fun K15 k15=>?_
   refine wp_block ?_;refine sS H fun K16 k16=>sr 2 G<|sE ?_;clear H a;intro a H
   refine k16 _ ?_;have hmk:=oK hok.V (hok.unit (show k<y.us.length by omega));refine sS H fun K17 k17=>sf uV rfl<|sl S 1 aD G G G<|sr 1 G<|sd (gV G G (by omega) (by omega))<|sd (fO G G)<|sr 1 G<|sE ?_;clear H a;intro a H
   refine k17 _ ?_;refine condE H rfl (fun hc3=>?_) (fun hc3=>?_)
   ·skip
    have hrn:=aDv (y:=y) (l:=l) (k:=k) (show q<y.days.toNat by omega) hc3
    have hob:=uC (l:=l) (d:=q) hok (show k≤y.us.length by omega)
    replace H:=H.keep [0,1,5,7,8,9,20,21,22,32,33] rfl;refine mT 9 (by kernel_rfl) (by kernel_rfl) ?_;replace S:=S.drew;refine sF H<|sr 2 G<|si aP aX G G (aEj S (i:=0) rfl (by omega)) (by omega)<|sd ((aF aD rfl (aEk S (i:=0) (k:=q) (j:=0) rfl (by omega) (by omega))).to To)<|sf nY rfl<|sl S 6 aD G G G<|sd (dU G G (by omega) (by omega) (Yi hmk.1))<|sd (wQ G G ⟨hob.1,lt40 hob.2⟩ (by omega) (Gy hok (by omega)))<|si aP aX G G (aEj S (i:=0) rfl (by omega)) (by omega)<|sE ?_;clear H a;intro a H
    refine bC H S (i:=0) G G G (by omega) (by omega) aX rfl ?_
    clear H a S;intro _ a S H;refine k15 _ _ ?_;replace H:=H.keep [0,1,5,7,8,20,21,22,32,33] rfl;refine sO H<|sd (aI G G (by unfold i64ok;omega))<|sr 1 G<|sE ?_;clear H a;intro a H
    replace S:=S.recell (i:=0) rfl (cell':=setsQ y l k (q+1)) (fun k9 j9 hk9 hj9=>Mo hrn rfl k9 j9 hj9);exact k12 (g2-1) (q+1) a _ (by omega) (⟨by omega,by omega⟩) (S.sel [0,1,2,3,4,5,6] G G) (H.keep [33,0,1,5,7,8,20,21,22,32] rfl)
   refine wp_skip ?_;refine k15 _ _ ?_;refine sO H<|sd (aI G G (by unfold i64ok;omega))<|sr 1 G<|sE ?_;clear H a;intro a H
   rw [Mn (aDw (show q<y.days.toNat by omega) hc3)] at S;exact k12 (g2-1) (q+1) a _ (by omega) (⟨by omega,by omega⟩) (S.sel [0,1,2,3,4,5,6] G G) (H.keep [33,0,1,5,7,8,20,21,22,32] rfl)
  refine wp_exit ?_;refine k8 _ _ ?_;refine sO H<|sd (aI G G (by unfold i64ok;omega))<|sr 1 G<|sE ?_;clear H a;intro a H
  obtain rfl:q=y.days.toNat:=by omega
  replace S:=S.recell (i:=0) rfl (cell':=setsV y l (k+1)) Mm;exact k5 (g1-1) (k+1) a _ (by omega) (⟨by omega,by omega⟩) (S.sel [0,2,3,4,5] G G) (H.keep [22,0,1,5,20,21] rfl)
 refine wp_exit ?_;refine k3 _ _ ?_;refine sS H fun K22 k22=>sr 2 G<|sE ?_;clear H a;intro a H
 refine k22 _ ?_;refine wp_ret ?_;refine ret1 (fn:=Tryz.f41) rfl H rfl ?_;obtain rfl:k=y.us.length:=by omega
 exact ⟨_,_,rfl,(S.sel [0,1,2,3,4] G G)⟩
theorem Hb (y:Yr) (cb bl bs bk:Nat) (out:Int) (w:World) (F:Nat→Prop) (S:St w F [boxM cb 204 [.int .i64 y.days,.int .i64 y.pl,.slice y.PA y.ps.length y.pc,.slice y.XA y.xs.length y.xc,.slice y.BA y.pe.length y.bc,.int .i64 y.limit,.bool y.help,.slice y.QA y.prs.length y.qc,.slice y.VA y.us.length y.vc,.int .i64 y.crew,.slice y.SA y.sps.length y.sc,.map (some bl),.map (some bs),.map (some bk)],mapK (encN (n:=21)) bl (livP y),mapK (fun n:Int=>Value.int .i64 n) bs (safP y),mapK enc2 bk (kepP y)] w) (hy:YIn w F y) (hyb:YBd y) (hok:YOk y) (ho:0≤out∧out≤4095) :
    Calls Tryz.prog 115 [.pointer (some ⟨cb,0,none⟩),.int .i64 out].toArray w (Ret (fun v w'=>v = .bool (leavB y out)∧St w F [boxM cb 204 [.int .i64 y.days,.int .i64 y.pl,.slice y.PA y.ps.length y.pc,.slice y.XA y.xs.length y.xc,.slice y.BA y.pe.length y.bc,.int .i64 y.limit,.bool y.help,.slice y.QA y.prs.length y.qc,.slice y.VA y.us.length y.vc,.int .i64 y.crew,.slice y.SA y.sps.length y.sc,.map (some bl),.map (some bs),.map (some bk)],mapK (encN (n:=21)) bl (livP y),mapK (fun n:Int=>Value.int .i64 n) bs (safP y),mapK enc2 bk (kepP y)] w')):=by
 have hmx:maxLen=9223372036854775807:=rfl
 have hdy:=hok.days;have husn:=hyb.usn
 have hD:((y.days.toNat:Nat):Int)=y.days:=by omega
 have hpel:y.pe.length≤1000∧∀ k,k<y.pe.length→0≤y.pe.getD k 0∧y.pe.getD k 0≤1000:=⟨by have h1:=hok.yr.2.1.1;have h2:=hok.V.size;omega,hok.yr.2.1.2⟩
 refine enter Tryz.func115 rfl Tryz.ntmps115 rfl (fun a H=>?_)
 skip
 refine sS H fun K1 k1=>sr 1 G<|sE ?_;clear H a;intro a H
 refine k1 _ ?_;obtain ⟨h0,hh0,S⟩:=aEr S (i:=2) rfl;rcases hk0:h0 out with _|v0
 ·skip
  skip
  replace H:=H.keep [0,1] rfl;refine sS H fun K2 k2=>sr 2 G<|sf uZ rfl<|sl S 0 zH G G G<|sr 1 G<|sd (eV S (i:=2) rfl rU (fQ rfl) Uq rfl (k:=out) rfl (fun h e=>by subst e;rw [hk0];exact ⟨rfl,rfl⟩))<|sr 5 G<|sE ?_;clear H a;intro a H
  refine k2 _ ?_;refine wp_seq_k fun K3 k3=>?_
  replace H:=H.keep [0,1,5,6] rfl;refine sS H fun K4 k4=>sr 2 G<|sE ?_;clear H a;intro a H
  refine k4 _ ?_;refine cond_ H rfl (fun hc1=>?_) (fun hc1=>?_)
  ·skip
   skip
   refine sS H fun K5 k5=>sr 1 G<|sE ?_;clear H a;intro a H
   refine k5 _ ?_;refine wp_seq_k fun K6 k6=>?_
   replace H:=H.keep [0,1,7] rfl;refine sS H fun K7 k7=>sr 2 G<|sf dJ rfl<|sf pX rfl<|sl S 0 bE G G G<|sL aP rfl<|sr 1 G<|sE ?_;clear H a;intro a H
   refine k7 _ ?_;refine wp_block ?_;refine loop_st (X:=Nat) (R0:=_) [0,1,27,28] H rfl (fun k=>[(7,.int .i64 (sumI y.pe k)),(29,.int .i64 (k:Int))]) (fun k=>[]) (fun g k=>k≤y.pe.length∧g+k=y.pe.length) (y.pe.length) 0 ?_ (S.sel [0,1,2,3] G G) (H.keep [7,29,0,1,27,28] rfl) ?_
   · exact ⟨by omega,by omega⟩
   clear H S a;intro g1 x1 a w1 hp S H K8 k8;obtain ⟨k,rfl⟩:∃ y,y=x1:=⟨_,rfl⟩;refine sS H fun K9 k9=>sr 1 G<|sE ?_;clear H a;intro a H
   refine k9 _ ?_;refine wp_seq_k fun K10 k10=>?_
   refine condL H rfl (fun hc2=>?_) (fun hc2=>?_)
   ·skip
    refine wp_skip ?_;refine k10 _ _ ?_;refine wp_seq_k fun K11 k11=>?_
    refine wp_block ?_;refine sS H fun K12 k12=>si aP aX G G (hy.pe.adr (by omega)) (by omega)<|slm aD rfl (hy.pe.rd S (by omega) (by omega))<|sr 1 G<|sE ?_;clear H a;intro a H
    refine k12 _ ?_;have hsb:=Aj hpel.2 k (by omega);have hsk:=hpel.2 k (by omega);refine sO H<|sr 2 G<|sd (aI G G (by unfold i64ok;omega))<|sr 1 G<|sE ?_;clear H a;intro a H
    refine k11 _ _ ?_;replace H:=H.keep [0,1,7,27,28,29] rfl;refine sO H<|sd (aI G G (by unfold i64ok;omega))<|sr 1 G<|sE ?_;clear H a;intro a H
    exact k8 (g1-1) (k+1) a _ (by omega) (⟨by omega,by omega⟩) (S.sel [0,1,2,3] G G) (H.keep [7,29,0,1,27,28] rfl)
   refine wp_exit ?_;refine k6 _ _ ?_;replace H:=H.keep [0,1,7] rfl;replace S:=S.drew;refine seq_wq [(0,true),(1,true),(2,true),(3,true),(4,true),(5,true),(6,true),(7,true),(8,true),(9,true),(10,true),(11,true),(12,true),(13,true),(14,true),(15,true),(16,false),(17,true),(18,true),(19,true),(20,true),(21,true)] (by kernel_rfl) (by kernel_rfl) (S.sel [0,1,2,3] G G) fun K15 k15=>?_
   refine qF H<|qr 2 G<|qd G (fun _ S=>(aC dJ rfl))<|qd G (fun _ S=>(aC iA rfl))<|qd G (fun _ S=>(aB bW cQ rfl S (i:=0) G G))<|qr 3 G<|qd G (fun _ S=>(aC dJ rfl))<|qd G (fun _ S=>(aC pX rfl))<|qd G (fun _ S=>aF bE rfl (aEh S (i:=0) G G))<|qr 2 G<|qd G (fun _ S=>(aC dJ rfl))<|qd G (fun _ S=>(aC zN rfl))<|qd G (fun _ S=>aF aD rfl (aEh S (i:=0) G G))<|qK ?_;clear H a;intro a H
   refine aT rfl ?_
   have hcl9:=eY (Li y.pl y.ps y.PA y.pc y.xs y.XA y.xc out y.pe y.BA y.bc y.limit _ (hy.ps.now S) hyb.psn (hy.xs.now S) hyb.xsn (hy.pe.now S) hyb.pen) (fun _ _ h=>Tn (hok.leave ho) h)
   refine aA H G G Tryz.func146 G G hcl9 ?_;clear H a hcl9
   rintro _ _ a ⟨n9,rfl,hlb,S2⟩ H;replace S:=S.call S2;clear S2;refine wpList_nil (And.intro (S.sel [0,1,2,3] rfl rfl) ?_);refine qF H<|qr 5 G<|qK ?_;clear H a;intro a H
   refine bL ?_
   refine k15 _ _ ?_;replace H:=H.keep [0,1,7,10] rfl;refine sS H fun K16 k16=>sr 4 G<|sE ?_;clear H a;intro a H
   refine k16 _ ?_;replace H:=H.keep [0,1,5] rfl;refine one_list ?_;refine ls 6 H<|sr 2 G<|sf uZ rfl<|sl S 0 zH G G G<|sr 2 G<|sE ?_;clear H a;intro a H
   refine fF (k:=out) (safP y) H S (i:=2) rfl rU (fQ rfl) G G G (fun h e=>by subst e;exact Sk (congrArg Value.bool (by rw [hlb,show k=y.pe.length by omega])) h hh0) ?_;clear H a S;intro _ a S H
   refine k3 _ _ ?_;refine sS H fun K18 k18=>sr 2 G<|sE ?_;clear H a;intro a H
   refine k18 _ ?_;refine wp_ret ?_;refine ret1 (fn:=Tryz.f115) rfl H rfl ?_;exact ⟨congrArg Value.bool (by rw [hlb,show k=y.pe.length by omega]),(S.sel [0,1,2,3] G G)⟩
  skip
  cases hc1
 obtain rfl:=hh0 _ _ ho hk0
 replace H:=H.keep [0,1] rfl;refine sS H fun K19 k19=>sr 2 G<|sf uZ rfl<|sl S 0 zH G G G<|sr 1 G<|sd (eV S (i:=2) rfl rU (fQ rfl) Uq rfl (k:=out) rfl (fun h e=>by subst e;rw [hk0];exact ⟨rfl,rfl⟩))<|sr 5 G<|sE ?_;clear H a;intro a H
 refine k19 _ ?_;refine wp_seq_k fun K20 k20=>?_
 replace H:=H.keep [0,1,5,6] rfl;refine sS H fun K21 k21=>sr 2 G<|sE ?_;clear H a;intro a H
 refine k21 _ ?_;refine cond_ H rfl (fun hc3=>?_) (fun hc3=>?_)
 ·skip
  skip
  cases hc3
 skip
 refine wp_skip ?_;refine k20 _ _ ?_;refine sS H fun K22 k22=>sr 2 G<|sE ?_;clear H a;intro a H
 refine k22 _ ?_;refine wp_ret ?_;refine ret1 (fn:=Tryz.f115) rfl H rfl ?_;replace S:=aEs S (i:=2) rfl (Φ':=safP y) (fun g e=>by subst e;exact hh0);exact ⟨rfl,(S.sel [0,1,2,3] G G)⟩
theorem Ni (y:Yr) (cb bl bs bk:Nat) (d out:Int) (w:World) (F:Nat→Prop) (S:St w F [boxM cb 204 [.int .i64 y.days,.int .i64 y.pl,.slice y.PA y.ps.length y.pc,.slice y.XA y.xs.length y.xc,.slice y.BA y.pe.length y.bc,.int .i64 y.limit,.bool y.help,.slice y.QA y.prs.length y.qc,.slice y.VA y.us.length y.vc,.int .i64 y.crew,.slice y.SA y.sps.length y.sc,.map (some bl),.map (some bs),.map (some bk)],mapK (encN (n:=21)) bl (livP y),mapK (fun n:Int=>Value.int .i64 n) bs (safP y),mapK enc2 bk (kepP y)] w) (hy:YIn w F y) (hyb:YBd y) (hok:YOk y) (ho:0≤out∧out≤4095) :
    Calls Tryz.prog 114 [.pointer (some ⟨cb,0,none⟩),.int .i64 d,.int .i64 out].toArray w (Ret (fun v w'=>v = .bool (keepB y d out)∧St w F [boxM cb 204 [.int .i64 y.days,.int .i64 y.pl,.slice y.PA y.ps.length y.pc,.slice y.XA y.xs.length y.xc,.slice y.BA y.pe.length y.bc,.int .i64 y.limit,.bool y.help,.slice y.QA y.prs.length y.qc,.slice y.VA y.us.length y.vc,.int .i64 y.crew,.slice y.SA y.sps.length y.sc,.map (some bl),.map (some bs),.map (some bk)],mapK (encN (n:=21)) bl (livP y),mapK (fun n:Int=>Value.int .i64 n) bs (safP y),mapK enc2 bk (kepP y)] w')):=by
 have hprn:=hyb.prn
 refine enter Tryz.func114 rfl Tryz.ntmps114 rfl (fun a H=>?_)
 skip
 refine sS H fun K1 k1=>sr 1 G<|sE ?_;clear H a;intro a H
 refine k1 _ ?_;obtain ⟨h0,hh0,S⟩:=aEr S (i:=3) rfl;rcases hk0:h0 (d,out) with _|v0
 ·skip
  skip
  replace H:=H.keep [0,1,2] rfl;refine sS H fun K2 k2=>sr 2 G<|sf vA rfl<|sl S 0 zI G G G<|sr 2 G<|sd (aN Ho G G)<|sd (eV S (i:=3) rfl Fs (Gt Tryz.underlying89 Tryz.underlying3 aD aX) Uq rfl (k:=(d,out)) rfl (fun h e=>by subst e;rw [hk0];exact ⟨rfl,rfl⟩))<|sr 5 G<|sE ?_;clear H a;intro a H
  refine k2 _ ?_;refine wp_seq_k fun K3 k3=>?_
  replace H:=H.keep [0,1,2,7,8] rfl;refine sS H fun K4 k4=>sr 1 G<|sE ?_;clear H a;intro a H
  refine k4 _ ?_;refine cond_ H rfl (fun hc1=>?_) (fun hc1=>?_)
  ·skip
   skip
   cases hc1
  skip
  refine wp_skip ?_;refine k3 _ _ ?_;refine sS H fun K5 k5=>sr 1 G<|sE ?_;clear H a;intro a H
  refine k5 _ ?_;refine wp_seq_k fun K6 k6=>?_
  refine sS H fun K7 k7=>sr 2 G<|sf dJ rfl<|sf pY rfl<|sl S 0 iV G G G<|sL gO rfl<|sr 1 G<|sE ?_;clear H a;intro a H
  refine k7 _ ?_;refine wp_block ?_;refine loop_st (X:=Nat×Bool) (R0:=_) [0,1,2,31,32] H rfl (fun ⟨k,b⟩=>[(7,.bool b),(33,.int .i64 (k:Int))]) (fun ⟨k,b⟩=>[]) (fun g ⟨k,b⟩=>k≤y.prs.length∧g+k=y.prs.length∧b=allN (prmB y d out) k) (y.prs.length) (0,true) ?_ (S.sel [0,1,2,3] G G) (H.keep [7,33,0,1,2,31,32] rfl) ?_
  · exact ⟨by omega,by omega,rfl⟩
  clear H S a;intro g1 x1 a w1 hp S H K8 k8;obtain ⟨k,b⟩:=x1;dsimp only at hp S H;refine sS H fun K9 k9=>sr 1 G<|sE ?_;clear H a;intro a H
  refine k9 _ ?_;refine wp_seq_k fun K10 k10=>?_
  refine condL H rfl (fun hc2=>?_) (fun hc2=>?_)
  ·skip
   refine wp_skip ?_;refine k10 _ _ ?_;refine wp_seq_k fun K11 k11=>?_
   refine wp_block ?_;refine seq_list fun K12 k12=>?_
   refine ls 2 H<|si gO fW G G (hy.prs.adr (by omega)) (by omega)<|sd ((aU rO fW rfl S hy.prs (by omega) (by omega)))<|sE ?_;clear H a;intro a H
   refine aJ H rfl S sY ?_;clear H a S;intro b10 _ a hb10 hbw10 S H
   refine aE H S (i:=0) G G G G fW G G ?_
   clear H a S;intro _ a S H;refine k12 _ _ ?_;refine wp_seq_k fun K13 k13=>?_
   replace H:=H.keep [0,1,2,7,10,31,32,33] rfl;refine sS H fun K14 k14=>sr 1 G<|sf mH rfl<|sl S 0 aD G G G<|sf lA rfl<|sl S 0 aD G G G<|sc rfl Tryz.func82 G G (bO _ _ _ _)<|sr 1 G<|sE ?_;clear H a;intro a H
   refine k14 _ ?_;refine cond_ H rfl (fun hc3=>?_) (fun hc3=>?_)
   ·skip
    try simp only [oz] at hc3
    refine wp_exit ?_;refine k11 _ _ ?_;refine sO H<|sd (aI G G (by unfold i64ok;omega))<|sr 1 G<|sE ?_;clear H a;intro a H
    exact k8 (g1-1) (k+1,_) a _ (by omega) (⟨by omega,by omega,Nh hp.2.2 (by omega)⟩) (S.sel [1,2,3,4] G G) (H.keep [7,33,0,1,2,31,32] rfl)
   try simp only [oz] at hc3
   refine wp_skip ?_;refine k13 _ _ ?_;rcases hhp:y.help with _|_
   ·skip
    skip
    replace H:=H.keep [0,1,2,7,10,31,32,33] rfl;replace S:=S.drew;refine seq_wq [(0,true),(1,true),(2,true),(3,true),(4,true),(5,true),(6,true),(7,true),(8,true),(9,true),(10,true),(11,true),(12,true),(13,true),(14,true),(15,true),(16,true),(17,true),(18,true),(19,false),(20,true),(21,true),(22,true),(23,true),(24,true),(25,true),(26,true)] (by kernel_rfl) (by kernel_rfl) (S.sel [0,1,2,3,4] G G) fun K16 k16=>?_
    refine qF H<|qr 2 G<|qd G (fun _ S=>(aC dJ rfl))<|qd G (fun _ S=>(aC iA rfl))<|qd G (fun _ S=>(aB bW cQ rfl S (i:=1) G G))<|qr 3 G<|qd G (fun _ S=>(aC dJ rfl))<|qd G (fun _ S=>(aC Hl rfl))<|qd G (fun _ S=>(aF iP rfl (aEh S (i:=1) G G)).to (v' := .bool false) (congrArg Value.bool hhp))<|qr 1 G<|qK ?_;clear H a;intro a H
    refine aK H G G G G G ?_;clear H a;intro a H
    refine aK H G G G G G ?_;clear H a;intro a H
    refine qF H<|qd G (fun _ S=>(aV G G G))<|qd G (fun _ S=>(aC qC rfl))<|qd G (fun _ S=>aF aD rfl (aEh S (i:=0) G G))<|qd G (fun _ S=>(aC qD rfl))<|qd G (fun _ S=>aF aD rfl (aEh S (i:=0) G G))<|qK ?_;clear H a;intro a H
    refine aT rfl ?_
    have hcl9:=eY (Cx y.pl y.ps y.PA y.pc y.xs y.XA y.xc out false (y.prs.getD k aFj).fr (y.prs.getD k aFj).to _ (hy.ps.now S) hyb.psn (hy.xs.now S) hyb.xsn) (fun _ _ h=>Jo (Tp hok ho (show k<y.prs.length by omega)) h)
    refine aA H G G Tryz.func145 G G hcl9 ?_;clear H a hcl9
    rintro _ _ a ⟨t9,e9,A9,n9,c9,rfl,hwb,S2⟩ H;replace S:=S.call S2;clear S2;refine wpList_nil (And.intro (S.sel [0,1,2,3,4] rfl rfl) ?_);refine qF H<|qr 7 G<|qK ?_;clear H a;intro a H
    refine bL ?_
    refine k16 _ _ ?_;replace H:=H.keep [0,1,2,7,13,31,32,33] rfl;refine sS H fun K17 k17=>sr 2 G<|sE ?_;clear H a;intro a H
    refine k17 _ ?_;refine condN H rfl (fun hc4=>?_) (fun hc4=>?_)
    ·skip
     refine sO H<|sr 1 G<|sE ?_;clear H a;intro a H
     refine k11 _ _ ?_;refine sO H<|sd (aI G G (by unfold i64ok;omega))<|sr 1 G<|sE ?_;clear H a;intro a H
     exact k8 (g1-1) (k+1,_) a _ (by omega) (⟨by omega,by omega,Ej hp.2.2 (by omega) (by rw [hhp];exact hwb) (by omega)⟩) (S.sel [1,2,3,4] G G) (H.keep [7,33,0,1,2,31,32] rfl)
    refine wp_skip ?_;refine k11 _ _ ?_;refine sO H<|sd (aI G G (by unfold i64ok;omega))<|sr 1 G<|sE ?_;clear H a;intro a H
    exact k8 (g1-1) (k+1,_) a _ (by omega) (⟨by omega,by omega,yU hp.2.2 (by omega) (by rw [hhp];exact hwb) (by omega)⟩) (S.sel [1,2,3,4] G G) (H.keep [7,33,0,1,2,31,32] rfl)
   skip
   replace H:=H.keep [0,1,2,7,10,31,32,33] rfl;replace S:=S.drew;refine seq_wq [(0,true),(1,true),(2,true),(3,true),(4,true),(5,true),(6,true),(7,true),(8,true),(9,true),(10,true),(11,true),(12,true),(13,true),(14,true),(15,true),(16,true),(17,true),(18,true),(19,false),(20,true),(21,true),(22,true),(23,true),(24,true),(25,true),(26,true)] (by kernel_rfl) (by kernel_rfl) (S.sel [0,1,2,3,4] G G) fun K21 k21=>?_
   refine qF H<|qr 2 G<|qd G (fun _ S=>(aC dJ rfl))<|qd G (fun _ S=>(aC iA rfl))<|qd G (fun _ S=>(aB bW cQ rfl S (i:=1) G G))<|qr 3 G<|qd G (fun _ S=>(aC dJ rfl))<|qd G (fun _ S=>(aC Hl rfl))<|qd G (fun _ S=>(aF iP rfl (aEh S (i:=1) G G)).to (v' := .bool true) (congrArg Value.bool hhp))<|qr 1 G<|qK ?_;clear H a;intro a H
   refine aG H G G G G (fun _ S=>(aC Hm rfl)) ?_;clear H a;intro a H
   refine aG H G G G G (fun _ S=>aF iP rfl (aEh S (i:=0) G G)) ?_;clear H a;intro a H
   refine qF H<|qd G (fun _ S=>(jQ G G G))<|qd G (fun _ S=>(aC qC rfl))<|qd G (fun _ S=>aF aD rfl (aEh S (i:=0) G G))<|qd G (fun _ S=>(aC qD rfl))<|qd G (fun _ S=>aF aD rfl (aEh S (i:=0) G G))<|qK ?_;clear H a;intro a H
   refine aT rfl ?_
   have hcl9:=eY (Cx y.pl y.ps y.PA y.pc y.xs y.XA y.xc out (y.prs.getD k aFj).helped (y.prs.getD k aFj).fr (y.prs.getD k aFj).to _ (hy.ps.now S) hyb.psn (hy.xs.now S) hyb.xsn) (fun _ _ h=>Jo (Tp hok ho (show k<y.prs.length by omega)) h)
   refine aA H G G Tryz.func145 G G hcl9 ?_;clear H a hcl9
   rintro _ _ a ⟨t9,e9,A9,n9,c9,rfl,hwb,S2⟩ H;replace S:=S.call S2;clear S2;refine wpList_nil (And.intro (S.sel [0,1,2,3,4] rfl rfl) ?_);refine qF H<|qr 7 G<|qK ?_;clear H a;intro a H
   refine bL ?_
   refine k21 _ _ ?_;replace H:=H.keep [0,1,2,7,13,31,32,33] rfl;refine sS H fun K22 k22=>sr 2 G<|sE ?_;clear H a;intro a H
   refine k22 _ ?_;refine condN H rfl (fun hc5=>?_) (fun hc5=>?_)
   ·skip
    refine sO H<|sr 1 G<|sE ?_;clear H a;intro a H
    refine k11 _ _ ?_;refine sO H<|sd (aI G G (by unfold i64ok;omega))<|sr 1 G<|sE ?_;clear H a;intro a H
    exact k8 (g1-1) (k+1,_) a _ (by omega) (⟨by omega,by omega,Ej hp.2.2 (by omega) (by rw [hhp];exact hwb) (by omega)⟩) (S.sel [1,2,3,4] G G) (H.keep [7,33,0,1,2,31,32] rfl)
   refine wp_skip ?_;refine k11 _ _ ?_;refine sO H<|sd (aI G G (by unfold i64ok;omega))<|sr 1 G<|sE ?_;clear H a;intro a H
   exact k8 (g1-1) (k+1,_) a _ (by omega) (⟨by omega,by omega,yU hp.2.2 (by omega) (by rw [hhp];exact hwb) (by omega)⟩) (S.sel [1,2,3,4] G G) (H.keep [7,33,0,1,2,31,32] rfl)
  refine wp_exit ?_;refine k6 _ _ ?_;have hb9:b=keepB y d out:=by rw [hp.2.2,show k=y.prs.length by omega];rfl
  subst hb9;replace H:=H.keep [0,1,2,7] rfl;refine seq_list fun K26 k26=>?_
  refine ls 8 H<|sr 2 G<|sf vA rfl<|sl S 0 zI G G G<|sr 2 G<|sd (aN Ho G G)<|sr 1 G<|sE ?_;clear H a;intro a H
  refine fF (k:=(d,out)) (kepP y) H S (i:=3) rfl Fs (Gt Tryz.underlying89 Tryz.underlying3 aD aX) G G G (fun h e=>by subst e;exact Sl rfl h hh0) ?_;clear H a S;intro _ a S H
  refine k26 _ _ ?_;replace H:=H.keep [7] rfl;refine sS H fun K27 k27=>sr 2 G<|sE ?_;clear H a;intro a H
  refine k27 _ ?_;refine wp_ret ?_;refine ret1 (fn:=Tryz.f114) rfl H rfl ?_;exact ⟨rfl,(S.sel [0,1,2,3] G G)⟩
 obtain rfl:=hh0 _ _ _ ho hk0
 replace H:=H.keep [0,1,2] rfl;refine sS H fun K28 k28=>sr 2 G<|sf vA rfl<|sl S 0 zI G G G<|sr 2 G<|sd (aN Ho G G)<|sd (eV S (i:=3) rfl Fs (Gt Tryz.underlying89 Tryz.underlying3 aD aX) Uq rfl (k:=(d,out)) rfl (fun h e=>by subst e;rw [hk0];exact ⟨rfl,rfl⟩))<|sr 5 G<|sE ?_;clear H a;intro a H
 refine k28 _ ?_;refine wp_seq_k fun K29 k29=>?_
 replace H:=H.keep [0,1,2,7,8] rfl;refine sS H fun K30 k30=>sr 1 G<|sE ?_;clear H a;intro a H
 refine k30 _ ?_;refine cond_ H rfl (fun hc6=>?_) (fun hc6=>?_)
 ·skip
  skip
  refine sS H fun K31 k31=>sr 2 G<|sE ?_;clear H a;intro a H
  refine k31 _ ?_;refine wp_ret ?_;refine ret1 (fn:=Tryz.f114) rfl H rfl ?_;replace S:=aEs S (i:=3) rfl (Φ':=kepP y) (fun g e=>by subst e;exact hh0);exact ⟨rfl,(S.sel [0,1,2,3] G G)⟩
 skip
 cases hc6
end
section
theorem Yk {y:Yr} (hok:YOk y) {i:Nat} (hi:i<y.us.length):0≤(y.us.getD i aFg).kind∧(y.us.getD i aFg).kind≤3:=by
 have h:=(hok.unit hi).i
 unfold untI at h
 exact h.2.2.1
theorem stk0 {y:Yr} {l:List Tsk} {k j:Nat} (hk:k<4) (hj:j<1):([Value.int .i64 0,Value.int .i64 0,Value.int .i64 0,Value.int .i64 0]:List Value).getD k undef=stkC y l 0 0 0 k j:=by
 have e:stkC y l 0 0 0 k j = .int .i64 0:=rfl
 rw [e];match k,hk with
 | 0,_=>rfl
 | 1,_=>rfl
 | 2,_=>rfl
 | 3,_=>rfl
theorem sM (y:Yr) (cb bl bs bk:Nat) (l:List Tsk) (LA:Option Addr) (lc:Nat) (w:World) (F:Nat→Prop) (S:St w F [boxM cb 204 [.int .i64 y.days,.int .i64 y.pl,.slice y.PA y.ps.length y.pc,.slice y.XA y.xs.length y.xc,.slice y.BA y.pe.length y.bc,.int .i64 y.limit,.bool y.help,.slice y.QA y.prs.length y.qc,.slice y.VA y.us.length y.vc,.int .i64 y.crew,.slice y.SA y.sps.length y.sc,.map (some bl),.map (some bs),.map (some bk)],mapK (encN (n:=21)) bl (livP y),mapK (fun n:Int=>Value.int .i64 n) bs (safP y),mapK enc2 bk (kepP y)] w) (hy:YIn w F y) (hyb:YBd y) (hok:YOk y) (hl:InS w F 3 LA l.length (cD l)) (hln:l.length≤9223372036854775807) (htk:∀ k,k<l.length→tskI y (l.getD k aFh)) (hl60:l.length≤60) :
    Calls Tryz.prog 74 [.pointer (some ⟨cb,0,none⟩),.slice LA l.length lc].toArray w (Ret (fun v w'=>v = .tuple #[.int .i64 (fL y l).1,.int .i64 (fL y l).2]∧St w F [boxM cb 204 [.int .i64 y.days,.int .i64 y.pl,.slice y.PA y.ps.length y.pc,.slice y.XA y.xs.length y.xc,.slice y.BA y.pe.length y.bc,.int .i64 y.limit,.bool y.help,.slice y.QA y.prs.length y.qc,.slice y.VA y.us.length y.vc,.int .i64 y.crew,.slice y.SA y.sps.length y.sc,.map (some bl),.map (some bs),.map (some bk)],mapK (encN (n:=21)) bl (livP y),mapK (fun n:Int=>Value.int .i64 n) bs (safP y),mapK enc2 bk (kepP y)] w')):=by
 have hmx:maxLen=9223372036854775807:=rfl
 have hdy:=hok.days;have husn:=hyb.usn;have hspn:=hyb.spn
 have hD:((y.days.toNat:Nat):Int)=y.days:=by omega
 refine enter Tryz.func74 rfl Tryz.ntmps74 rfl (fun a H=>?_)
 skip
 refine sS H fun K1 k1=>sr 2 G<|sE ?_;clear H a;intro a H
 refine k1 _ ?_;refine seq_list fun K2 k2=>?_
 refine ls 2 H<|sr 2 G<|sE ?_;clear H a;intro a H
 refine aA H G G Tryz.func41 G G (Yj y cb bl bs bk l LA lc _ _ ((S.sel [0,1,2,3] G G).startR) (hy.nowR (S.sel [0,1,2,3] G G)) hyb hok (hl.nowR (S.sel [0,1,2,3] G G)) hln htk) ?_;clear H a
 rintro _ _ a ⟨A6,c6,rfl,S2⟩ H;replace S:=St.callR (M:=[_,_,_,_]) (S.sel [0,1,2,3] rfl rfl) S2;clear S2;refine ls 1 H<|sr 1 G<|sE ?_;clear H a;intro a H
 refine k2 _ _ ?_;refine seq_list fun K3 k3=>?_
 refine aJ H rfl S aAc ?_;intro b7 _ a hb7 hbw7 S H
 refine k3 _ _ ?_;refine wp_seq_k fun K4 k4=>?_
 replace S:=Dr S (i:=0) rfl (by show 4≤maxLen;decide);replace S:=S.recell (i:=0) rfl (cell':=stkC y l 0 0 0) (fun k9 j9 hk9 hj9=>stk0 hk9 hj9);replace H:=H.keep [0,1,6,7] rfl;refine sS H fun K5 k5=>sr 2 G<|sf dJ rfl<|sf dZ rfl<|sl S 2 aD G G G<|sr 1 G<|sE ?_;clear H a;intro a H
 refine k5 _ ?_;refine wp_block ?_;refine loop_st (X:=Nat) (R0:=_) [0,1,6,7,23] H rfl (fun d=>[(24,.int .i64 (d:Int))]) (fun d=>[ownM 224 1 (some ⟨b7,0,none⟩) 4 4 (stkC y l d 0 0)]) (fun g d=>(d≤y.days.toNat∧g+d=y.days.toNat)∧∀ q,q<d→eM y l q=0) (y.days.toNat) 0 ?_ (S.sel [0,1,2,3,4,5] G G) (H.keep [24,0,1,6,7,23] rfl) ?_
 · exact ⟨⟨by omega,by omega⟩,fun q hq=>absurd hq (Nat.not_lt_zero q)⟩
 clear H S a;intro g1 x1 a w1 hp S H K6 k6;obtain ⟨d,rfl⟩:∃ y,y=x1:=⟨_,rfl⟩;obtain ⟨⟨hdl,hgd⟩,hfl⟩:=hp;refine sS H fun K7 k7=>sr 1 G<|sE ?_;clear H a;intro a H
 refine k7 _ ?_;refine wp_seq_k fun K8 k8=>?_
 refine condL H rfl (fun hc1=>?_) (fun hc1=>?_)
 ·skip
  refine wp_skip ?_;refine k8 _ _ ?_;refine wp_seq_k fun K9 k9=>?_
  refine wp_block ?_;refine sS H fun K10 k10=>sr 2 G<|sE ?_;clear H a;intro a H
  refine k10 _ ?_;refine wp_seq_k fun K11 k11=>?_
  replace H:=H.keep [0,1,6,7,8,23,24] rfl;refine sS H fun K12 k12=>sr 2 G<|sf dJ rfl<|sf nX rfl<|sl S 2 rM G G G<|sL sW rfl<|sr 1 G<|sE ?_;clear H a;intro a H
  refine k12 _ ?_;refine wp_block ?_;refine loop_st (X:=Nat) (R0:=_) [0,1,6,7,8,23,24,31,32] H rfl (fun n=>[(33,.int .i64 (n:Int))]) (fun n=>[ownM 224 1 (some ⟨b7,0,none⟩) 4 4 (stkC y l d n 0)]) (fun g n=>n≤y.sps.length∧g+n=y.sps.length) (y.sps.length) 0 ?_ (S.sel [0,1,2,3,4,5] G G) (H.keep [33,0,1,6,7,8,23,24,31,32] rfl) ?_
  · exact ⟨by omega,by omega⟩
  clear H S a;intro g2 x2 a w2 hp S H K13 k13;obtain ⟨n,rfl⟩:∃ y,y=x2:=⟨_,rfl⟩;refine sS H fun K14 k14=>sr 1 G<|sE ?_;clear H a;intro a H
  refine k14 _ ?_;refine wp_seq_k fun K15 k15=>?_
  refine condL H rfl (fun hc2=>?_) (fun hc2=>?_)
  ·skip
   refine wp_skip ?_;refine k15 _ _ ?_;refine wp_seq_k fun K16 k16=>?_
   refine wp_block ?_;refine seq_list fun K17 k17=>?_
   refine ls 2 H<|si sW mE G G (hy.sps.adr (by omega)) (by omega)<|sd ((aU zK mE rfl S hy.sps (by omega) (by omega)))<|sE ?_;clear H a;intro a H
   refine aJ H rfl S Fm ?_;intro b10 _ a hb10 hbw10 S H
   refine aE H S (i:=0) G G G G mE G G ?_
   clear H a S;intro _ a S H;refine k17 _ _ ?_;have hsq:=nS.1 (hok.yr.2.2.2.2.2 n (by omega));refine sS H fun K18 k18=>sf vC rfl<|sl S 0 aD G G G<|sr 2 G<|sE ?_;clear H a;intro a H
   refine k18 _ ?_;refine condE H rfl (fun hc3=>?_) (fun hc3=>?_)
   ·skip
    have hb0:=Bd (d:=d) (k:=(y.sps.getD n aFo).kind.toNat) hok n (by omega)
    have hb1:=Bd (d:=d) (k:=(y.sps.getD n aFo).kind.toNat) hok y.sps.length (Nat.le_refl _)
    have hb2:=Ha (y:=y) (l:=l) (d:=d) (k:=(y.sps.getD n aFo).kind.toNat) 0
    have hb3:=Sp (l:=l) (k:=(y.sps.getD n aFo).kind.toNat) hok (by omega) d
    have hb4:=hok.yr.2.2.2.2.1
    replace H:=H.keep [0,1,6,7,8,10,23,24,31,32,33] rfl;refine mT 8 (by kernel_rfl) (by kernel_rfl) ?_;replace S:=S.drew;refine sF H<|sf vD rfl<|sl S 0 aD G G G<|sd (cR Tryz.underlying224 aX G G (by omega) (by omega))<|slm aD rfl (aEk S (i:=1) (k:=(y.sps.getD n aFo).kind.toNat) (j:=0) rfl (by omega) (by omega))<|sf vE rfl<|sl S 0 aD G G G<|sd (aI G G (by unfold i64ok;omega))<|sd (cR Tryz.underlying224 aX G G (by omega) (by omega))<|sE ?_;clear H a;intro a H
    refine bC H S (i:=1) (kk:=(y.sps.getD n aFo).kind.toNat) (j:=0) G G G (by omega) (by omega) aX rfl ?_
    clear H a S;intro _ a S H;refine k16 _ _ ?_;replace H:=H.keep [0,1,6,7,8,23,24,31,32,33] rfl;refine sO H<|sd (aI G G (by unfold i64ok;omega))<|sr 1 G<|sE ?_;clear H a;intro a H
    replace S:=S.recell (i:=1) rfl (cell':=stkC y l d (n+1) 0) (fun k9 j9 hk9 hj9=>Xk (q:=(y.sps.getD n aFo).kind.toNat) hc3 (by omega) rfl k9 j9 hj9);exact k13 (g2-1) (n+1) a _ (by omega) (⟨by omega,by omega⟩) (S.sel [1,2,3,4,5,6] G G) (H.keep [33,0,1,6,7,8,23,24,31,32] rfl)
   refine wp_skip ?_;refine k16 _ _ ?_;refine sO H<|sd (aI G G (by unfold i64ok;omega))<|sr 1 G<|sE ?_;clear H a;intro a H
   rw [Xl hc3] at S;exact k13 (g2-1) (n+1) a _ (by omega) (⟨by omega,by omega⟩) (S.sel [1,2,3,4,5,6] G G) (H.keep [33,0,1,6,7,8,23,24,31,32] rfl)
  refine wp_exit ?_;refine k11 _ _ ?_;refine sS H fun K22 k22=>sr 2 G<|sE ?_;clear H a;intro a H
  refine k22 _ ?_;refine wp_seq_k fun K23 k23=>?_
  refine sS H fun K24 k24=>sr 1 G<|sL dP rfl<|sr 1 G<|sE ?_;clear H a;intro a H
  refine k24 _ ?_;refine wp_block ?_;obtain rfl:n=y.sps.length:=by omega
  refine loop_st (X:=Nat×Int×Bool) (R0:=_) [0,1,6,7,8,23,24,50,51] H rfl (fun ⟨q,jb,sh⟩=>[(11,.int .i64 jb),(12,.bool sh),(52,.int .i64 (q:Int))]) (fun ⟨q,jb,sh⟩=>[ownM 224 1 (some ⟨b7,0,none⟩) 4 4 (stkC y l d y.sps.length q)]) (fun g ⟨q,jb,sh⟩=>(q≤l.length∧g+q=l.length)∧jb=jbS l d q∧sh=shS y l d q) (l.length) (0,0,false) ?_ (S.sel [0,1,2,3,4,5] G G) (H.keep [11,12,52,0,1,6,7,8,23,24,50,51] rfl) ?_
  · exact ⟨⟨by omega,by omega⟩,rfl,rfl⟩
  clear H S a;intro g3 x3 a w3 hp S H K25 k25;obtain ⟨q,jb,sh⟩:=x3;dsimp only at hp S H;obtain ⟨⟨hql,hgq⟩,hjb9,hsh9⟩:=hp;refine sS H fun K26 k26=>sr 1 G<|sE ?_;clear H a;intro a H
  refine k26 _ ?_;refine wp_seq_k fun K27 k27=>?_
  refine condL H rfl (fun hc4=>?_) (fun hc4=>?_)
  ·skip
   refine wp_skip ?_;refine k27 _ _ ?_;refine wp_seq_k fun K28 k28=>?_
   refine wp_block ?_;refine seq_list fun K29 k29=>?_
   refine ls 2 H<|si dP dG G G (hl.adr (by omega)) (by omega)<|sd ((aU oV dG rfl S hl (by omega) (by omega)))<|sE ?_;clear H a;intro a H
   refine aJ H rfl S sX ?_;intro b14 _ a hb14 hbw14 S H
   refine aE H S (i:=0) G G G G dG G G ?_
   clear H a S;intro _ a S H;refine k29 _ _ ?_;refine wp_seq_k fun K30 k30=>?_
   have htt:=htk q (by omega);unfold tskI at htt
   refine sS H fun K31 k31=>sf dK rfl<|sl S 0 aD G G G<|sr 2 G<|sE ?_;clear H a;intro a H
   refine k31 _ ?_;refine condN H rfl (fun hc5=>?_) (fun hc5=>?_)
   ·skip
    refine wp_exit ?_;refine k28 _ _ ?_;replace H:=H.keep [0,1,6,7,8,11,12,23,24,50,51,52] rfl;refine sO H<|sd (aI G G (by unfold i64ok;omega))<|sr 1 G<|sE ?_;clear H a;intro a H
    rw [Dv (fun h=>hc5 h.1)] at S;exact k25 (g3-1) (q+1,_,_) a _ (by omega) (⟨⟨by omega,by omega⟩,aDx hjb9 hc5,Zn hsh9 (fun h=>hc5 h.1)⟩) (S.sel [1,2,3,4,5,6] G G) (H.keep [11,12,52,0,1,6,7,8,23,24,50,51] rfl)
   refine wp_skip ?_;refine k30 _ _ ?_;have hjb:=aBw (l:=l) (d:=d) q;rw [←hjb9] at hjb;refine sS H fun K33 k33=>sr 1 G<|sd (aI G G (by unfold i64ok;omega))<|sr 1 G<|sE ?_;clear H a;intro a H
   refine k33 _ ?_;refine sS H fun K34 k34=>sf gE rfl<|sl S 0 aD G G G<|sr 1 G<|sE ?_;clear H a;intro a H
   refine k34 _ ?_;refine condE H rfl (fun hc6=>?_) (fun hc6=>?_)
   ·skip
    have hkk:=Yk hok (show (l.getD q aFh).unit.toNat<y.us.length by omega)
    replace H:=H.keep [0,1,6,7,8,11,12,14,23,24,50,51,52] rfl;replace S:=S.drew;refine sD H fun K35 k35=>sr 2 G<|sf dJ rfl<|sf dD rfl<|sl S 3 eR G G G<|sf eA rfl<|sl S 0 aD G G G<|sI fJ jS G G (hy.us.adr (by omega)) (by omega) (by omega)<|sp zR rfl<|slm aD rfl (hy.us.rd S (by omega) (by omega))<|sr 1 G<|sE ?_;clear H a;intro a H
    refine k35 _ ?_;have hb1:=Bd (d:=d) (k:=(y.us.getD (l.getD q aFh).unit.toNat aFg).kind.toNat) hok y.sps.length (Nat.le_refl _);have hb2:=Ha (y:=y) (l:=l) (d:=d) (k:=(y.us.getD (l.getD q aFh).unit.toNat aFg).kind.toNat) q;have hb3:=Sp (l:=l) (k:=(y.us.getD (l.getD q aFh).unit.toNat aFg).kind.toNat) hok (by omega) d;have hb4:=hok.yr.2.2.2.2.1;replace H:=H.keep [0,1,6,7,8,11,12,15,23,24,50,51,52] rfl;refine seq_list fun K36 k36=>?_
    refine ls 5 H<|sr 1 G<|sd (cR Tryz.underlying224 aX G G (by omega) (by omega))<|slm aD rfl (aEk S (i:=1) (k:=(y.us.getD (l.getD q aFh).unit.toNat aFg).kind.toNat) (j:=0) rfl (by omega) (by omega))<|sd (aR G G (by unfold i64ok;omega))<|sd (cR Tryz.underlying224 aX G G (by omega) (by omega))<|sE ?_;clear H a;intro a H
    refine bC H S (i:=1) (kk:=(y.us.getD (l.getD q aFh).unit.toNat aFg).kind.toNat) (j:=0) G G G (by omega) (by omega) aX rfl ?_
    clear H a S;intro _ a S H;refine k36 _ _ ?_;replace S:=S.recell (i:=1) rfl (cell':=stkC y l d y.sps.length (q+1)) (fun k9 j9 hk9 hj9=>Xm (q:=(y.us.getD (l.getD q aFh).unit.toNat aFg).kind.toNat) ⟨by omega,hc6⟩ (show tkK y l q=_ by unfold tkK;omega) rfl k9 j9 hj9);replace H:=H.keep [0,1,6,7,8,11,12,15,23,24,50,51,52] rfl;refine sO H<|sr 2 G<|sg 4 1 81 85 false G G (fun hg2=>sy hg2<|sr 1 G<|sy hg2<|sd (cR Tryz.underlying224 aX G G (by omega) (by omega))<|sy hg2<|slm aD rfl (aEk S (i:=1) (k:=(y.us.getD (l.getD q aFh).unit.toNat aFg).kind.toNat) (j:=0) rfl (by omega) (by omega))<|sy hg2<|sr 1 G<|sz 4 G G G)<|so G G G<|sr 1 G<|sE ?_;clear H a;intro a H
    refine k28 _ _ ?_;replace H:=H.keep [0,1,6,7,8,11,12,23,24,50,51,52] rfl;refine sO H<|sd (aI G G (by unfold i64ok;omega))<|sr 1 G<|sE ?_;clear H a;intro a H
    exact k25 (g3-1) (q+1,_,_) a _ (by omega) (⟨⟨by omega,by omega⟩,Sq hjb9 (by omega),aBx (q:=(y.us.getD (l.getD q aFh).unit.toNat aFg).kind.toNat) hsh9 ⟨by omega,hc6⟩ (show tkK y l q=_ by unfold tkK;omega) rfl⟩) (S.sel [1,2,3,4,5,6] G G) (H.keep [11,12,52,0,1,6,7,8,23,24,50,51] rfl)
   skip
   refine wp_skip ?_;refine k28 _ _ ?_;refine sO H<|sd (aI G G (by unfold i64ok;omega))<|sr 1 G<|sE ?_;clear H a;intro a H
   rw [Dv (fun h=>hc6 h.2)] at S;exact k25 (g3-1) (q+1,_,_) a _ (by omega) (⟨⟨by omega,by omega⟩,Sq hjb9 (by omega),Zn hsh9 (fun h=>hc6 h.2)⟩) (S.sel [1,2,3,4,5,6] G G) (H.keep [11,12,52,0,1,6,7,8,23,24,50,51] rfl)
  refine wp_exit ?_;refine k23 _ _ ?_;refine wp_block ?_;obtain rfl:q=l.length:=by omega
  subst hjb9;subst hsh9;replace H:=H.keep [0,1,6,7,8,11,12,23,24] rfl;refine sS H fun K40 k40=>sr 3 G<|sf dJ rfl<|sf zO rfl<|sl S 2 aD G G G<|sr 2 G<|sE ?_;intro a H
  refine k40 _ ?_;refine condL H rfl (fun hc7=>?_) (fun hc7=>?_)
  ·skip
   replace H:=H.keep [8] rfl;refine sS H fun K41 k41=>sr 3 G<|sE ?_;intro a H
   refine k41 _ ?_;refine wp_ret ?_;refine ret2 (fn:=Tryz.f74) rfl H G G ?_;rw [rD (show d<y.days.toNat by omega) hfl (by rw [Jc (by omega)];decide),Jc (by omega)];exact ⟨rfl,(S.sel [2,3,4,5] G G)⟩
  refine sS H fun K42 k42=>sr 2 G<|sE ?_;intro a H
  refine k42 _ ?_;refine cond_ H rfl (fun hc8=>?_) (fun hc8=>?_)
  ·skip
   try simp only [oz] at hc8
   refine sS H fun K43 k43=>sr 3 G<|sE ?_;intro a H
   refine k43 _ ?_;refine wp_ret ?_;refine ret2 (fn:=Tryz.f74) rfl H G G ?_;rw [rD (show d<y.days.toNat by omega) hfl (by rw [Jd (by omega) hc8];decide),Jd (by omega) hc8];exact ⟨rfl,(S.sel [2,3,4,5] G G)⟩
  try simp only [oz] at hc8
  replace H:=H.keep [0,1,6,7,8,23,24] rfl;refine seq_list fun K44 k44=>?_
  refine ls 6 H<|sr 4 G<|si aP aX G G (aEj S (i:=1) rfl (by omega)) (by omega)<|slm aD rfl (aEk S (i:=1) (k:=d) (j:=0) rfl (by omega) (by omega))<|sE ?_;intro a H
  refine aA H G G Tryz.func114 G G (Ni y cb bl bs bk (d:Int) (outY y l d y.us.length) _ _ ((S.sel [2,3,4,5] G G).startR) (hy.nowR (S.sel [2,3,4,5] G G)) hyb hok (uC hok (Nat.le_refl _))) ?_;clear H a
  rintro _ _ a ⟨rfl,S2⟩ H;replace S:=St.callR (M:=[_,_,_,_]) (S.sel [2,3,4,5,0,1] rfl rfl) S2;clear S2;refine ls 2 H<|sr 2 G<|sE ?_;intro a H
  refine k44 _ _ ?_;refine cond_ H rfl (fun hc9=>?_) (fun hc9=>?_)
  ·skip
   try simp only [oz] at hc9
   replace H:=H.keep [8] rfl;refine sS H fun K45 k45=>sr 3 G<|sE ?_;intro a H
   refine k45 _ ?_;refine wp_ret ?_;refine ret2 (fn:=Tryz.f74) rfl H G G ?_;rw [rD (show d<y.days.toNat by omega) hfl (by rw [Je (by omega) hc8 hc9];decide),Je (by omega) hc8 hc9];exact ⟨rfl,(S.sel [0,1,2,3] G G)⟩
  try simp only [oz] at hc9
  replace H:=H.keep [0,1,6,7,8,23,24] rfl;refine seq_list fun K46 k46=>?_
  refine ls 5 H<|sr 3 G<|si aP aX G G (aEj S (i:=5) rfl (by omega)) (by omega)<|slm aD rfl (aEk S (i:=5) (k:=d) (j:=0) rfl (by omega) (by omega))<|sE ?_;intro a H
  refine aA H G G Tryz.func115 G G (Hb y cb bl bs bk (outY y l d y.us.length) _ _ ((S.sel [0,1,2,3] G G).startR) (hy.nowR (S.sel [0,1,2,3] G G)) hyb hok (uC hok (Nat.le_refl _))) ?_;clear H a
  rintro _ _ a ⟨rfl,S2⟩ H;replace S:=St.callR (M:=[_,_,_,_]) (S.sel [0,1,2,3,4,5] rfl rfl) S2;clear S2;refine ls 2 H<|sr 2 G<|sE ?_;intro a H
  refine k46 _ _ ?_;refine cond_ H rfl (fun hc10=>?_) (fun hc10=>?_)
  ·skip
   try simp only [oz] at hc10
   replace H:=H.keep [8] rfl;refine sS H fun K47 k47=>sr 3 G<|sE ?_;intro a H
   refine k47 _ ?_;refine wp_ret ?_;refine ret2 (fn:=Tryz.f74) rfl H G G ?_;rw [rD (show d<y.days.toNat by omega) hfl (by rw [Jf (by omega) hc8 hc9 hc10];decide),Jf (by omega) hc8 hc9 hc10];exact ⟨rfl,(S.sel [0,1,2,3] G G)⟩
  try simp only [oz] at hc10
  refine wp_skip ?_;refine k9 _ _ ?_;refine sO H<|sd (aI G G (by unfold i64ok;omega))<|sr 1 G<|sE ?_;intro a H
  rw [Mp] at S;exact k6 (g1-1) (d+1) a _ (by omega) (⟨⟨by omega,by omega⟩,Sr hfl (Jg (by omega) hc8 hc9 hc10)⟩) (S.sel [4,5,0,1,2,3] G G) (H.keep [24,0,1,6,7,23] rfl)
 refine wp_exit ?_;refine k4 _ _ ?_;refine sS H fun K49 k49=>sr 2 G<|sE ?_;intro a H
 refine k49 _ ?_;refine wp_ret ?_;refine ret2 (fn:=Tryz.f74) rfl H G G ?_;rw [wU (fun q hq=>hfl q (by omega))];exact ⟨rfl,(S.sel [2,3,4,5] G G)⟩
theorem Tq (y:Yr) (l:List Tsk) (LA:Option Addr) (lc:Nat) (w:World) (hy:YIn w noF y) (hyb:YBd y) (hl:InS w noF 3 LA l.length (cD l)) (hln:l.length≤9223372036854775807) :
    Calls Tryz.prog 30 [.agg [.int .i64 y.days,.int .i64 y.pl,.slice y.PA y.ps.length y.pc,.slice y.XA y.xs.length y.xc,.slice y.BA y.pe.length y.bc,.int .i64 y.limit,.bool y.help,.slice y.QA y.prs.length y.qc,.slice y.VA y.us.length y.vc,.int .i64 y.crew,.slice y.SA y.sps.length y.sc].toArray,.slice LA l.length lc].toArray w (Ret (fun v w'=>(taskE y l≠0∧v = .tuple #[.int .i64 0,.int .i64 0,.int .i64 (taskE y l)]∧St w noF [] w')∨(taskE y l=0∧v = .tuple #[.int .i64 (fL y l).1,.int .i64 (fL y l).2,.int .i64 0]∧St w noF [] w'))):=by
 refine enter Tryz.func30 rfl Tryz.ntmps30 rfl (fun a H=>?_)
 have S:=St.start w
 refine seq_list fun K1 k1=>?_
 refine aO H rfl S G G ?_;intro b2 _ a hb2 hbw2 S H
 refine ls 3 H<|sr 3 G<|sE ?_;intro a H
 refine k1 _ _ ?_;refine wp_seq_k fun K2 k2=>?_
 refine seq_list fun K3 k3=>?_
 refine ls 2 H<|sd ((aB gZ jR rfl S (i:=0) G G))<|sr 1 G<|sE ?_;intro a H
 refine aA H G G Tryz.func39 G G (Ef y l LA lc _ (hy.now S) hyb (hl.now S) hln) ?_;clear H a
 rintro _ _ a ⟨rfl,S2⟩ H;replace S:=S.call S2;clear S2;refine ls 1 H<|sr 1 G<|sE ?_;intro a H
 refine k3 _ _ ?_;replace H:=H.keep [1,2,6] rfl;refine sS H fun K4 k4=>sr 2 G<|sE ?_;intro a H
 refine k4 _ ?_;refine condN H rfl (fun hc1=>?_) (fun hc1=>?_)
 ·skip
  refine sS H fun K5 k5=>sr 4 G<|sE ?_;intro a H
  refine k5 _ ?_;refine wp_ret ?_;refine ret3 (fn:=Tryz.f30) rfl H G G G ?_;exact .inl ⟨hc1,rfl,(S.sel [] G G)⟩
 have hte:taskE y l=0:=by omega
 have htk0:=Bb hte
 have hok:=qY htk0.1
 have htk:∀ k,k<l.length→tskI y (l.getD k aFh):=fun k hk=>Sc (htk0.2.2 k hk)
 refine wp_skip ?_;refine k2 _ _ ?_;replace H:=H.keep [1,2] rfl;refine seq_list fun K6 k6=>?_
 refine ls 1 H<|sd ((aB gZ jR rfl S (i:=0) G G))<|sE ?_;intro a H
 refine aA H G G Tryz.func40 G G (Jl y _) ?_;clear H a
 rintro _ _ a ⟨cb,bl,bs,bk,rfl,S2⟩ H;replace S:=S.call S2;clear S2;refine ls 1 H<|sr 1 G<|sE ?_;intro a H
 refine aA H G G Tryz.func74 G G (sM y cb bl bs bk l LA lc _ _ ((S.sel [0,1,2,3] G G).startR) (hy.nowR (S.sel [0,1,2,3] G G)) hyb hok (hl.nowR (S.sel [0,1,2,3] G G)) hln htk htk0.2.1) ?_;clear H a
 rintro _ _ a ⟨rfl,S2⟩ H;replace S:=St.callR (M:=[_,_,_,_]) (S.sel [0,1,2,3,4] rfl rfl) S2;clear S2;refine ls 5 H<|sr 5 G<|sE ?_;intro a H
 refine k6 _ _ ?_;replace H:=H.keep [4,5] rfl;refine sS H fun K7 k7=>sr 5 G<|sE ?_;intro a H
 refine k7 _ ?_;refine wp_ret ?_;refine ret3 (fn:=Tryz.f30) rfl H G G G ?_;exact .inr ⟨hte,rfl,(S.sel [] G G)⟩
end
section
def aEg (a b:Int×Int):Prop:=b.1≤a.1∧a.2≤b.2
def aEd (day turns cls:Int):Use:=⟨day,turns,cls,false,0,0⟩
end
section
def exPt:Part:=⟨[(1,2)],1,1000000,1000⟩
def exU0 (RA:Option Addr) (rc:Nat):Unt:=⟨0,2,0,[(1,2)],RA,rc,1,1000000,1000,[],none,0,0,400000,0,0⟩
section
variable {PA:Option Addr} {pc:Nat} {XA:Option Addr} {xc:Nat} {BA:Option Addr} {bc:Nat} {QA:Option Addr} {qc:Nat} {VA:Option Addr} {vc:Nat} {RA:Option Addr} {rc:Nat}
end
def us1 (d:Int) (t:Int):Use:=⟨d,t,0,false,0,0⟩
section
variable {RA:Option Addr} {rc:Nat} {J:Nat→Int}
end
end
section
section
variable {PA:Option Addr} {pc:Nat} {XA:Option Addr} {xc:Nat} {BA:Option Addr} {bc:Nat} {QA:Option Addr} {qc:Nat} {VA:Option Addr} {vc:Nat} {RA:Option Addr} {rc:Nat}
end
end
section
inductive Xt where
 | nil
 | q (i:Nat) (t:Xt)
 | p (i:Nat) (t:Xt)
 | e (i:Nat) (t:Xt)
 | b2 (i:Nat) (t:Xt) (j:Nat) (u:Xt)
 | b3 (i:Nat) (t:Xt) (j:Nat) (u:Xt) (k:Nat) (v:Xt)
 | b4 (i:Nat) (t:Xt) (j:Nat) (u:Xt) (k:Nat) (v:Xt) (m:Nat) (x:Xt)
section
variable {P:Program} {ops:Array Oper} {C:World→Prop} {Qn:Act→World→Prop}
def xt (P:Program) (ops:Array Oper) (C:World→Prop) (z:Nat) (Qn:Act→World→Prop):Xt→Act→World→Prop
 | .nil,a,w=>Qn a w
 | .q i t,a,w=>∃ o v,ops[i]?=some o∧Yd P ops C o v a∧xt P ops C z Qn t (a.put o.dst v) w
 | .p i t,a,w=>∃ o v,ops[i]?=some o∧Yd P ops (fun _=>True) o v a∧xt P ops C z Qn t (a.put o.dst v) w
 | .e i t,a,w=>wpOp P ops NoQ i (fun a' w'=>(i=z∨C w')∧xt P ops C z Qn t a' w') a w
 | .b2 i t j u,a,w=>wpOp P ops NoQ i (fun a' w'=>(i=z∨C w')∧xt P ops C z Qn t a' w') a w∧wpOp P ops NoQ j (fun a' w'=>(j=z∨C w')∧xt P ops C z Qn u a' w') a w
 | .b3 i t j u k v,a,w=>wpOp P ops NoQ i (fun a' w'=>(i=z∨C w')∧xt P ops C z Qn t a' w') a w∧wpOp P ops NoQ j (fun a' w'=>(j=z∨C w')∧xt P ops C z Qn u a' w') a w∧wpOp P ops NoQ k (fun a' w'=>(k=z∨C w')∧xt P ops C z Qn v a' w') a w
 | .b4 i t j u k v m x,a,w=>wpOp P ops NoQ i (fun a' w'=>(i=z∨C w')∧xt P ops C z Qn t a' w') a w∧wpOp P ops NoQ j (fun a' w'=>(j=z∨C w')∧xt P ops C z Qn u a' w') a w∧wpOp P ops NoQ k (fun a' w'=>(k=z∨C w')∧xt P ops C z Qn v a' w') a w∧wpOp P ops NoQ m (fun a' w'=>(m=z∨C w')∧xt P ops C z Qn x a' w') a w
end
section
variable {P:Program} {w w0:World} {F0:Nat→Prop} {R RE:List Mem} {Q:Exit→Act→World→Prop} {Qn:Act→World→Prop} {l:List Oper} {N:FN} {L:List (Nat×Value)} {a:Act} {ty:TypeId} {pos:String} {af:Array Edge} {op:Op} {y:Code} {id z:Nat} {ops:Array Oper} {π t u v3:Xt}
end
end
section
section
variable {w:World} {F:Nat→Prop} {PA:Option Addr} {pc:Nat} {XA:Option Addr} {xc:Nat} {BA:Option Addr} {bc:Nat} {QA:Option Addr} {qc:Nat} {VA:Option Addr} {vc:Nat} {RA:Option Addr} {rc:Nat}
end
end
section
section
variable {pl T0:Int} {ps:List Psg} {xs pe:List Int}
end
end
section
section
variable {y:Yr} {l:List Tsk} {u:Int} {i:Nat}
end
end
section
section
variable {y:Yr} {l r:List Tsk} {a b c t:Tsk} {d D k n:Nat}
def inR (y:Yr) (t:Tsk):Prop:=(0≤t.day∧t.day≤y.days-1)∧(0≤t.unit∧t.unit≤(y.us.length:Int)-1)∧(1≤t.kind∧t.kind≤2)
end
end
section
def ohS (l:List Tsk) (d:Nat):Nat→Int
 | 0=>0
 | n+1=>ohS l d n+if (l.getD n aFh).day=(d:Int)∧(l.getD n aFh).kind=2 then 1 else 0
section
variable {y:Yr} {l:List Tsk} {d k n:Nat}
theorem aCe:∀ n,shS y l d n=true→0<ohS l d n:=by
  have nn:∀ n,0≤ohS l d n:=fun n=>by
    induction n with
    | zero=>exact Int.le_refl 0
    | succ n ih=>rw [ohS];split <;> omega
  intro n;induction n with
  | zero=>intro h;cases h
  | succ n ih=>
    intro h;rw [shS,Bool.or_eq_true,Bool.and_eq_true,decide_eq_true_eq] at h;have h0:=nn n;rw [ohS];rcases h with h|h
    · have:=ih h;split <;> omega
    · rw [if_pos h.1];omega
end
end
section
section
variable {y:Yr} {l r:List Tsk} {d D k n J:Nat} {t:Tsk}
end
end
section
section
variable {y:Yr} {l:List Tsk} {d i k n:Nat} {t:Tsk} {out:Int} {mu:List Nat}
end
end
section
section
variable {y:Yr} {l:List Tsk} {d u:Nat} {f:Nat→Bool} {n i:Nat}
end
end
section
def Unt.bare (u:Unt):Unt:={ u with RA:=none,rc:=0,UA:=none,uc:=0 }
structure Yr.Eqv (y z:Yr):Prop where
 days:z.days=y.days
 pl:z.pl=y.pl
 ps:z.ps=y.ps
 xs:z.xs=y.xs
 pe:z.pe=y.pe
 limit:z.limit=y.limit
 help:z.help=y.help
 prs:z.prs=y.prs
 crew:z.crew=y.crew
 sps:z.sps=y.sps
 len:z.us.length=y.us.length
 un:∀ k,(z.us.getD k aFg).bare=(y.us.getD k aFg).bare
section
variable {y z:Yr} {l:List Tsk} {i d k n:Nat} {u:Unt} {J:Nat→Int}
end
end
section
section
variable {P:Program} {ops:Array Oper} {w w0:World} {F0 F:Nat→Prop} {R:List Mem} {Q:Exit→Act→World→Prop} {rest:List Oper} {N:FN} {L:List (Nat×Value)} {a:Act} {ty:TypeId} {pos:String} {af:Array Edge} {dd:Option Nat} {g:Option (Nat×Bool)}
end
end
end Go.Proofs.YtinghmelkmblmaaGreat
