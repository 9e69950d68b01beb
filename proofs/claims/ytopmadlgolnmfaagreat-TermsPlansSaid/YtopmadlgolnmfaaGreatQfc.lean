/- Part 3 of the proof. -/
import Derived.Test.YtopmadlgolnmfaaGreatQfb
namespace Go.Proofs.YtopmadlgolnmfaaGreat
open Go.RowKit
set_option linter.unusedVariables false
set_option linter.unusedSimpArgs false
set_option maxRecDepth 100000
set_option maxHeartbeats 4000000
section
def Worn (w:World) (p:Part) (l:List Use) (v:Value) (w':World):Prop:=
 (IsAt p l l.length∧∃ A' c',v = .tuple #[.slice A' l.length c',.bool true]∧St w noF [ownM 79 2 A' l.length c' (fcell (bJ p l))] w')∨(¬ IsAt p l l.length∧v = .tuple #[.slice none 0 0,.bool false]∧St w noF [] w')
theorem xO (rates:List (Int×Int)) (pwn ptn pag:Int) (RA:Option Addr) (rcp:Nat) (l:List Use) (A:Option Addr) (cp:Nat) (w:World) (hr:InS w noF 2 RA rates.length (scell rates)) (hrn:rates.length≤9223372036854775807) (hl:InS w noF 6 A l.length (ucell l)) (hn:l.length≤9223372036854775807) (hok:PartOk (⟨rates,pwn,ptn,pag⟩:Part) l) :
    Calls Tryz.prog 82 [.agg [.slice RA rates.length rcp,.int .i64 pwn,.int .i64 ptn,.int .i64 pag].toArray,.slice A l.length cp].toArray w (Ret (Worn w (⟨rates,pwn,ptn,pag⟩:Part) l)):=by
 refine enter Tryz.func82 rfl Tryz.ntmps82 rfl (fun a H=>?_)
 have S:=St.start w
 refine aA fun K1 k1=>?_
 refine aO H rfl S G G ?_;intro b2 _ a hb2 hbw2 S H
 refine ls 2 H<|sr 2 G<|sE ?_;intro a H
 refine k1 _ _ ?_;by_cases hA:IsAt (⟨rates,pwn,ptn,pag⟩:Part) l l.length
 ·skip
  replace H:=H.keep [1,2] rfl;refine aA fun K2 k2=>?_
  refine ls 2 H<|sd ((aD dJ eE rfl S (i:=0) G G))<|sr 1 G<|sE ?_;intro a H
  refine aB H G G Tryz.func98 G G (eD (uI rates pwn ptn pag RA rcp l A cp _ (hr.now S) hrn (hl.now S) hn hok) (fun _ _ ⟨n,A',c',h1,h2,h3⟩=>(⟨A',c',by rw [h1.same hA] at h2;exact h2,by rw [h1.same hA] at h3;exact h3⟩:∃ A' c',_∧_))) ?_;clear H a
  rintro _ _ a ⟨A',c',rfl,S2⟩ H;replace S:=S.call S2;clear S2;refine ls 5 H<|sr 5 G<|sE ?_;intro a H
  refine k2 _ _ ?_;refine wp_seq_k fun K3 k3=>?_
  try have hnl:=hn1.le
  replace H:=H.keep [1,2,6,7] rfl;refine sS H fun K4 k4=>sr 2 G<|sL cJ rfl<|sr 1 G<|sE ?_;intro a H
  refine k4 _ ?_;refine condL H rfl (fun hc1=>?_) (fun hc1=>?_)
  ·skip
   all_goals (exfalso;omega)
  refine wp_skip ?_;refine k3 _ _ ?_;refine wp_seq_k fun K5 k5=>?_
  refine sS H fun K6 k6=>sr 1 G<|sL cJ rfl<|sd (aS G G (by unfold i64ok;omega))<|sr 1 G<|sE ?_;intro a H
  refine k6 _ ?_;refine wp_block ?_;have hll:=hok.len
  replace S:=S.recell (i:=0) rfl (cell':=fcell (fun q=>if (l.length:Int)-2<((q:Nat):Int) then bJ (⟨rates,pwn,ptn,pag⟩:Part) l q else fwd (⟨rates,pwn,ptn,pag⟩:Part) l (q+1))) (fun q j hq hj=>by
    unfold fcell;congr 1;(try dsimp only);by_cases h1:(l.length:Int)-2<((q:Nat):Int)
    · rw [if_pos h1,lL (show q+1=l.length by omega),show q+1=l.length by omega]
    · rw [if_neg h1])
  refine loop_st (X:=Int) (R0:=_) [1,2,6] H rfl (fun i=>[(8,.int .i64 i)]) (fun i=>[ownM 79 2 A' l.length c' (fcell (fun q=>if i<((q:Nat):Int) then bJ (⟨rates,pwn,ptn,pag⟩:Part) l q else fwd (⟨rates,pwn,ptn,pag⟩:Part) l (q+1)))]) (fun g i => -2≤i∧i≤(l.length:Int)-2∧g=(i+2).toNat) (l.length) ((l.length:Int)-2) ?_ (S.sel [0,1] G G) (H.keep [8,1,2,6] rfl) ?_
  · exact ⟨by omega,by omega,by omega⟩
  clear H S a;intro g1 x1 a w1 hp S H K7 k7;obtain ⟨i,rfl⟩:∃ y,y=x1:=⟨_,rfl⟩;refine wp_seq_k fun K8 k8=>?_
  refine sS H fun K9 k9=>sr 2 G<|sE ?_;intro a H
  refine k9 _ ?_;refine condG H rfl (fun hc2=>?_) (fun hc2=>?_)
  ·skip
   refine wp_skip ?_;refine k8 _ _ ?_;refine wp_seq_k fun K10 k10=>?_
   refine wp_block ?_;have hu:=hok.use (k:=(i+1).toNat) (by omega);unfold useOk at hu;simp only [decide_eq_true_eq] at hu;have hgb:=lA hok (k:=(i+1).toNat) (by omega)
   have hcls:0≤(l.getD (i+1).toNat aJm).cls∧(l.getD (i+1).toNat aJm).cls<rates.length:=by
     have:((⟨rates,pwn,ptn,pag⟩:Part).rates.length:Int)=rates.length:=rfl
     omega
   have hll:=hok.len
   replace H:=H.keep [1,2,6,8] rfl;replace S:=S.drew;refine lQ 999999 (.q 0 (.q 1 (.q 2 (.q 3 (.q 4 (.q 5 (.q 7 (.q 8 (.q 9 (.q 10 (.q 11 (.b3 6 (.b2 12 (.e 13 (.e 14 (.e 15 .nil))) 13 (.e 12 (.e 14 (.e 15 .nil)))) 12 (.b2 6 (.e 13 (.e 14 (.e 15 .nil))) 13 (.e 6 (.e 14 (.e 15 .nil)))) 13 (.b2 6 (.e 12 (.e 14 (.e 15 .nil))) 12 (.e 6 (.e 14 (.e 15 .nil)))))))))))))))) (by kernel_rfl) (by kernel_rfl) (S.sel [0,1] G G) fun K11 k11=>?_
   refine aG H G G (fun _ S=>(aD dJ eE rfl S (i:=1) G G)) ?_;intro a H
   refine aG H G G (fun _ S=>aJ rfl) ?_;intro a H
   refine aG H G G (fun _ S=>aJ rfl) ?_;intro a H
   refine aG H G G (fun _ S=>aH G G (by unfold i64ok;omega)) ?_;intro a H
   refine aG H G G (fun _ S=>bU cJ bZ G G (hl.adr (by omega)) (by omega) (by omega)) ?_;intro a H
   refine aG H G G (fun _ S=>(aV jR bZ rfl S hl (by omega) (by omega))) ?_;intro a H
   refine aG H G G (fun _ S=>aJ rfl) ?_;intro a H
   refine aG H G G (fun _ S=>aJ rfl) ?_;intro a H
   refine aG H G G (fun _ S=>aH G G (by unfold i64ok;omega)) ?_;intro a H
   refine aG H G G (fun _ S=>bU dB bE G G (aIp S (i:=0) rfl (by omega)) (by omega) (by omega)) ?_;intro a H
   refine aG H G G (fun _ S=>eG (vs:=[.int .i64 (bJ (⟨rates,pwn,ptn,pag⟩:Part) l (i+1).toNat).1,.int .i64 (bJ (⟨rates,pwn,ptn,pag⟩:Part) l (i+1).toNat).2]) eO bE rfl (nH S (i:=0) rfl (by omega) (if_pos (by omega)))) ?_;intro a H
   refine aGv G G G ?_ ?_ ?_
   ·skip
    refine aB H G G Tryz.func99 G G (iJ rates pwn ptn pag RA rcp (l.getD (i+1).toNat aJm) _ (hr.now S) hrn hcls (by unfold i64ok;omega) (by unfold i64ok;omega)) ?_;clear H a
    rintro _ _ a ⟨rfl,S2⟩ H;replace S:=S.call S2;clear S2;refine wpList_nil (And.intro (Or.inr (S.sel [0,1] rfl rfl)) ?_);refine nR rfl rfl ?_ ?_
    ·skip
     refine aM H rfl S eY ?_;intro b9 _ a hb9 hbw9 S H
     refine wpList_nil (And.intro (Or.inr (S.sel [1,2] rfl rfl)) ?_);refine bA rfl ?_;refine aM H rfl S eY ?_;intro b10 _ a hb10 hbw10 S H;refine wpList_nil (And.intro (Or.inr (S.sel [2,3] rfl rfl)) ?_);refine bA rfl ?_;refine aI H S (i:=1) rfl rfl rfl rfl bE rfl rfl ?_;clear H a S;intro _ a S H;refine wpList_nil (And.intro (Or.inr (S.sel [2,3] rfl rfl)) ?_);refine bA rfl ?_;refine aI H S (i:=0) rfl rfl rfl rfl bE rfl rfl ?_;clear H a S;intro _ a S H;refine wpList_nil (And.intro (Or.inr (S.sel [2,3] rfl rfl)) ?_);refine dI ?_;refine k11 _ _ ?_;have hbw:=jJ hok (k:=(i+1).toNat) (by omega);replace H:=H.keep [1,2,6,8,9,10] rfl;replace S:=S.drew;refine kR 22 (.q 0 (.q 1 (.q 2 (.q 3 (.q 4 (.q 5 (.q 6 (.q 7 (.q 8 (.q 9 (.q 10 (.q 11 (.q 12 (.q 13 (.q 14 (.q 15 (.q 16 (.e 17 (.q 18 (.q 19 (.p 20 (.q 21 (.e 22 .nil))))))))))))))))))))))) (by kernel_rfl) (by kernel_rfl) (S.sel [0,1,2,3] rfl rfl) ?_;refine aG H rfl rfl (fun _ S=>aJ rfl) ?_;intro a H;refine aG H rfl rfl (fun _ S=>aJ rfl) ?_;intro a H;refine aG H rfl rfl (fun _ S=>aJ rfl) ?_;intro a H;refine aG H rfl rfl (fun _ S=>aJ rfl) ?_;intro a H;refine aG H rfl rfl (fun _ S=>bU dB bE rfl rfl (aIp S (i:=2) rfl (by omega)) (by omega) (by omega)) ?_;intro a H;refine aG H rfl rfl (fun _ S=>eG (vs:=[.int .i64 (fwd (⟨rates,pwn,ptn,pag⟩:Part) l (i.toNat+1)).1,.int .i64 (fwd (⟨rates,pwn,ptn,pag⟩:Part) l (i.toNat+1)).2]) eO bE rfl (nH S (i:=2) rfl (by omega) (if_neg (by omega)))) ?_;intro a H;refine aG H rfl rfl (fun _ S=>(aF cH rfl)) ?_;intro a H;refine aG H rfl rfl (fun _ S=>aE aC rfl (aIo S (i:=0) rfl rfl)) ?_;intro a H;refine aG H rfl rfl (fun _ S=>(aF cA rfl)) ?_;intro a H;refine aG H rfl rfl (fun _ S=>aE aC rfl (aIo S (i:=1) rfl rfl)) ?_;intro a H;refine aG H rfl rfl (fun _ S=>aS rfl rfl (by unfold i64ok;omega)) ?_;intro a H;refine aG H rfl rfl (fun _ S=>(aF cA rfl)) ?_;intro a H;refine aG H rfl rfl (fun _ S=>aE aC rfl (aIo S (i:=0) rfl rfl)) ?_;intro a H;refine aG H rfl rfl (fun _ S=>(aF cH rfl)) ?_;intro a H;refine aG H rfl rfl (fun _ S=>aE aC rfl (aIo S (i:=1) rfl rfl)) ?_;intro a H;refine aG H rfl rfl (fun _ S=>aS rfl rfl (by unfold i64ok;omega)) ?_;intro a H;refine aG H rfl rfl (fun _ S=>aN kX rfl rfl) ?_;intro a H;refine bA rfl ?_;refine aB H rfl rfl Tryz.func100 rfl rfl (iH (fwd (⟨rates,pwn,ptn,pag⟩:Part) l (i.toNat+1)).1 (fwd (⟨rates,pwn,ptn,pag⟩:Part) l (i.toNat+1)).2 _ _ _) ?_;clear H a;rintro _ _ a ⟨rfl,S2⟩ H;replace S:=S.call S2;clear S2;refine wpList_nil (And.intro (Or.inr (S.sel [0,1,2,3] rfl rfl)) ?_);refine aG H rfl rfl (fun _ S=>aJ rfl) ?_;intro a H;refine aG H rfl rfl (fun _ S=>bN rfl rfl) ?_;intro a H;refine aR H rfl rfl (fun _=>bN rfl rfl) ?_;intro a H;refine aG H rfl rfl (fun _ S=>bU dB bE rfl rfl (aIp S (i:=2) rfl (by omega)) (by omega) (by omega)) ?_;intro a H;refine bA rfl ?_;refine fI H S (i:=2) (kk:=i.toNat) rfl rfl rfl (by omega) bE ?_;clear H a S;intro _ a S H;have e9:=eK (p:=(⟨rates,pwn,ptn,pag⟩:Part)) (l:=l) (k:=i.toNat) (by omega);have e8:i.toNat+1=(i+1).toNat:=by omega
     rw [e8] at e9
     replace S:=S.recell (i:=2) rfl (cell':=fcell (fun q=>if i-1<((q:Nat):Int) then bJ (⟨rates,pwn,ptn,pag⟩:Part) l q else fwd (⟨rates,pwn,ptn,pag⟩:Part) l (q+1))) (fun q j hq hj=>by
       unfold fcell;congr 1;(try dsimp only);by_cases h1:q=i.toNat
       · subst h1;rw [if_pos rfl,if_pos (by omega),e9,e8]
       · rw [if_neg h1];by_cases h2:i<(q:Int)
         · rw [if_pos h2,if_pos (by omega)]
         · rw [if_neg h2,if_neg (by omega)])
     refine wpList_nil (And.intro (Or.inl rfl) ?_);refine dI ?_;refine k10 _ _ ?_;replace H:=H.keep [1,2,6,8] rfl;refine sO H<|sr 1 G<|sd (aS G G (by unfold i64ok;omega))<|sr 1 G<|sE ?_;intro a H
     exact k7 (g1-1) (i-1) a _ (by omega) (⟨by omega,by omega,by omega⟩) (S.sel [2,3] G G) (H.keep [8,1,2,6] rfl)
    ·skip
     refine aM H rfl S eY ?_;intro b10 _ a hb10 hbw10 S H
     refine wpList_nil (And.intro (Or.inr (S.sel [1,2] rfl rfl)) ?_);refine bA rfl ?_;refine aM H rfl S eY ?_;intro b9 _ a hb9 hbw9 S H;refine wpList_nil (And.intro (Or.inr (S.sel [2,3] rfl rfl)) ?_);refine bA rfl ?_;refine aI H S (i:=0) rfl rfl rfl rfl bE rfl rfl ?_;clear H a S;intro _ a S H;refine wpList_nil (And.intro (Or.inr (S.sel [2,3] rfl rfl)) ?_);refine bA rfl ?_;refine aI H S (i:=1) rfl rfl rfl rfl bE rfl rfl ?_;clear H a S;intro _ a S H;refine wpList_nil (And.intro (Or.inr (S.sel [2,3] rfl rfl)) ?_);refine dI ?_;refine k11 _ _ ?_;have hbw:=jJ hok (k:=(i+1).toNat) (by omega);replace H:=H.keep [1,2,6,8,9,10] rfl;replace S:=S.drew;refine kR 22 (.q 0 (.q 1 (.q 2 (.q 3 (.q 4 (.q 5 (.q 6 (.q 7 (.q 8 (.q 9 (.q 10 (.q 11 (.q 12 (.q 13 (.q 14 (.q 15 (.q 16 (.e 17 (.q 18 (.q 19 (.p 20 (.q 21 (.e 22 .nil))))))))))))))))))))))) (by kernel_rfl) (by kernel_rfl) (S.sel [0,1,2,3] rfl rfl) ?_;refine aG H rfl rfl (fun _ S=>aJ rfl) ?_;intro a H;refine aG H rfl rfl (fun _ S=>aJ rfl) ?_;intro a H;refine aG H rfl rfl (fun _ S=>aJ rfl) ?_;intro a H;refine aG H rfl rfl (fun _ S=>aJ rfl) ?_;intro a H;refine aG H rfl rfl (fun _ S=>bU dB bE rfl rfl (aIp S (i:=2) rfl (by omega)) (by omega) (by omega)) ?_;intro a H;refine aG H rfl rfl (fun _ S=>eG (vs:=[.int .i64 (fwd (⟨rates,pwn,ptn,pag⟩:Part) l (i.toNat+1)).1,.int .i64 (fwd (⟨rates,pwn,ptn,pag⟩:Part) l (i.toNat+1)).2]) eO bE rfl (nH S (i:=2) rfl (by omega) (if_neg (by omega)))) ?_;intro a H;refine aG H rfl rfl (fun _ S=>(aF cH rfl)) ?_;intro a H;refine aG H rfl rfl (fun _ S=>aE aC rfl (aIo S (i:=1) rfl rfl)) ?_;intro a H;refine aG H rfl rfl (fun _ S=>(aF cA rfl)) ?_;intro a H;refine aG H rfl rfl (fun _ S=>aE aC rfl (aIo S (i:=0) rfl rfl)) ?_;intro a H;refine aG H rfl rfl (fun _ S=>aS rfl rfl (by unfold i64ok;omega)) ?_;intro a H;refine aG H rfl rfl (fun _ S=>(aF cA rfl)) ?_;intro a H;refine aG H rfl rfl (fun _ S=>aE aC rfl (aIo S (i:=1) rfl rfl)) ?_;intro a H;refine aG H rfl rfl (fun _ S=>(aF cH rfl)) ?_;intro a H;refine aG H rfl rfl (fun _ S=>aE aC rfl (aIo S (i:=0) rfl rfl)) ?_;intro a H;refine aG H rfl rfl (fun _ S=>aS rfl rfl (by unfold i64ok;omega)) ?_;intro a H;refine aG H rfl rfl (fun _ S=>aN kX rfl rfl) ?_;intro a H;refine bA rfl ?_;refine aB H rfl rfl Tryz.func100 rfl rfl (iH (fwd (⟨rates,pwn,ptn,pag⟩:Part) l (i.toNat+1)).1 (fwd (⟨rates,pwn,ptn,pag⟩:Part) l (i.toNat+1)).2 _ _ _) ?_;clear H a;rintro _ _ a ⟨rfl,S2⟩ H;replace S:=S.call S2;clear S2;refine wpList_nil (And.intro (Or.inr (S.sel [0,1,2,3] rfl rfl)) ?_);refine aG H rfl rfl (fun _ S=>aJ rfl) ?_;intro a H;refine aG H rfl rfl (fun _ S=>bN rfl rfl) ?_;intro a H;refine aR H rfl rfl (fun _=>bN rfl rfl) ?_;intro a H;refine aG H rfl rfl (fun _ S=>bU dB bE rfl rfl (aIp S (i:=2) rfl (by omega)) (by omega) (by omega)) ?_;intro a H;refine bA rfl ?_;refine fI H S (i:=2) (kk:=i.toNat) rfl rfl rfl (by omega) bE ?_;clear H a S;intro _ a S H;have e9:=eK (p:=(⟨rates,pwn,ptn,pag⟩:Part)) (l:=l) (k:=i.toNat) (by omega);have e8:i.toNat+1=(i+1).toNat:=by omega
     rw [e8] at e9
     replace S:=S.recell (i:=2) rfl (cell':=fcell (fun q=>if i-1<((q:Nat):Int) then bJ (⟨rates,pwn,ptn,pag⟩:Part) l q else fwd (⟨rates,pwn,ptn,pag⟩:Part) l (q+1))) (fun q j hq hj=>by
       unfold fcell;congr 1;(try dsimp only);by_cases h1:q=i.toNat
       · subst h1;rw [if_pos rfl,if_pos (by omega),e9,e8]
       · rw [if_neg h1];by_cases h2:i<(q:Int)
         · rw [if_pos h2,if_pos (by omega)]
         · rw [if_neg h2,if_neg (by omega)])
     refine wpList_nil (And.intro (Or.inl rfl) ?_);refine dI ?_;refine k10 _ _ ?_;replace H:=H.keep [1,2,6,8] rfl;refine sO H<|sr 1 G<|sd (aS G G (by unfold i64ok;omega))<|sr 1 G<|sE ?_;intro a H
     exact k7 (g1-1) (i-1) a _ (by omega) (⟨by omega,by omega,by omega⟩) (S.sel [2,3] G G) (H.keep [8,1,2,6] rfl)
   ·skip
    refine aM H rfl S eY ?_;intro b9 _ a hb9 hbw9 S H
    refine wpList_nil (And.intro (Or.inr (S.sel [1,2] G G)) ?_);refine nR G G ?_ ?_
    ·skip
     refine aB H G G Tryz.func99 G G (iJ rates pwn ptn pag RA rcp (l.getD (i+1).toNat aJm) _ (hr.now S) hrn hcls (by unfold i64ok;omega) (by unfold i64ok;omega)) ?_;clear H a
     rintro _ _ a ⟨rfl,S2⟩ H;replace S:=S.call S2;clear S2;refine wpList_nil (And.intro (Or.inr (S.sel [1,2] rfl rfl)) ?_);refine bA rfl ?_;refine aM H rfl S eY ?_;intro b10 _ a hb10 hbw10 S H;refine wpList_nil (And.intro (Or.inr (S.sel [2,3] rfl rfl)) ?_);refine bA rfl ?_;refine aI H S (i:=1) rfl rfl rfl rfl bE rfl rfl ?_;clear H a S;intro _ a S H;refine wpList_nil (And.intro (Or.inr (S.sel [2,3] rfl rfl)) ?_);refine bA rfl ?_;refine aI H S (i:=0) rfl rfl rfl rfl bE rfl rfl ?_;clear H a S;intro _ a S H;refine wpList_nil (And.intro (Or.inr (S.sel [2,3] rfl rfl)) ?_);refine dI ?_;refine k11 _ _ ?_;have hbw:=jJ hok (k:=(i+1).toNat) (by omega);replace H:=H.keep [1,2,6,8,9,10] rfl;replace S:=S.drew;refine kR 22 (.q 0 (.q 1 (.q 2 (.q 3 (.q 4 (.q 5 (.q 6 (.q 7 (.q 8 (.q 9 (.q 10 (.q 11 (.q 12 (.q 13 (.q 14 (.q 15 (.q 16 (.e 17 (.q 18 (.q 19 (.p 20 (.q 21 (.e 22 .nil))))))))))))))))))))))) (by kernel_rfl) (by kernel_rfl) (S.sel [0,1,2,3] rfl rfl) ?_;refine aG H rfl rfl (fun _ S=>aJ rfl) ?_;intro a H;refine aG H rfl rfl (fun _ S=>aJ rfl) ?_;intro a H;refine aG H rfl rfl (fun _ S=>aJ rfl) ?_;intro a H;refine aG H rfl rfl (fun _ S=>aJ rfl) ?_;intro a H;refine aG H rfl rfl (fun _ S=>bU dB bE rfl rfl (aIp S (i:=2) rfl (by omega)) (by omega) (by omega)) ?_;intro a H;refine aG H rfl rfl (fun _ S=>eG (vs:=[.int .i64 (fwd (⟨rates,pwn,ptn,pag⟩:Part) l (i.toNat+1)).1,.int .i64 (fwd (⟨rates,pwn,ptn,pag⟩:Part) l (i.toNat+1)).2]) eO bE rfl (nH S (i:=2) rfl (by omega) (if_neg (by omega)))) ?_;intro a H;refine aG H rfl rfl (fun _ S=>(aF cH rfl)) ?_;intro a H;refine aG H rfl rfl (fun _ S=>aE aC rfl (aIo S (i:=0) rfl rfl)) ?_;intro a H;refine aG H rfl rfl (fun _ S=>(aF cA rfl)) ?_;intro a H;refine aG H rfl rfl (fun _ S=>aE aC rfl (aIo S (i:=1) rfl rfl)) ?_;intro a H;refine aG H rfl rfl (fun _ S=>aS rfl rfl (by unfold i64ok;omega)) ?_;intro a H;refine aG H rfl rfl (fun _ S=>(aF cA rfl)) ?_;intro a H;refine aG H rfl rfl (fun _ S=>aE aC rfl (aIo S (i:=0) rfl rfl)) ?_;intro a H;refine aG H rfl rfl (fun _ S=>(aF cH rfl)) ?_;intro a H;refine aG H rfl rfl (fun _ S=>aE aC rfl (aIo S (i:=1) rfl rfl)) ?_;intro a H;refine aG H rfl rfl (fun _ S=>aS rfl rfl (by unfold i64ok;omega)) ?_;intro a H;refine aG H rfl rfl (fun _ S=>aN kX rfl rfl) ?_;intro a H;refine bA rfl ?_;refine aB H rfl rfl Tryz.func100 rfl rfl (iH (fwd (⟨rates,pwn,ptn,pag⟩:Part) l (i.toNat+1)).1 (fwd (⟨rates,pwn,ptn,pag⟩:Part) l (i.toNat+1)).2 _ _ _) ?_;clear H a;rintro _ _ a ⟨rfl,S2⟩ H;replace S:=S.call S2;clear S2;refine wpList_nil (And.intro (Or.inr (S.sel [0,1,2,3] rfl rfl)) ?_);refine aG H rfl rfl (fun _ S=>aJ rfl) ?_;intro a H;refine aG H rfl rfl (fun _ S=>bN rfl rfl) ?_;intro a H;refine aR H rfl rfl (fun _=>bN rfl rfl) ?_;intro a H;refine aG H rfl rfl (fun _ S=>bU dB bE rfl rfl (aIp S (i:=2) rfl (by omega)) (by omega) (by omega)) ?_;intro a H;refine bA rfl ?_;refine fI H S (i:=2) (kk:=i.toNat) rfl rfl rfl (by omega) bE ?_;clear H a S;intro _ a S H;have e9:=eK (p:=(⟨rates,pwn,ptn,pag⟩:Part)) (l:=l) (k:=i.toNat) (by omega);have e8:i.toNat+1=(i+1).toNat:=by omega
     rw [e8] at e9
     replace S:=S.recell (i:=2) rfl (cell':=fcell (fun q=>if i-1<((q:Nat):Int) then bJ (⟨rates,pwn,ptn,pag⟩:Part) l q else fwd (⟨rates,pwn,ptn,pag⟩:Part) l (q+1))) (fun q j hq hj=>by
       unfold fcell;congr 1;(try dsimp only);by_cases h1:q=i.toNat
       · subst h1;rw [if_pos rfl,if_pos (by omega),e9,e8]
       · rw [if_neg h1];by_cases h2:i<(q:Int)
         · rw [if_pos h2,if_pos (by omega)]
         · rw [if_neg h2,if_neg (by omega)])
     refine wpList_nil (And.intro (Or.inl rfl) ?_);refine dI ?_;refine k10 _ _ ?_;replace H:=H.keep [1,2,6,8] rfl;refine sO H<|sr 1 G<|sd (aS G G (by unfold i64ok;omega))<|sr 1 G<|sE ?_;intro a H
     exact k7 (g1-1) (i-1) a _ (by omega) (⟨by omega,by omega,by omega⟩) (S.sel [2,3] G G) (H.keep [8,1,2,6] rfl)
    ·skip
     refine aM H rfl S eY ?_;intro b10 _ a hb10 hbw10 S H
     refine wpList_nil (And.intro (Or.inr (S.sel [2,3] rfl rfl)) ?_);refine bA rfl ?_;refine aB H rfl rfl Tryz.func99 rfl rfl (iJ rates pwn ptn pag RA rcp (l.getD (i+1).toNat aJm) _ (hr.now S) hrn hcls (by unfold i64ok;omega) (by unfold i64ok;omega)) ?_;clear H a;rintro _ _ a ⟨rfl,S2⟩ H;replace S:=S.call S2;clear S2;refine wpList_nil (And.intro (Or.inr (S.sel [2,3] rfl rfl)) ?_);refine bA rfl ?_;refine aI H S (i:=1) rfl rfl rfl rfl bE rfl rfl ?_;clear H a S;intro _ a S H;refine wpList_nil (And.intro (Or.inr (S.sel [2,3] rfl rfl)) ?_);refine bA rfl ?_;refine aI H S (i:=0) rfl rfl rfl rfl bE rfl rfl ?_;clear H a S;intro _ a S H;refine wpList_nil (And.intro (Or.inr (S.sel [2,3] rfl rfl)) ?_);refine dI ?_;refine k11 _ _ ?_;have hbw:=jJ hok (k:=(i+1).toNat) (by omega);replace H:=H.keep [1,2,6,8,9,10] rfl;replace S:=S.drew;refine kR 22 (.q 0 (.q 1 (.q 2 (.q 3 (.q 4 (.q 5 (.q 6 (.q 7 (.q 8 (.q 9 (.q 10 (.q 11 (.q 12 (.q 13 (.q 14 (.q 15 (.q 16 (.e 17 (.q 18 (.q 19 (.p 20 (.q 21 (.e 22 .nil))))))))))))))))))))))) (by kernel_rfl) (by kernel_rfl) (S.sel [0,1,2,3] rfl rfl) ?_;refine aG H rfl rfl (fun _ S=>aJ rfl) ?_;intro a H;refine aG H rfl rfl (fun _ S=>aJ rfl) ?_;intro a H;refine aG H rfl rfl (fun _ S=>aJ rfl) ?_;intro a H;refine aG H rfl rfl (fun _ S=>aJ rfl) ?_;intro a H;refine aG H rfl rfl (fun _ S=>bU dB bE rfl rfl (aIp S (i:=2) rfl (by omega)) (by omega) (by omega)) ?_;intro a H;refine aG H rfl rfl (fun _ S=>eG (vs:=[.int .i64 (fwd (⟨rates,pwn,ptn,pag⟩:Part) l (i.toNat+1)).1,.int .i64 (fwd (⟨rates,pwn,ptn,pag⟩:Part) l (i.toNat+1)).2]) eO bE rfl (nH S (i:=2) rfl (by omega) (if_neg (by omega)))) ?_;intro a H;refine aG H rfl rfl (fun _ S=>(aF cH rfl)) ?_;intro a H;refine aG H rfl rfl (fun _ S=>aE aC rfl (aIo S (i:=0) rfl rfl)) ?_;intro a H;refine aG H rfl rfl (fun _ S=>(aF cA rfl)) ?_;intro a H;refine aG H rfl rfl (fun _ S=>aE aC rfl (aIo S (i:=1) rfl rfl)) ?_;intro a H;refine aG H rfl rfl (fun _ S=>aS rfl rfl (by unfold i64ok;omega)) ?_;intro a H;refine aG H rfl rfl (fun _ S=>(aF cA rfl)) ?_;intro a H;refine aG H rfl rfl (fun _ S=>aE aC rfl (aIo S (i:=0) rfl rfl)) ?_;intro a H;refine aG H rfl rfl (fun _ S=>(aF cH rfl)) ?_;intro a H;refine aG H rfl rfl (fun _ S=>aE aC rfl (aIo S (i:=1) rfl rfl)) ?_;intro a H;refine aG H rfl rfl (fun _ S=>aS rfl rfl (by unfold i64ok;omega)) ?_;intro a H;refine aG H rfl rfl (fun _ S=>aN kX rfl rfl) ?_;intro a H;refine bA rfl ?_;refine aB H rfl rfl Tryz.func100 rfl rfl (iH (fwd (⟨rates,pwn,ptn,pag⟩:Part) l (i.toNat+1)).1 (fwd (⟨rates,pwn,ptn,pag⟩:Part) l (i.toNat+1)).2 _ _ _) ?_;clear H a;rintro _ _ a ⟨rfl,S2⟩ H;replace S:=S.call S2;clear S2;refine wpList_nil (And.intro (Or.inr (S.sel [0,1,2,3] rfl rfl)) ?_);refine aG H rfl rfl (fun _ S=>aJ rfl) ?_;intro a H;refine aG H rfl rfl (fun _ S=>bN rfl rfl) ?_;intro a H;refine aR H rfl rfl (fun _=>bN rfl rfl) ?_;intro a H;refine aG H rfl rfl (fun _ S=>bU dB bE rfl rfl (aIp S (i:=2) rfl (by omega)) (by omega) (by omega)) ?_;intro a H;refine bA rfl ?_;refine fI H S (i:=2) (kk:=i.toNat) rfl rfl rfl (by omega) bE ?_;clear H a S;intro _ a S H;have e9:=eK (p:=(⟨rates,pwn,ptn,pag⟩:Part)) (l:=l) (k:=i.toNat) (by omega);have e8:i.toNat+1=(i+1).toNat:=by omega
     rw [e8] at e9
     replace S:=S.recell (i:=2) rfl (cell':=fcell (fun q=>if i-1<((q:Nat):Int) then bJ (⟨rates,pwn,ptn,pag⟩:Part) l q else fwd (⟨rates,pwn,ptn,pag⟩:Part) l (q+1))) (fun q j hq hj=>by
       unfold fcell;congr 1;(try dsimp only);by_cases h1:q=i.toNat
       · subst h1;rw [if_pos rfl,if_pos (by omega),e9,e8]
       · rw [if_neg h1];by_cases h2:i<(q:Int)
         · rw [if_pos h2,if_pos (by omega)]
         · rw [if_neg h2,if_neg (by omega)])
     refine wpList_nil (And.intro (Or.inl rfl) ?_);refine dI ?_;refine k10 _ _ ?_;replace H:=H.keep [1,2,6,8] rfl;refine sO H<|sr 1 G<|sd (aS G G (by unfold i64ok;omega))<|sr 1 G<|sE ?_;intro a H
     exact k7 (g1-1) (i-1) a _ (by omega) (⟨by omega,by omega,by omega⟩) (S.sel [2,3] G G) (H.keep [8,1,2,6] rfl)
   ·skip
    refine aM H rfl S eY ?_;intro b10 _ a hb10 hbw10 S H
    refine wpList_nil (And.intro (Or.inr (S.sel [1,2] G G)) ?_);refine nR G G ?_ ?_
    ·skip
     refine aB H G G Tryz.func99 G G (iJ rates pwn ptn pag RA rcp (l.getD (i+1).toNat aJm) _ (hr.now S) hrn hcls (by unfold i64ok;omega) (by unfold i64ok;omega)) ?_;clear H a
     rintro _ _ a ⟨rfl,S2⟩ H;replace S:=S.call S2;clear S2;refine wpList_nil (And.intro (Or.inr (S.sel [1,2] rfl rfl)) ?_);refine bA rfl ?_;refine aM H rfl S eY ?_;intro b9 _ a hb9 hbw9 S H;refine wpList_nil (And.intro (Or.inr (S.sel [2,3] rfl rfl)) ?_);refine bA rfl ?_;refine aI H S (i:=0) rfl rfl rfl rfl bE rfl rfl ?_;clear H a S;intro _ a S H;refine wpList_nil (And.intro (Or.inr (S.sel [2,3] rfl rfl)) ?_);refine bA rfl ?_;refine aI H S (i:=1) rfl rfl rfl rfl bE rfl rfl ?_;clear H a S;intro _ a S H;refine wpList_nil (And.intro (Or.inr (S.sel [2,3] rfl rfl)) ?_);refine dI ?_;refine k11 _ _ ?_;have hbw:=jJ hok (k:=(i+1).toNat) (by omega);replace H:=H.keep [1,2,6,8,9,10] rfl;replace S:=S.drew;refine kR 22 (.q 0 (.q 1 (.q 2 (.q 3 (.q 4 (.q 5 (.q 6 (.q 7 (.q 8 (.q 9 (.q 10 (.q 11 (.q 12 (.q 13 (.q 14 (.q 15 (.q 16 (.e 17 (.q 18 (.q 19 (.p 20 (.q 21 (.e 22 .nil))))))))))))))))))))))) (by kernel_rfl) (by kernel_rfl) (S.sel [0,1,2,3] rfl rfl) ?_;refine aG H rfl rfl (fun _ S=>aJ rfl) ?_;intro a H;refine aG H rfl rfl (fun _ S=>aJ rfl) ?_;intro a H;refine aG H rfl rfl (fun _ S=>aJ rfl) ?_;intro a H;refine aG H rfl rfl (fun _ S=>aJ rfl) ?_;intro a H;refine aG H rfl rfl (fun _ S=>bU dB bE rfl rfl (aIp S (i:=2) rfl (by omega)) (by omega) (by omega)) ?_;intro a H;refine aG H rfl rfl (fun _ S=>eG (vs:=[.int .i64 (fwd (⟨rates,pwn,ptn,pag⟩:Part) l (i.toNat+1)).1,.int .i64 (fwd (⟨rates,pwn,ptn,pag⟩:Part) l (i.toNat+1)).2]) eO bE rfl (nH S (i:=2) rfl (by omega) (if_neg (by omega)))) ?_;intro a H;refine aG H rfl rfl (fun _ S=>(aF cH rfl)) ?_;intro a H;refine aG H rfl rfl (fun _ S=>aE aC rfl (aIo S (i:=1) rfl rfl)) ?_;intro a H;refine aG H rfl rfl (fun _ S=>(aF cA rfl)) ?_;intro a H;refine aG H rfl rfl (fun _ S=>aE aC rfl (aIo S (i:=0) rfl rfl)) ?_;intro a H;refine aG H rfl rfl (fun _ S=>aS rfl rfl (by unfold i64ok;omega)) ?_;intro a H;refine aG H rfl rfl (fun _ S=>(aF cA rfl)) ?_;intro a H;refine aG H rfl rfl (fun _ S=>aE aC rfl (aIo S (i:=1) rfl rfl)) ?_;intro a H;refine aG H rfl rfl (fun _ S=>(aF cH rfl)) ?_;intro a H;refine aG H rfl rfl (fun _ S=>aE aC rfl (aIo S (i:=0) rfl rfl)) ?_;intro a H;refine aG H rfl rfl (fun _ S=>aS rfl rfl (by unfold i64ok;omega)) ?_;intro a H;refine aG H rfl rfl (fun _ S=>aN kX rfl rfl) ?_;intro a H;refine bA rfl ?_;refine aB H rfl rfl Tryz.func100 rfl rfl (iH (fwd (⟨rates,pwn,ptn,pag⟩:Part) l (i.toNat+1)).1 (fwd (⟨rates,pwn,ptn,pag⟩:Part) l (i.toNat+1)).2 _ _ _) ?_;clear H a;rintro _ _ a ⟨rfl,S2⟩ H;replace S:=S.call S2;clear S2;refine wpList_nil (And.intro (Or.inr (S.sel [0,1,2,3] rfl rfl)) ?_);refine aG H rfl rfl (fun _ S=>aJ rfl) ?_;intro a H;refine aG H rfl rfl (fun _ S=>bN rfl rfl) ?_;intro a H;refine aR H rfl rfl (fun _=>bN rfl rfl) ?_;intro a H;refine aG H rfl rfl (fun _ S=>bU dB bE rfl rfl (aIp S (i:=2) rfl (by omega)) (by omega) (by omega)) ?_;intro a H;refine bA rfl ?_;refine fI H S (i:=2) (kk:=i.toNat) rfl rfl rfl (by omega) bE ?_;clear H a S;intro _ a S H;have e9:=eK (p:=(⟨rates,pwn,ptn,pag⟩:Part)) (l:=l) (k:=i.toNat) (by omega);have e8:i.toNat+1=(i+1).toNat:=by omega
     rw [e8] at e9
     replace S:=S.recell (i:=2) rfl (cell':=fcell (fun q=>if i-1<((q:Nat):Int) then bJ (⟨rates,pwn,ptn,pag⟩:Part) l q else fwd (⟨rates,pwn,ptn,pag⟩:Part) l (q+1))) (fun q j hq hj=>by
       unfold fcell;congr 1;(try dsimp only);by_cases h1:q=i.toNat
       · subst h1;rw [if_pos rfl,if_pos (by omega),e9,e8]
       · rw [if_neg h1];by_cases h2:i<(q:Int)
         · rw [if_pos h2,if_pos (by omega)]
         · rw [if_neg h2,if_neg (by omega)])
     refine wpList_nil (And.intro (Or.inl rfl) ?_);refine dI ?_;refine k10 _ _ ?_;replace H:=H.keep [1,2,6,8] rfl;refine sO H<|sr 1 G<|sd (aS G G (by unfold i64ok;omega))<|sr 1 G<|sE ?_;intro a H
     exact k7 (g1-1) (i-1) a _ (by omega) (⟨by omega,by omega,by omega⟩) (S.sel [2,3] G G) (H.keep [8,1,2,6] rfl)
    ·skip
     refine aM H rfl S eY ?_;intro b9 _ a hb9 hbw9 S H
     refine wpList_nil (And.intro (Or.inr (S.sel [2,3] rfl rfl)) ?_);refine bA rfl ?_;refine aB H rfl rfl Tryz.func99 rfl rfl (iJ rates pwn ptn pag RA rcp (l.getD (i+1).toNat aJm) _ (hr.now S) hrn hcls (by unfold i64ok;omega) (by unfold i64ok;omega)) ?_;clear H a;rintro _ _ a ⟨rfl,S2⟩ H;replace S:=S.call S2;clear S2;refine wpList_nil (And.intro (Or.inr (S.sel [2,3] rfl rfl)) ?_);refine bA rfl ?_;refine aI H S (i:=0) rfl rfl rfl rfl bE rfl rfl ?_;clear H a S;intro _ a S H;refine wpList_nil (And.intro (Or.inr (S.sel [2,3] rfl rfl)) ?_);refine bA rfl ?_;refine aI H S (i:=1) rfl rfl rfl rfl bE rfl rfl ?_;clear H a S;intro _ a S H;refine wpList_nil (And.intro (Or.inr (S.sel [2,3] rfl rfl)) ?_);refine dI ?_;refine k11 _ _ ?_;have hbw:=jJ hok (k:=(i+1).toNat) (by omega);replace H:=H.keep [1,2,6,8,9,10] rfl;replace S:=S.drew;refine kR 22 (.q 0 (.q 1 (.q 2 (.q 3 (.q 4 (.q 5 (.q 6 (.q 7 (.q 8 (.q 9 (.q 10 (.q 11 (.q 12 (.q 13 (.q 14 (.q 15 (.q 16 (.e 17 (.q 18 (.q 19 (.p 20 (.q 21 (.e 22 .nil))))))))))))))))))))))) (by kernel_rfl) (by kernel_rfl) (S.sel [0,1,2,3] rfl rfl) ?_;refine aG H rfl rfl (fun _ S=>aJ rfl) ?_;intro a H;refine aG H rfl rfl (fun _ S=>aJ rfl) ?_;intro a H;refine aG H rfl rfl (fun _ S=>aJ rfl) ?_;intro a H;refine aG H rfl rfl (fun _ S=>aJ rfl) ?_;intro a H;refine aG H rfl rfl (fun _ S=>bU dB bE rfl rfl (aIp S (i:=2) rfl (by omega)) (by omega) (by omega)) ?_;intro a H;refine aG H rfl rfl (fun _ S=>eG (vs:=[.int .i64 (fwd (⟨rates,pwn,ptn,pag⟩:Part) l (i.toNat+1)).1,.int .i64 (fwd (⟨rates,pwn,ptn,pag⟩:Part) l (i.toNat+1)).2]) eO bE rfl (nH S (i:=2) rfl (by omega) (if_neg (by omega)))) ?_;intro a H;refine aG H rfl rfl (fun _ S=>(aF cH rfl)) ?_;intro a H;refine aG H rfl rfl (fun _ S=>aE aC rfl (aIo S (i:=1) rfl rfl)) ?_;intro a H;refine aG H rfl rfl (fun _ S=>(aF cA rfl)) ?_;intro a H;refine aG H rfl rfl (fun _ S=>aE aC rfl (aIo S (i:=0) rfl rfl)) ?_;intro a H;refine aG H rfl rfl (fun _ S=>aS rfl rfl (by unfold i64ok;omega)) ?_;intro a H;refine aG H rfl rfl (fun _ S=>(aF cA rfl)) ?_;intro a H;refine aG H rfl rfl (fun _ S=>aE aC rfl (aIo S (i:=1) rfl rfl)) ?_;intro a H;refine aG H rfl rfl (fun _ S=>(aF cH rfl)) ?_;intro a H;refine aG H rfl rfl (fun _ S=>aE aC rfl (aIo S (i:=0) rfl rfl)) ?_;intro a H;refine aG H rfl rfl (fun _ S=>aS rfl rfl (by unfold i64ok;omega)) ?_;intro a H;refine aG H rfl rfl (fun _ S=>aN kX rfl rfl) ?_;intro a H;refine bA rfl ?_;refine aB H rfl rfl Tryz.func100 rfl rfl (iH (fwd (⟨rates,pwn,ptn,pag⟩:Part) l (i.toNat+1)).1 (fwd (⟨rates,pwn,ptn,pag⟩:Part) l (i.toNat+1)).2 _ _ _) ?_;clear H a;rintro _ _ a ⟨rfl,S2⟩ H;replace S:=S.call S2;clear S2;refine wpList_nil (And.intro (Or.inr (S.sel [0,1,2,3] rfl rfl)) ?_);refine aG H rfl rfl (fun _ S=>aJ rfl) ?_;intro a H;refine aG H rfl rfl (fun _ S=>bN rfl rfl) ?_;intro a H;refine aR H rfl rfl (fun _=>bN rfl rfl) ?_;intro a H;refine aG H rfl rfl (fun _ S=>bU dB bE rfl rfl (aIp S (i:=2) rfl (by omega)) (by omega) (by omega)) ?_;intro a H;refine bA rfl ?_;refine fI H S (i:=2) (kk:=i.toNat) rfl rfl rfl (by omega) bE ?_;clear H a S;intro _ a S H;have e9:=eK (p:=(⟨rates,pwn,ptn,pag⟩:Part)) (l:=l) (k:=i.toNat) (by omega);have e8:i.toNat+1=(i+1).toNat:=by omega
     rw [e8] at e9
     replace S:=S.recell (i:=2) rfl (cell':=fcell (fun q=>if i-1<((q:Nat):Int) then bJ (⟨rates,pwn,ptn,pag⟩:Part) l q else fwd (⟨rates,pwn,ptn,pag⟩:Part) l (q+1))) (fun q j hq hj=>by
       unfold fcell;congr 1;(try dsimp only);by_cases h1:q=i.toNat
       · subst h1;rw [if_pos rfl,if_pos (by omega),e9,e8]
       · rw [if_neg h1];by_cases h2:i<(q:Int)
         · rw [if_pos h2,if_pos (by omega)]
         · rw [if_neg h2,if_neg (by omega)])
     refine wpList_nil (And.intro (Or.inl rfl) ?_);refine dI ?_;refine k10 _ _ ?_;replace H:=H.keep [1,2,6,8] rfl;refine sO H<|sr 1 G<|sd (aS G G (by unfold i64ok;omega))<|sr 1 G<|sE ?_;intro a H
     exact k7 (g1-1) (i-1) a _ (by omega) (⟨by omega,by omega,by omega⟩) (S.sel [2,3] G G) (H.keep [8,1,2,6] rfl)
  refine wp_exit ?_;refine k5 _ _ ?_;refine sS H fun K24 k24=>sr 3 G<|sE ?_;intro a H
  refine k24 _ ?_;refine wp_ret ?_;refine ret2 (fn:=Tryz.f82) rfl H G G ?_;refine .inl ⟨hA,A',c',rfl,?_⟩;replace S:=S.recell (i:=0) rfl (cell':=fcell (bJ (⟨rates,pwn,ptn,pag⟩:Part) l)) (fun q j hq hj=>by unfold fcell;congr 1;exact if_pos (by omega));exact (S.sel [0] G G)
 replace H:=H.keep [1,2] rfl;refine aA fun K25 k25=>?_
 refine ls 2 H<|sd ((aD dJ eE rfl S (i:=0) G G))<|sr 1 G<|sE ?_;intro a H
 refine aB H G G Tryz.func98 G G (uI rates pwn ptn pag RA rcp l A cp _ (hr.now S) hrn (hl.now S) hn hok) ?_;clear H a
 rintro _ _ a ⟨n,A',c',hn1,rfl,S2⟩ H;replace S:=S.call S2;clear S2;refine ls 5 H<|sr 5 G<|sE ?_;intro a H
 refine k25 _ _ ?_;refine wp_seq_k fun K26 k26=>?_
 try have hnl:=hn1.le
 replace H:=H.keep [1,2,6,7] rfl;refine sS H fun K27 k27=>sr 2 G<|sL cJ rfl<|sr 1 G<|sE ?_;intro a H
 refine k27 _ ?_;refine condL H rfl (fun hc3=>?_) (fun hc3=>?_)
 ·skip
  refine sS H fun K28 k28=>sr 2 G<|sE ?_;intro a H
  refine k28 _ ?_;refine wp_ret ?_;refine ret2 (fn:=Tryz.f82) rfl H G G ?_;exact .inr ⟨hA,rfl,(S.sel [] G G)⟩
 exfalso
 have hnn:n=l.length:=by omega
 exact hA (hnn ▸ hn1)
end
section
theorem Sx {w:World} {p:Part} {l:List Use} {v:Value} {w':World} (hA:IsAt p l l.length) (h:Worn w p l v w'):∃ A' c',v = .tuple #[.slice A' l.length c',.bool true]∧St w noF [ownM 79 2 A' l.length c' (fcell (bJ p l))] w':=by
 rcases h with ⟨_,h⟩|⟨h,_⟩
 ·exact h
 ·exact absurd hA h
theorem Zg {w:World} {p:Part} {l:List Use} {v:Value} {w':World} (hA:¬ IsAt p l l.length) (h:Worn w p l v w'):v = .tuple #[.slice none 0 0,.bool false]∧St w noF [] w':=by
 rcases h with ⟨h,_⟩|⟨_,h⟩
 ·exact absurd h hA
 ·exact h
end
section
def jE (b:Nat→Bool) (n:Nat):Int:=match (List.range n).find? b with
 | some k=>(k:Int)
 | none => -1
theorem mK {b:Nat→Bool} {n k:Nat} (hk:k<n) (hb:b k=true) (h:∀ q,q<k→b q=false):jE b n=k:=by
  unfold jE
  have e:(List.range n).find? b=some k:=by
    rw [List.find?_eq_some_iff_append];refine ⟨hb,List.range k,(List.range (n-k-1)).map (k+1+·),?_,fun a ha=>?_⟩
    · have e1:n=k+((n-k-1)+1):=by omega
      conv=>lhs;rw [e1,List.range_add]
      rw [List.range_succ_eq_map];simp only [List.map_cons,Nat.add_zero,List.map_map];congr 2;refine List.map_congr_left fun a _=>?_
      simp only [Function.comp]
      omega
    · rw [h a (List.mem_range.1 ha)];rfl
  rw [e]
theorem oQ {b:Nat→Bool} {n:Nat} (h:∀ q,q<n→b q=false):jE b n = -1:=by
 unfold jE
 have e:(List.range n).find? b=none:=by
  rw [List.find?_eq_none];intro a ha;rw [h a (List.mem_range.1 ha)];simp
 rw [e]
theorem Sy (b:Nat→Bool):∀ n,(∃ k,k<n∧b k=true∧∀ q,q<k→b q=false)∨∀ q,q<n→b q=false:=by
  intro n;induction n with
  | zero=>exact .inr fun q hq=>absurd hq (Nat.not_lt_zero _)
  | succ n ih=>
    rcases ih with ⟨k,h1,h2,h3⟩|h
    · exact .inl ⟨k,by omega,h2,h3⟩
    · cases hb:b n
      · refine .inr fun q hq=>?_
        by_cases e:q=n
        · subst e;exact hb
        · exact h q (by omega)
      · exact .inl ⟨n,by omega,hb,h⟩
theorem nI (b:Nat→Bool) (n:Nat):(jE b n = -1∧∀ q,q<n→b q=false)∨∃ k,k<n∧jE b n=k∧b k=true∧∀ q,q<k→b q=false:=by
 rcases Sy b n with ⟨k,h1,h2,h3⟩|h
 ·exact .inr ⟨k,h1,mK h1 h2 h3,h2,h3⟩
 ·exact .inl ⟨oQ h,h⟩
theorem Nc {p:Part} {l:List Use}:∀ m,m≤l.length→(∀ k,k<m→fits p l k)∨∃ n,n<m∧IsAt p l n:=by
  classical
  intro m;induction m with
  | zero=>intro _;exact .inl fun k hk=>absurd hk (Nat.not_lt_zero _)
  | succ m ih=>
    intro hm;rcases ih (by omega) with h|⟨n,hn,h⟩
    · by_cases hf:fits p l m
      · refine .inl fun k hk=>?_
        by_cases e:k=m
        · subst e;exact hf
        · exact h k (by omega)
      · exact .inr ⟨m,by omega,by omega,h,fun _=>hf⟩
    · exact .inr ⟨n,by omega,h⟩
theorem aDk (p:Part) (l:List Use):∃ n,IsAt p l n:=by
 rcases Nc (p:=p) l.length (Nat.le_refl _) with h|⟨n,_,h⟩
 ·exact ⟨l.length,Nat.le_refl _,h,fun h=>absurd h (Nat.lt_irrefl _)⟩
 ·exact ⟨n,h⟩
noncomputable def atN (p:Part) (l:List Use):Nat:=Classical.choose (aDk p l)
theorem xP (p:Part) (l:List Use):IsAt p l (atN p l):=Classical.choose_spec (aDk p l)
theorem xQ {p:Part} {l:List Use} {n:Nat} (h:IsAt p l n):atN p l=n:=(xP p l).same h
theorem Ki {p:Part} {l:List Use}:IsAt p l l.length↔atN p l=l.length:=⟨xQ,fun h=>by have:=xP p l;rw [h] at this;exact this⟩
theorem aEi {p:Part} {l:List Use} (h:PartOk p l):∀ k,k≤l.length→(∀ q,q<k→fits p l q)→(fwd p l k).1≤(fwd p l k).2:=by
  intro k;induction k with
  | zero=>intro _ _;exact Int.le_refl _
  | succ k ih=>
    intro hk hf;have h1:=ih (by omega) fun q hq=>hf q (by omega)
    by_cases hm:(l.getD k aJm).meas=true
    · exact hf k (by omega) hm
    · have hu:=h.use (show k<l.length by omega)
      unfold useOk at hu
      simp only [decide_eq_true_eq] at hu
      have hr:=h.rate (k:=(l.getD k aJm).cls.toNat) (by omega)
      unfold iZ at hr
      simp only [decide_eq_true_eq] at hr
      rw [fwd,if_neg hm];unfold addS dO;have:=Int.mul_le_mul_of_nonneg_left hr.2.1 (show 0≤(l.getD k aJm).turns by omega);dsimp only;omega
def fstep (p:Part) (s:Int×Int) (u:Use):Int×Int:=if u.meas then meetS (addS s (dO p u)) (u.lo,u.hi) else addS s (dO p u)
theorem Ea {p:Part} {l:List Use} (h:PartOk p l) {k:Nat} (hk:k<l.length) (hf:∀ q,q<k→fits p l q):fits p l k↔(fwd p l (k+1)).1≤(fwd p l (k+1)).2:=
 ⟨fun h'=>aEi h (k+1) (by omega) fun q hq=>by
  by_cases e:q=k
  ·subst e;exact h'
  ·exact hf q (by omega),fun h' _=>h'⟩
open Classical in
noncomputable def wearE (p:Part) (l:List Use):Int:=if cC p l≠0 then cC p l else if IsAt p l l.length then 0 else 3
theorem zT {p:Part} {l:List Use} (h:cC p l≠0):wearE p l=cC p l:=by unfold wearE;rw [if_pos h]
theorem xR {p:Part} {l:List Use} (h:cC p l=0) (h':¬ IsAt p l l.length):wearE p l=3:=by unfold wearE;rw [if_neg (by omega),if_neg h']
theorem mL {p:Part} {l:List Use} (h:cC p l=0) (h':IsAt p l l.length):wearE p l=0:=by unfold wearE;rw [if_neg (by omega),if_pos h']
theorem nJ {p:Part} {l:List Use} (h:wearE p l=0):cC p l=0∧IsAt p l l.length:=by
  unfold wearE at h
  split at h
  · exact absurd h (by assumption)
  · split at h
    · exact ⟨by omega,by assumption⟩
    · omega
noncomputable def refO (p:Part) (l:List Use):Int×Bool×Int:=if cC p l≠0 then (0,false,cC p l) else if atN p l<l.length then ((atN p l:Int),true,0) else (0,false,0)
def wornB (p:Part) (l:List Use) (k:Nat) (wr:Int):Bool:=(decide (p.turns<sumT l (k+1))||decide (p.age<(l.getD k aJm).day))||decide (p.worn*1000000<wr)
noncomputable def bM (p:Part) (l:List Use) (e:Int×Int→Int):Int×Int:=if wearE p l≠0 then (0,wearE p l) else (jE (fun k=>wornB p l k (e (bJ p l k))) l.length,0)
def selE (g:Bool) (s:Int×Int):Int:=if g then s.2 else s.1
noncomputable def lastO (p:Part) (l plan:List Use):Int×Int:=
 if cC p (l++plan)≠0 then (0,cC p (l++plan)) else if plan.any (·.meas) then (0,1) else
 if (bM p (l++plan) Prod.snd).2≠0 then (0,(bM p (l++plan) Prod.snd).2) else
 if (bM p (l++plan) Prod.snd).1<0 then ((plan.length:Int),0) else (max (-1) ((bM p (l++plan) Prod.snd).1-l.length),0)
theorem Nd {l m:List Use}:∀ q j,q<l.length+m.length→j<6→capp l.length (ucell l) (ucell m) q j=ucell (l++m) q j:=by
 intro q j hq hj;unfold capp ucell;by_cases h1:q<l.length
 ·rw [if_pos h1,List.getD_eq_getElem?_getD,List.getD_eq_getElem?_getD,List.getElem?_append_left h1]
 ·rw [if_neg h1,List.getD_eq_getElem?_getD,List.getD_eq_getElem?_getD,List.getElem?_append_right (by omega)]
theorem Ne (u:Use) (j:Nat):(u.cell j).oneCell'=true:=by
 unfold Use.cell
 split <;> rfl
theorem nK (l:List Use):∀ k j,k<l.length→j<6→(ucell l k j).oneCell'=true:=fun k j _ _=>Ne _ j
theorem Nf (s:Int×Int) (j:Nat):(pM s j).oneCell'=true:=by
 unfold pM
 split <;> rfl
theorem Hw (l:List (Int×Int)):∀ k j,k<l.length→j<2→(scell l k j).oneCell'=true:=fun k j _ _=>Nf _ j
theorem aHp {p:Part} {l:List Use} (e:Int×Int→Int) (h:wearE p l=0):bM p l e=(jE (fun k=>wornB p l k (e (bJ p l k))) l.length,0):=by
 unfold bM
 rw [if_neg (by omega)]
end
section
theorem sB {n:Nat} {l:List Use}:∀ {k:Nat},fH n l k=true→0≤prevD l k:=by
  intro k;induction k with
  | zero=>intro _;exact Int.le_refl _
  | succ k ih=>
    intro h;unfold fH at h;rw [iX (n:=0),Bool.and_eq_true] at h;have h1:=ih h.1;have h2:=h.2;unfold useOk at h2;simp only [decide_eq_true_eq] at h2;show 0≤(l.getD k aJm).day;omega
def FwdR (w:World) (p:Part) (l:List Use) (v:Value) (w':World):Prop:=
 (atN p l=l.length∧∃ A' c',v = .tuple #[.slice A' l.length c',.int .i64 (-1)]∧St w noF [ownM 79 2 A' l.length c' (fcell fun q=>fwd p l (q+1))] w')∨(atN p l<l.length∧v = .tuple #[.slice none 0 0,.int .i64 (atN p l:Int)]∧St w noF [] w')
theorem Eb {w:World} {p:Part} {l:List Use} {v:Value} {w':World} (hA:atN p l=l.length) (h:FwdR w p l v w'):∃ A' c',v = .tuple #[.slice A' l.length c',.int .i64 (-1)]∧St w noF [ownM 79 2 A' l.length c' (fcell fun q=>fwd p l (q+1))] w':=by
 rcases h with ⟨_,h⟩|⟨h,_⟩
 ·exact h
 ·omega
theorem Kj {w:World} {p:Part} {l:List Use} {v:Value} {w':World} (hA:atN p l<l.length) (h:FwdR w p l v w'):v = .tuple #[.slice none 0 0,.int .i64 (atN p l:Int)]∧St w noF [] w':=by
 rcases h with ⟨h,_⟩|⟨_,h⟩
 ·omega
 ·exact h
def WearR (w:World) (p:Part) (l:List Use) (v:Value) (w':World):Prop:=
 (wearE p l=0∧∃ A' c',v = .tuple #[.slice A' l.length c',.int .i64 0]∧St w noF [ownM 79 2 A' l.length c' (fcell (bJ p l))] w')∨(wearE p l≠0∧v = .tuple #[.slice none 0 0,.int .i64 (wearE p l)]∧St w noF [] w')
theorem zU {w:World} {p:Part} {l:List Use} {v:Value} {w':World} (hA:wearE p l=0) (h:WearR w p l v w'):∃ A' c',v = .tuple #[.slice A' l.length c',.int .i64 0]∧St w noF [ownM 79 2 A' l.length c' (fcell (bJ p l))] w':=by
 rcases h with ⟨_,h⟩|⟨h,_⟩
 ·exact h
 ·exact absurd hA h
theorem Ec {w:World} {p:Part} {l:List Use} {v:Value} {w':World} (hA:wearE p l≠0) (h:WearR w p l v w'):v = .tuple #[.slice none 0 0,.int .i64 (wearE p l)]∧St w noF [] w':=by
 rcases h with ⟨h,_⟩|⟨_,h⟩
 ·exact absurd h hA
 ·exact h
theorem lW (rates:List (Int×Int)) (pwn ptn pag:Int) (RA:Option Addr) (rcp:Nat) (l:List Use) (A:Option Addr) (cp:Nat) (w:World) (hr:InS w noF 2 RA rates.length (scell rates)) (hrn:rates.length≤9223372036854775807) (hl:InS w noF 6 A l.length (ucell l)) (hn:l.length≤9223372036854775807) :
    Calls Tryz.prog 58 [.agg [.slice RA rates.length rcp,.int .i64 pwn,.int .i64 ptn,.int .i64 pag].toArray,.slice A l.length cp].toArray w (Ret (fun v w'=>v = .int .i64 (cC (⟨rates,pwn,ptn,pag⟩:Part) l)∧St w noF [] w')):=by
 refine enter Tryz.func58 rfl Tryz.ntmps58 rfl (fun a H=>?_)
 have S:=St.start w
 refine aA fun K1 k1=>?_
 refine aO H rfl S G G ?_;intro b2 _ a hb2 hbw2 S H
 refine ls 1 H<|sr 1 G<|sE ?_;intro a H
 refine k1 _ _ ?_;refine wp_seq_k fun K2 k2=>?_
 replace H:=H.keep [1,2] rfl
 refine sS H fun K3 k3=>sf fP rfl<|sl S 0 iF G G G<|sL dB rfl<|sc rfl Tryz.func76 G G (jB _ _ _ _)<|sr 2 G<|sg 4 5 13 17 false G G (fun hg6=>by
     have hq6:=hg6;try simp only [oz] at hq6
     exact sy hg6<|sf uX rfl<|sy hg6<|sl S 0 aC G G G<|sy hg6<|sc rfl Tryz.func76 G G (jB _ _ _ _)<|sy hg6<|sr 1 G<|sz 4 G G G)<|so G G G<|sr 1 G<|sg 4 11 19 23 false G G (fun hg12=>by
     have hq12:=hg12;try simp only [oz] at hq12
     exact sy hg12<|sf pF rfl<|sy hg12<|sl S 0 aC G G G<|sy hg12<|sc rfl Tryz.func76 G G (jB _ _ _ _)<|sy hg12<|sr 1 G<|sz 4 G G G)<|so G G G<|sr 1 G<|sg 4 17 25 29 false G G (fun hg18=>by
     have hq18:=hg18;try simp only [oz] at hq18
     exact sy hg18<|sf rK rfl<|sy hg18<|sl S 0 aC G G G<|sy hg18<|sc rfl Tryz.func76 G G (jB _ _ _ _)<|sy hg18<|sr 1 G<|sz 4 G G G)<|so G G G<|sE ?_;intro a H
 refine k3 _ ?_;refine aU H rfl (fun hc1=>?_) (fun hc1=>?_)
 ·skip
  try simp only [oz] at hc1
  replace H:=H.keep [] rfl;refine sS H fun K4 k4=>sr 1 G<|sE ?_;intro a H
  refine k4 _ ?_;refine wp_ret ?_;refine ret1 (fn:=Tryz.f58) rfl H rfl ?_;refine ⟨?_,(S.sel [] G G)⟩;unfold cC;rw [if_neg (by unfold iY;simp only [decide_eq_true_eq];omega)]
 try simp only [oz] at hc1
 refine wp_skip ?_;refine k2 _ _ ?_;refine wp_seq_k fun K5 k5=>?_
 have hhd:iY (⟨rates,pwn,ptn,pag⟩:Part)=true:=by unfold iY;simp only [decide_eq_true_eq];omega
 refine sS H fun K6 k6=>sr 1 G<|sE ?_;intro a H
 refine k6 _ ?_;refine wp_block ?_;refine loop_st (X:=Nat) (R0:=_) [1,2] H rfl (fun k=>[(5,.int .i64 (k:Int))]) (fun k=>[]) (fun g k=>k≤rates.length∧g+k=rates.length∧(rates.take k).all iZ=true) (rates.length) 0 ?_ (S.sel [0] G G) (H.keep [5,1,2] rfl) ?_
 · exact ⟨by omega,by omega,by simp⟩
 clear H S a;intro g1 x1 a w1 hp S H K7 k7;obtain ⟨k,rfl⟩:∃ y,y=x1:=⟨_,rfl⟩;refine wp_seq_k fun K8 k8=>?_
 refine sS H fun K9 k9=>sr 1 G<|sf fP rfl<|sl S 0 iF G G G<|sL dB rfl<|sr 1 G<|sE ?_;intro a H
 refine k9 _ ?_;refine condL H rfl (fun hc2=>?_) (fun hc2=>?_)
 ·skip
  refine wp_skip ?_;refine k8 _ _ ?_;refine wp_seq_k fun K10 k10=>?_
  refine wp_block ?_;replace H:=H.keep [1,2,5] rfl;replace S:=S.drew
  refine sD H fun K11 k11=>sf fP rfl<|sl S 0 iF G G G<|sr 1 G<|si dB bE G G (hr.adr (by omega)) (by omega)<|sp cH rfl<|slm aC rfl (hr.rd S (by omega) (by omega))<|sf fP rfl<|sl S 0 iF G G G<|sr 1 G<|si dB bE G G (hr.adr (by omega)) (by omega)<|sp cA rfl<|slm aC rfl (hr.rd S (by omega) (by omega))<|sc rfl Tryz.func76 G G (jB _ _ _ _)<|sr 2 G<|sg 7 14 52 59 false G G (fun hg15=>by
      have hq15:=hg15;try simp only [oz] at hq15
      exact sy hg15<|sf fP rfl<|sy hg15<|sl S 0 iF G G G<|sy hg15<|sr 1 G<|sy hg15<|si dB bE G G (hr.adr (by omega)) (by omega)<|sy hg15<|sp cA rfl<|sy hg15<|slm aC rfl (hr.rd S (by omega) (by omega))<|sy hg15<|sr 1 G<|sz 7 G G G)<|so G G G<|sE ?_;intro a H
  refine k11 _ ?_;refine aU H rfl (fun hc3=>?_) (fun hc3=>?_)
  ·skip
   try simp only [oz] at hc3
   replace H:=H.keep [] rfl;refine sS H fun K12 k12=>sr 1 G<|sE ?_;intro a H
   refine k12 _ ?_;refine wp_ret ?_;refine ret1 (fn:=Tryz.f58) rfl H rfl ?_;refine ⟨?_,(S.sel [] G G)⟩;unfold cC;rw [if_pos hhd];(try dsimp only);rw [zS (k:=k) (d:=(0,0)) (by omega) (by unfold iZ;simp only [decide_eq_false_iff_not];omega)];rfl
  try simp only [oz] at hc3
  refine wp_skip ?_;refine k10 _ _ ?_;refine sO H<|sr 1 G<|sd (aH G G (by unfold i64ok;omega))<|sr 1 G<|sE ?_;intro a H
  exact k7 (g1-1) (k+1) a _ (by omega) (⟨by omega,by omega,Dz (d:=(0,0)) (by omega) hp.2.2 (by unfold iZ;simp only [decide_eq_true_eq];omega)⟩) (S.sel [0] G G) (H.keep [5,1,2] rfl)
 refine wp_exit ?_;refine k5 _ _ ?_;refine wp_seq_k fun K14 k14=>?_
 have hrt:rates.all iZ=true:=by have h9:=hp.2.2;rw [List.take_of_length_le (by omega)] at h9;exact h9
 refine sS H fun K15 k15=>sr 1 G<|sL cJ rfl<|sr 1 G<|sE ?_;intro a H
 refine k15 _ ?_;refine condL H rfl (fun hc4=>?_) (fun hc4=>?_)
 ·skip
  refine sS H fun K16 k16=>sr 1 G<|sE ?_;intro a H
  refine k16 _ ?_;refine wp_ret ?_;refine ret1 (fn:=Tryz.f58) rfl H rfl ?_;refine ⟨?_,(S.sel [] G G)⟩;unfold cC;rw [if_pos hhd,if_pos hrt,if_neg (by omega)]
 refine wp_skip ?_;refine k14 _ _ ?_;refine wp_seq_k fun K17 k17=>?_
 refine sS H fun K18 k18=>sr 1 G<|sE ?_;intro a H
 refine k18 _ ?_;refine wp_block ?_;refine loop_st (X:=Nat) (R0:=_) [1,2] H rfl (fun j=>[(6,.int .i64 (j:Int))]) (fun j=>[]) (fun g j=>j≤l.length∧g+j=l.length∧fH rates.length l j=true) (l.length) 0 ?_ (S.sel [0] G G) (H.keep [6,1,2] rfl) ?_
 · exact ⟨by omega,by omega,rfl⟩
 clear H S a;intro g2 x2 a w2 hp S H K19 k19;obtain ⟨j,rfl⟩:∃ y,y=x2:=⟨_,rfl⟩;refine wp_seq_k fun K20 k20=>?_
 refine sS H fun K21 k21=>sr 2 G<|sL cJ rfl<|sr 1 G<|sE ?_;intro a H
 refine k21 _ ?_;refine condL H rfl (fun hc5=>?_) (fun hc5=>?_)
 ·skip
  refine wp_skip ?_;refine k20 _ _ ?_;refine wp_seq_k fun K22 k22=>?_
  refine wp_block ?_;replace H:=H.keep [1,2,6] rfl;refine aA fun K23 k23=>?_
  refine ls 4 H<|sr 2 G<|si cJ bZ G G (hl.adr (by omega)) (by omega)<|sd ((aV jR bZ rfl S hl (by omega) (by omega)))<|sE ?_;intro a H
  refine aM H rfl S gJ ?_;intro b7 _ a hb7 hbw7 S H
  refine aI H S (i:=0) G G G G bZ G G ?_
  clear H a S;intro _ a S H;refine k23 _ _ ?_;refine wp_seq_k fun K24 k24=>?_
  have hpd:prevD l j=if 0<j then (l.getD (j-1) aJm).day else 0:=by cases j with|zero=>rfl|succ q=>rfl
  have hj9:((j:Int)-1).toNat=j-1:=by omega
  have hpn:=sB hp.2.2
  replace H:=H.keep [1,2,6,7] rfl;replace S:=S.drew
  refine sD H fun K25 k25=>sf hZ rfl<|sl S 0 aC G G G<|sc rfl Tryz.func76 G G (jB _ _ _ _)<|sr 2 G<|sg 13 4 78 91 false G G (fun hg5=>by
      have hq5:=hg5;try simp only [oz] at hq5
      exact sy hg5<|sr 1 G<|sy hg5<|sr 1 G<|sy hg5<|sr 1 G<|sg 9 7 81 90 true G G (fun hg8=>by
           have hq8:=hg8;try simp only [oz] at hq8
           exact sy hg8<|sf hZ rfl<|sy hg8<|sl S 0 aC G G G<|sy hg8<|sr 1 G<|sy hg8<|sr 1 G<|sy hg8<|sd (aS G G (by unfold i64ok;omega))<|sy hg8<|sI cJ bZ G G (hl.adr (by omega)) (by omega) (by omega)<|sy hg8<|sp hZ rfl<|sy hg8<|slm aC rfl (hl.rd S (by omega) (by omega))<|sy hg8<|sr 1 G<|sz 9 G G G)<|sy hg5<|sa G G G<|sz 5 G G G)<|so G G G<|sr 1 G<|sg 4 19 93 97 false G G (fun hg20=>by
      have hq20:=hg20;try simp only [oz] at hq20
      exact sy hg20<|sf iA rfl<|sy hg20<|sl S 0 aC G G G<|sy hg20<|sc rfl Tryz.func76 G G (jB _ _ _ _)<|sy hg20<|sr 1 G<|sz 4 G G G)<|so G G G<|sr 1 G<|sg 8 25 99 107 false G G (fun hg26=>by
      have hq26:=hg26;try simp only [oz] at hq26
      exact sy hg26<|sf oJ rfl<|sy hg26<|sl S 0 aC G G G<|sy hg26<|sf fP rfl<|sy hg26<|sl S 1 iF G G G<|sy hg26<|sL dB rfl<|sy hg26<|sd (aS G G (by unfold i64ok;omega))<|sy hg26<|sc rfl Tryz.func76 G G (jB _ _ _ _)<|sy hg26<|sr 1 G<|sz 8 G G G)<|so G G G<|sE ?_;intro a H
  refine k25 _ ?_;refine aU H rfl (fun hc6=>?_) (fun hc6=>?_)
  ·skip
   try simp only [oz] at hc6
   rw [hj9] at hc6;replace H:=H.keep [] rfl;refine sS H fun K26 k26=>sr 1 G<|sE ?_;intro a H
   refine k26 _ ?_;refine wp_ret ?_;refine ret1 (fn:=Tryz.f58) rfl H rfl ?_;refine ⟨?_,(S.sel [] G G)⟩;unfold cC;rw [if_pos hhd,if_pos hrt,if_pos (by omega)];unfold fH;rw [iD (k:=j) (by omega) (by unfold useOk;simp only [decide_eq_false_iff_not];rw [hpd];omega)];rfl
  try simp only [oz] at hc6
  rw [hj9] at hc6;refine wp_skip ?_;refine k24 _ _ ?_;replace H:=H.keep [1,2,6,7] rfl
  refine sS H fun K27 k27=>sf mE rfl<|sl S 0 jF G G G<|sr 1 G<|sg 14 2 111 125 true G G (fun hg3=>by
      have hq3:=hg3;try simp only [oz] at hq3
      exact sy hg3<|sf gC rfl<|sy hg3<|sf cH rfl<|sy hg3<|sl S 0 aC G G G<|sy hg3<|sf gC rfl<|sy hg3<|sf cA rfl<|sy hg3<|sl S 0 aC G G G<|sy hg3<|sc rfl Tryz.func76 G G (jB _ _ _ _)<|sy hg3<|sr 1 G<|sy hg3<|sr 1 G<|sg 4 11 120 124 false G G (fun hg12=>by
           have hq12:=hg12;try simp only [oz] at hq12
           exact sy hg12<|sf gC rfl<|sy hg12<|sf cA rfl<|sy hg12<|sl S 0 aC G G G<|sy hg12<|sr 1 G<|sz 4 G G G)<|sy hg3<|so G G G<|sz 11 G G G)<|sa G G G<|sr 1 G<|sg 9 18 127 136 false G G (fun hg19=>by
      have hq19:=hg19;try simp only [oz] at hq19
      exact sy hg19<|sf mE rfl<|sy hg19<|sl S 0 jF G G G<|sy hg19<|sr 1 G<|sy hg19<|sr 1 G<|sg 4 22 131 135 true G G (fun hg23=>by
           have hq23:=hg23;try simp only [oz] at hq23
           exact sy hg23<|sf gC rfl<|sy hg23<|sd ((aD eO bE rfl S (i:=0) G G))<|sy hg23<|sd (aN kX G G)<|sy hg23<|sd (pW G G)<|sz 4 G G G)<|sy hg19<|sa G G G<|sz 6 G G G)<|so G G G<|sE ?_;intro a H
  refine k27 _ ?_;refine aU H rfl (fun hc7=>?_) (fun hc7=>?_)
  ·skip
   try simp only [oz] at hc7
   replace H:=H.keep [] rfl;refine sS H fun K28 k28=>sr 1 G<|sE ?_;intro a H
   refine k28 _ ?_;refine wp_ret ?_;refine ret1 (fn:=Tryz.f58) rfl H rfl ?_;refine ⟨?_,(S.sel [] rfl rfl)⟩;unfold cC;rw [if_pos hhd,if_pos hrt,if_pos (by omega)];unfold fH;rw [iD (k:=j) (by omega) (by unfold useOk;simp only [decide_eq_false_iff_not];generalize l.getD j aJm=u at hc6 hc7 ⊢;rintro ⟨_,_,_,_,hm⟩;cases hq:u.meas <;> simp [hq] at hc7 hm <;> omega)];rfl
  try simp only [oz] at hc7
  refine wp_skip ?_;refine k22 _ _ ?_;refine sO H<|sr 1 G<|sd (aH G G (by unfold i64ok;omega))<|sr 1 G<|sE ?_;intro a H
  exact k19 (g2-1) (j+1) a _ (by omega) (⟨by omega,by omega,by unfold fH;rw [iX (n:=0)];have h9:=hp.2.2;unfold fH at h9;rw [h9];simp only [Bool.true_and];unfold useOk;simp only [decide_eq_true_eq];rw [hpd] at hpn ⊢;generalize (l.getD (j-1) aJm).day=pd at hc6 hpn ⊢;generalize l.getD j aJm=u at hc6 hc7 ⊢;cases hq:u.meas <;> simp [hq] at hc7 ⊢ <;> omega⟩) (S.sel [1] G G) (H.keep [6,1,2] rfl)
 refine wp_exit ?_;refine k17 _ _ ?_;refine sS H fun K30 k30=>sr 1 G<|sE ?_;intro a H
 refine k30 _ ?_;refine wp_ret ?_;refine ret1 (fn:=Tryz.f58) rfl H rfl ?_;refine ⟨?_,(S.sel [] G G)⟩;have hj9:j=l.length:=by omega
 unfold cC;rw [if_pos hhd,if_pos hrt,if_pos (by omega)];rw [hj9] at hp;dsimp only;rw [if_pos hp.2.2]
theorem Ng (rates:List (Int×Int)) (pwn ptn pag:Int) (RA:Option Addr) (rcp:Nat) (s1 s2:Int) (u:Use) (w:World) (hr:InS w noF 2 RA rates.length (scell rates)) (hrn:rates.length≤9223372036854775807) (hcl:0≤u.cls∧u.cls<rates.length) (hg1:i64ok (dO (⟨rates,pwn,ptn,pag⟩:Part) u).1) (hg2:i64ok (dO (⟨rates,pwn,ptn,pag⟩:Part) u).2) (hg3:i64ok (s1+(dO (⟨rates,pwn,ptn,pag⟩:Part) u).1)) (hg4:i64ok (s2+(dO (⟨rates,pwn,ptn,pag⟩:Part) u).2)) :
    Calls Tryz.prog 96 [.agg [.slice RA rates.length rcp,.int .i64 pwn,.int .i64 ptn,.int .i64 pag].toArray,.agg [.int .i64 s1,.int .i64 s2].toArray,.agg [.int .i64 u.day,.int .i64 u.turns,.int .i64 u.cls,.bool u.meas,.int .i64 u.lo,.int .i64 u.hi].toArray].toArray w (Ret (fun v w'=>v = .agg [.int .i64 (fstep (⟨rates,pwn,ptn,pag⟩:Part) (s1,s2) u).1,.int .i64 (fstep (⟨rates,pwn,ptn,pag⟩:Part) (s1,s2) u).2].toArray∧St w noF [] w')):=by
 refine enter Tryz.func96 rfl Tryz.ntmps96 rfl (fun a H=>?_)
 have S:=St.start w
 refine aA fun K1 k1=>?_
 refine aO H rfl S G G ?_;intro b3 _ a hb3 hbw3 S H
 refine aO H rfl S G G ?_;intro b4 _ a hb4 hbw4 S H
 refine aO H rfl S G G ?_;intro b5 _ a hb5 hbw5 S H
 refine aM H rfl S eY ?_;intro b6 _ a hb6 hbw6 S H
 refine k1 _ _ ?_;replace H:=H.keep [3,4,5,6] rfl;refine aA fun K2 k2=>?_
 refine ls 6 H<|sf fP rfl<|sl S 3 iF G G G<|sf oJ rfl<|sl S 1 aC G G G<|sI dB bE G G (hr.adr (by omega)) (by omega) (by omega)<|sd ((aV eO bE rfl S hr (by omega) (by omega)))<|sE ?_;intro a H
 refine aM H rfl S eY ?_;intro b7 _ a hb7 hbw7 S H
 refine aI H S (i:=0) G G G G bE G G ?_
 clear H a S;intro _ a S H;refine k2 _ _ ?_;replace H:=H.keep [4,5,6,7] rfl;refine aA fun K3 k3=>?_
 refine ls 17 H<|sf cH rfl<|sl S 3 aC G G G<|sf iA rfl<|sl S 2 aC G G G<|sf cH rfl<|sl S 0 aC G G G<|sd (fR G G (by exact hg1))<|sd (aH G G (by exact hg3))<|sf cA rfl<|sl S 3 aC G G G<|sf iA rfl<|sl S 2 aC G G G<|sf cA rfl<|sl S 0 aC G G G<|sd (fR G G (by exact hg2))<|sd (aH G G (by exact hg4))<|sd (aN kX G G)<|sE ?_;intro a H
 refine aM H rfl S eY ?_;intro b8 _ a hb8 hbw8 S H
 refine aI H S (i:=0) G G G G bE G G ?_
 clear H a S;intro _ a S H;refine k3 _ _ ?_;have SR:=(S.sel [1,2,3,4,5] G G);refine eZ (X:=Unit) [6,8] H rfl (fun x=>[]) (fun x=>[boxM b8 79 [.int .i64 (fstep (⟨rates,pwn,ptn,pag⟩:Part) (s1,s2) u).1,.int .i64 (fstep (⟨rates,pwn,ptn,pag⟩:Part) (s1,s2) u).2]]) (fun x=>True) SR (fun K5 k5=>?_) ?_
 ·skip
  replace H:=H.keep [5,6,8] rfl;refine sS H fun K6 k6=>sf mE rfl<|sl S 3 jF G G G<|sE ?_;intro a H
  refine k6 _ ?_;refine aU H rfl (fun hc1=>?_) (fun hc1=>?_)
  ·skip
   try simp only [oz] at hc1
   replace H:=H.keep [5,6,8] rfl;refine cN ?_;refine ls 13 H<|sf cH rfl<|sl S 0 aC G G G<|sf gC rfl<|sf cH rfl<|sl S 3 aC G G G<|sd (kP G G)<|sf cA rfl<|sl S 0 aC G G G<|sf gC rfl<|sf cA rfl<|sl S 3 aC G G G<|sd (nU G G)<|sd (aN kX G G)<|sE ?_;intro a H
   refine aI H S (i:=0) G G G G bE G G ?_
   clear H a S;intro _ a S H;have e9:fstep (⟨rates,pwn,ptn,pag⟩:Part) (s1,s2) u=meetS (addS (s1,s2) (dO (⟨rates,pwn,ptn,pag⟩:Part) u)) (u.lo,u.hi):=by unfold fstep;rw [if_pos hc1]
   replace S:=aIs S (i:=0) (cs':=[.int .i64 (fstep (⟨rates,pwn,ptn,pag⟩:Part) (s1,s2) u).1,.int .i64 (fstep (⟨rates,pwn,ptn,pag⟩:Part) (s1,s2) u).2]) rfl (by rw [e9];rfl);exact k5 () a _ (trivial) (S.sel [0,1,2,3,4,5] G G) (H.keep [6,8] rfl)
  try simp only [oz] at hc1
  refine wp_skip ?_;have e9:fstep (⟨rates,pwn,ptn,pag⟩:Part) (s1,s2) u=addS (s1,s2) (dO (⟨rates,pwn,ptn,pag⟩:Part) u):=by unfold fstep;rw [if_neg (by rw [hc1];simp)]
  replace S:=aIs S (i:=0) (cs':=[.int .i64 (fstep (⟨rates,pwn,ptn,pag⟩:Part) (s1,s2) u).1,.int .i64 (fstep (⟨rates,pwn,ptn,pag⟩:Part) (s1,s2) u).2]) rfl (by rw [e9];rfl);exact k5 () a _ (trivial) (S.sel [0,1,2,3,4,5] G G) (H.keep [6,8] rfl)
 clear SR H S a;intro xm a wm hp S H;obtain ⟨x,rfl⟩:∃ y,y=xm:=⟨_,rfl⟩;replace H:=H.keep [6,8] rfl;refine aA fun K8 k8=>?_
 refine ls 1 H<|sd ((aD eO bE rfl S (i:=0) G G))<|sE ?_;intro a H
 refine aI H S (i:=2) G G G G bE G G ?_
 clear H a S;intro _ a S H;refine k8 _ _ ?_;refine wp_ret ?_;refine retA (fn:=Tryz.f96) rfl H rfl eO (by exact bE) (cY S (i:=2) rfl) ?_;exact ⟨rfl,(S.sel [] G G)⟩
theorem lM (rates:List (Int×Int)) (pwn ptn pag:Int) (RA:Option Addr) (rcp:Nat) (l:List Use) (A:Option Addr) (cp:Nat) (w:World) (hr:InS w noF 2 RA rates.length (scell rates)) (hrn:rates.length≤9223372036854775807) (hl:InS w noF 6 A l.length (ucell l)) (hn:l.length≤9223372036854775807) (hok:PartOk (⟨rates,pwn,ptn,pag⟩:Part) l) :
    Calls Tryz.prog 77 [.agg [.slice RA rates.length rcp,.int .i64 pwn,.int .i64 ptn,.int .i64 pag].toArray,.slice A l.length cp].toArray w (Ret (FwdR w (⟨rates,pwn,ptn,pag⟩:Part) l)):=by
 refine enter Tryz.func77 rfl Tryz.ntmps77 rfl (fun a H=>?_)
 have S:=St.start w
 refine aA fun K1 k1=>?_
 refine aO H rfl S G G ?_;intro b2 _ a hb2 hbw2 S H
 refine ls 2 H<|sr 2 G<|sE ?_;intro a H
 refine k1 _ _ ?_;refine sS H fun K2 k2=>sr 1 G<|sE ?_;intro a H
 refine k2 _ ?_;refine aA fun K3 k3=>?_
 refine ls 1 H<|sd (aN kX G G)<|sE ?_;intro a H
 refine aM H rfl S eY ?_;intro b7 _ a hb7 hbw7 S H
 refine aI H S (i:=0) G G G G bE G G ?_
 clear H a S;intro _ a S H;refine k3 _ _ ?_;refine wp_seq_k fun K4 k4=>?_
 refine sS H fun K5 k5=>sr 1 G<|sE ?_;intro a H
 refine k5 _ ?_;refine wp_block ?_;replace S:=S.newNil 79 2 (fcell (fun q=>fwd (⟨rates,pwn,ptn,pag⟩:Part) l (q+1)));refine loop_st (X:=Nat×Option Addr×Nat) (R0:=_) [1,2,7] H rfl (fun ⟨k,A',c'⟩=>[(6,.slice A' k c'),(8,.int .i64 (k:Int))]) (fun ⟨k,A',c'⟩=>[boxM b7 79 [.int .i64 (fwd (⟨rates,pwn,ptn,pag⟩:Part) l k).1,.int .i64 (fwd (⟨rates,pwn,ptn,pag⟩:Part) l k).2],ownM 79 2 A' k c' (fcell (fun q=>fwd (⟨rates,pwn,ptn,pag⟩:Part) l (q+1)))]) (fun g ⟨k,A',c'⟩=>k≤l.length∧g+k=l.length∧∀ q,q<k→fits (⟨rates,pwn,ptn,pag⟩:Part) l q) (l.length) (0,none,0) ?_ (S.sel [1,0,2] G G) (H.keep [6,8,1,2,7] rfl) ?_
 · exact ⟨by omega,by omega,fun q hq=>by omega⟩
 clear H S a;intro g1 x1 a w1 hp S H K6 k6;obtain ⟨k,A',c'⟩:=x1;dsimp only at hp S H;refine wp_seq_k fun K7 k7=>?_
 refine sS H fun K8 k8=>sr 2 G<|sL cJ rfl<|sr 1 G<|sE ?_;intro a H
 refine k8 _ ?_;refine condL H rfl (fun hc1=>?_) (fun hc1=>?_)
 ·skip
  refine wp_skip ?_;refine k7 _ _ ?_;refine wp_seq_k fun K9 k9=>?_
  refine wp_block ?_;have hu:=hok.use (k:=k) (by omega);unfold useOk at hu;simp only [decide_eq_true_eq] at hu;have hgb:=lA hok (k:=k) (by omega)
  have hcls:0≤(l.getD k aJm).cls∧(l.getD k aJm).cls<rates.length:=by
    have:((⟨rates,pwn,ptn,pag⟩:Part).rates.length:Int)=rates.length:=rfl
    omega
  have hll:=hok.len
  have hfb:=Bu hok k (by omega)
  replace H:=H.keep [1,2,6,7,8] rfl;refine jW 6 (by kernel_rfl) (by kernel_rfl) fun K10 k10=>?_
  replace S:=S.drew;refine sF H<|sd ((aD dJ eE rfl S (i:=2) G G))<|sd ((aD eO bE rfl S (i:=0) G G))<|sr 2 G<|si cJ bZ G G (hl.adr (by omega)) (by omega)<|sd ((aV jR bZ rfl S hl (by omega) (by omega)))<|sE ?_;intro a H
  refine aB H G G Tryz.func96 G G (Ng rates pwn ptn pag RA rcp (fwd (⟨rates,pwn,ptn,pag⟩:Part) l k).1 (fwd (⟨rates,pwn,ptn,pag⟩:Part) l k).2 (l.getD k aJm) _ (hr.now S) hrn hcls (by unfold i64ok;omega) (by unfold i64ok;omega) (by unfold i64ok;omega) (by unfold i64ok;omega)) ?_;clear H a
  rintro _ _ a ⟨rfl,S2⟩ H;replace S:=S.call S2;clear S2;refine aI H S (i:=0) rfl rfl rfl rfl bE rfl rfl ?_;clear H a S;intro _ a S H;refine k10 _ _ ?_;refine wp_seq_k fun K11 k11=>?_
  replace H:=H.keep [1,2,6,7,8] rfl;refine sS H fun K12 k12=>sf cH rfl<|sl S 0 aC G G G<|sf cA rfl<|sl S 0 aC G G G<|sr 1 G<|sE ?_;intro a H
  refine k12 _ ?_;refine condL H rfl (fun hc2=>?_) (fun hc2=>?_)
  ·skip
   replace hc2:(fwd (⟨rates,pwn,ptn,pag⟩:Part) l (k+1)).2<(fwd (⟨rates,pwn,ptn,pag⟩:Part) l (k+1)).1:=hc2;refine sS H fun K13 k13=>sr 3 G<|sE ?_;intro a H
   refine k13 _ ?_;refine wp_ret ?_;refine ret2 (fn:=Tryz.f77) rfl H G G ?_;have e9:atN (⟨rates,pwn,ptn,pag⟩:Part) l=k:=xQ ⟨by omega,hp.2.2,fun _ hf=>absurd ((Ea hok (by omega) hp.2.2).1 hf) (Int.not_le.2 hc2)⟩;exact .inr ⟨by omega,by rw [e9],(S.sel [] G G)⟩
  replace hc2:(fwd (⟨rates,pwn,ptn,pag⟩:Part) l (k+1)).1≤(fwd (⟨rates,pwn,ptn,pag⟩:Part) l (k+1)).2:=hc2;refine wp_skip ?_;refine k11 _ _ ?_;replace H:=H.keep [1,2,6,7,8] rfl;refine cN ?_;refine ls 2 H<|sr 1 G<|sd ((aD eO bE rfl S (i:=0) G G))<|sE ?_;intro a H
  refine aK H rfl S dB bE eY G G G G G G G G G ?_;intro A1 _ a hA1 S H
  refine aT H rfl S dB bE eY Js G G (i:=2) G G G (aIr S (i:=0) rfl) (lV (two G G)) (by omega) (by omega) ?_;intro A2 c2 _ a S H
  replace S:=S.recell (i:=2) rfl (cell':=fcell (fun q=>fwd (⟨rates,pwn,ptn,pag⟩:Part) l (q+1))) (xN (two G G));refine ls 1 H<|sr 1 G<|sE ?_;intro a H
  refine k9 _ _ ?_;refine sO H<|sr 1 G<|sd (aH G G (by unfold i64ok;omega))<|sr 1 G<|sE ?_;intro a H
  exact k6 (g1-1) (k+1,_,_) a _ (by omega) (⟨by omega,by omega,fun q hq=>by
    by_cases h:q=k
    · subst h;exact (Ea hok (by omega) hp.2.2).2 hc2
    · exact hp.2.2 q (by omega)⟩) (S.sel [1,2,3] G G) (H.keep [6,8,1,2,7] rfl)
 refine wp_exit ?_;refine k4 _ _ ?_;replace H:=H.keep [6] rfl;refine sS H fun K16 k16=>sr 3 G<|sE ?_;intro a H
 refine k16 _ ?_;refine wp_ret ?_;refine ret2 (fn:=Tryz.f77) rfl H G G ?_;have hk9:k=l.length:=by omega
 subst hk9;exact .inl ⟨xQ ⟨Nat.le_refl _,hp.2.2,fun h=>absurd h (Nat.lt_irrefl _)⟩,A',c',rfl,(S.sel [1] G G)⟩
theorem Ed (rates:List (Int×Int)) (pwn ptn pag:Int) (RA:Option Addr) (rcp:Nat) (l:List Use) (A:Option Addr) (cp:Nat) (w:World) (hr:InS w noF 2 RA rates.length (scell rates)) (hrn:rates.length≤9223372036854775807) (hl:InS w noF 6 A l.length (ucell l)) (hn:l.length≤9223372036854775807) (hok:PartOk (⟨rates,pwn,ptn,pag⟩:Part) l) (h0:cC (⟨rates,pwn,ptn,pag⟩:Part) l=0) :
    Calls Tryz.prog 84 [.agg [.slice RA rates.length rcp,.int .i64 pwn,.int .i64 ptn,.int .i64 pag].toArray,.slice A l.length cp].toArray w (Ret (WearR w (⟨rates,pwn,ptn,pag⟩:Part) l)):=by
 refine enter Tryz.func84 rfl Tryz.ntmps84 rfl (fun a H=>?_)
 have S:=St.start w
 refine aA fun K1 k1=>?_
 refine aO H rfl S G G ?_;intro b2 _ a hb2 hbw2 S H
 refine ls 2 H<|sr 2 G<|sE ?_;intro a H
 refine k1 _ _ ?_;rcases (show atN (⟨rates,pwn,ptn,pag⟩:Part) l=l.length∨atN (⟨rates,pwn,ptn,pag⟩:Part) l<l.length from by have:=(xP (⟨rates,pwn,ptn,pag⟩:Part) l).le;omega) with hA|hA
 ·skip
  replace H:=H.keep [1,2] rfl;refine aA fun K2 k2=>?_
  refine ls 2 H<|sd ((aD dJ eE rfl S (i:=0) G G))<|sr 1 G<|sE ?_;intro a H
  refine aB H G G Tryz.func77 G G (eD (lM rates pwn ptn pag RA rcp l A cp _ (hr.now S) hrn (hl.now S) hn hok) (fun _ _=>Eb hA)) ?_;clear H a
  rintro _ _ a ⟨A',c',rfl,S2⟩ H;replace S:=S.call S2;clear S2;refine ls 5 H<|sr 5 G<|sE ?_;intro a H
  refine k2 _ _ ?_;refine wp_seq_k fun K3 k3=>?_
  replace H:=H.keep [1,2,6,7] rfl;refine sS H fun K4 k4=>sr 2 G<|sE ?_;intro a H
  refine k4 _ ?_;refine aU H rfl (fun hc1=>?_) (fun hc1=>?_)
  ·skip
   skip
   simp at hc1
  skip
  refine wp_skip ?_;refine k3 _ _ ?_;refine wp_seq_k fun K5 k5=>?_
  refine sS H fun K6 k6=>sr 1 G<|sL cJ rfl<|sd (aS G G (by unfold i64ok;omega))<|sr 1 G<|sE ?_;intro a H
  refine k6 _ ?_;refine wp_block ?_;have hll:=hok.len
  replace S:=S.recell (i:=0) rfl (cell':=fcell (fun q=>if (l.length:Int)-2<((q:Nat):Int) then bJ (⟨rates,pwn,ptn,pag⟩:Part) l q else fwd (⟨rates,pwn,ptn,pag⟩:Part) l (q+1))) (fun q j hq hj=>by
    unfold fcell;congr 1;(try dsimp only);by_cases h1:(l.length:Int)-2<((q:Nat):Int)
    · rw [if_pos h1,lL (show q+1=l.length by omega),show q+1=l.length by omega]
    · rw [if_neg h1])
  refine loop_st (X:=Int) (R0:=_) [1,2,6] H rfl (fun i=>[(8,.int .i64 i)]) (fun i=>[ownM 79 2 A' l.length c' (fcell (fun q=>if i<((q:Nat):Int) then bJ (⟨rates,pwn,ptn,pag⟩:Part) l q else fwd (⟨rates,pwn,ptn,pag⟩:Part) l (q+1)))]) (fun g i => -2≤i∧i≤(l.length:Int)-2∧g=(i+2).toNat) (l.length) ((l.length:Int)-2) ?_ (S.sel [0,1] G G) (H.keep [8,1,2,6] rfl) ?_
  · exact ⟨by omega,by omega,by omega⟩
  clear H S a;intro g1 x1 a w1 hp S H K7 k7;obtain ⟨i,rfl⟩:∃ y,y=x1:=⟨_,rfl⟩;refine wp_seq_k fun K8 k8=>?_
  refine sS H fun K9 k9=>sr 2 G<|sE ?_;intro a H
  refine k9 _ ?_;refine condG H rfl (fun hc2=>?_) (fun hc2=>?_)
  ·skip
   refine wp_skip ?_;refine k8 _ _ ?_;refine wp_seq_k fun K10 k10=>?_
   refine wp_block ?_;have hu:=hok.use (k:=(i+1).toNat) (by omega);unfold useOk at hu;simp only [decide_eq_true_eq] at hu;have hgb:=lA hok (k:=(i+1).toNat) (by omega)
   have hcls:0≤(l.getD (i+1).toNat aJm).cls∧(l.getD (i+1).toNat aJm).cls<rates.length:=by
     have:((⟨rates,pwn,ptn,pag⟩:Part).rates.length:Int)=rates.length:=rfl
     omega
   have hll:=hok.len
   have hnn:0≤i+1:=by omega
   have hbw:=jJ hok (k:=(i+1).toNat) (by omega)
   have ht8:(i+1).toNat=i.toNat+1:=by omega
   have hgr:dO (⟨rates,pwn,ptn,pag⟩:Part) (l.getD (i+1).toNat aJm)=((l.getD (i+1).toNat aJm).turns*(rates.getD (l.getD (i+1).toNat aJm).cls.toNat (0,0)).1,(l.getD (i+1).toNat aJm).turns*(rates.getD (l.getD (i+1).toNat aJm).cls.toNat (0,0)).2):=rfl
   rw [hgr] at hgb;replace H:=H.keep [1,2,6,8] rfl;replace S:=S.drew;refine cQ [(0,true),(1,true),(2,true),(3,true),(4,true),(5,true),(6,true),(7,true),(8,true),(9,true),(10,false),(11,false)] (by kernel_rfl) (by kernel_rfl) (S.sel [0,1] G G) fun K11 k11=>?_
   refine qF H<|qd G (fun _ S=>(aF fP rfl))<|qd G (fun _ S=>aE iF rfl (aIo S (i:=1) G G))<|qr 2 G<|qd G (fun _ S=>aH G G (by unfold i64ok;omega))<|qd G (fun _ S=>bU cJ bZ G G (hl.adr (by omega)) (by omega) (by omega))<|qd G (fun _ S=>(bV oJ rfl))<|qd G (fun _ S=>aE aC rfl (hl.rd S (by omega) (by omega)))<|qd G (fun _ S=>bU dB bE G G (hr.adr (by omega)) (by omega) (by omega))<|qd G (fun _ S=>(aV eO bE rfl S hr (by omega) (by omega)))<|qK ?_;intro a H
   refine bD rfl ?_
   refine aM H rfl S eY ?_;intro b9 _ a hb9 hbw9 S H
   refine wpList_nil (And.intro (S.sel [1,2] G G) ?_);refine bD rfl ?_;refine aI H S (i:=0) G G G G bE G G ?_;clear H a S;intro _ a S H;refine wpList_nil (And.intro (S.sel [1,2] G G) ?_);refine bY ?_;refine k11 _ _ ?_;replace H:=H.keep [1,2,6,8,9] rfl;refine jW 26 (by kernel_rfl) (by kernel_rfl) fun K12 k12=>?_
   replace S:=S.drew;refine sF H<|sr 4 G<|sI dB bE G G (aIp S (i:=1) rfl (by omega)) (by omega) (by omega)<|sp cH rfl<|sd (aE aC rfl (by have h9:=aIq S (i:=1) (k:=i.toNat) (j:=0) rfl (by omega) (by omega);unfold fcell at h9;dsimp only at h9;rw [if_neg (by omega)] at h9;exact h9))<|sr 2 G<|sd (aH G G (by unfold i64ok;omega))<|sI dB bE G G (aIp S (i:=1) rfl (by omega)) (by omega) (by omega)<|sp cH rfl<|sd (aE aC rfl (by have h9:=aIq S (i:=1) (k:=(i+1).toNat) (j:=0) rfl (by omega) (by omega);unfold fcell at h9;dsimp only at h9;rw [if_pos (by omega)] at h9;exact h9))<|sr 2 G<|sd (aH G G (by unfold i64ok;omega))<|sI cJ bZ G G (hl.adr (by omega)) (by omega) (by omega)<|sp iA rfl<|slm aC rfl (hl.rd S (by omega) (by omega))<|sf cA rfl<|sl S 0 aC G G G<|sd (fR G G (by unfold i64ok;omega))<|sd (aS G G (by unfold i64ok;omega))<|sd (kP G G)<|sI dB bE G G (aIp S (i:=1) rfl (by omega)) (by omega) (by omega)<|sp cH rfl<|sE ?_;intro a H
   refine bB H S (i:=1) (j:=0) G G G (by omega) (by omega) aY rfl ?_
   clear H a S;intro _ a S H
   have S:=S.recell (i:=1) rfl (cell':=fcell (fun q=>if q=i.toNat then ((bJ (⟨rates,pwn,ptn,pag⟩:Part) l q).1,(fwd (⟨rates,pwn,ptn,pag⟩:Part) l (q+1)).2) else if i<((q:Nat):Int) then bJ (⟨rates,pwn,ptn,pag⟩:Part) l q else fwd (⟨rates,pwn,ptn,pag⟩:Part) l (q+1))) (fun q j hq hj=>by
     have e9:=eK (p:=(⟨rates,pwn,ptn,pag⟩:Part)) (l:=l) (k:=i.toNat) (by omega)
     unfold cput fcell;by_cases h1:q=i.toNat
     · subst h1;rcases (show j=0∨j=1 by omega) with rfl|rfl
       · rw [if_pos ⟨rfl,rfl⟩];dsimp only;rw [if_pos rfl];show Value.int .i64 _=Value.int .i64 (bJ (⟨rates,pwn,ptn,pag⟩:Part) l i.toNat).1;rw [ht8,e9];rfl
       · rw [if_neg (by omega)];dsimp only;rw [if_pos rfl,if_neg (by omega)];rfl
     · rw [if_neg (by omega)];dsimp only;rw [if_neg h1])
   refine k12 _ _ ?_;replace H:=H.keep [1,2,6,8,9] rfl;refine iO 26 (by kernel_rfl) (by kernel_rfl) ?_;replace S:=S.drew;refine sF H<|sr 4 G<|sI dB bE G G (aIp S (i:=1) rfl (by omega)) (by omega) (by omega)<|sp cA rfl<|sd (aE aC rfl (by have h9:=aIq S (i:=1) (k:=i.toNat) (j:=1) rfl (by omega) (by omega);unfold fcell at h9;dsimp only at h9;rw [if_pos rfl] at h9;exact h9))<|sr 2 G<|sd (aH G G (by unfold i64ok;omega))<|sI dB bE G G (aIp S (i:=1) rfl (by omega)) (by omega) (by omega)<|sp cA rfl<|sd (aE aC rfl (by have h9:=aIq S (i:=1) (k:=(i+1).toNat) (j:=1) rfl (by omega) (by omega);unfold fcell at h9;dsimp only at h9;rw [if_neg (by omega),if_pos (by omega)] at h9;exact h9))<|sr 2 G<|sd (aH G G (by unfold i64ok;omega))<|sI cJ bZ G G (hl.adr (by omega)) (by omega) (by omega)<|sp iA rfl<|slm aC rfl (hl.rd S (by omega) (by omega))<|sf cH rfl<|sl S 0 aC G G G<|sd (fR G G (by unfold i64ok;omega))<|sd (aS G G (by unfold i64ok;omega))<|sd (nU G G)<|sI dB bE G G (aIp S (i:=1) rfl (by omega)) (by omega) (by omega)<|sp cA rfl<|sE ?_;intro a H
   refine bB H S (i:=1) (j:=1) G G G (by omega) (by omega) aY rfl ?_
   clear H a S;intro _ a S H
   have S:=S.recell (i:=1) rfl (cell':=fcell (fun q=>if i-1<((q:Nat):Int) then bJ (⟨rates,pwn,ptn,pag⟩:Part) l q else fwd (⟨rates,pwn,ptn,pag⟩:Part) l (q+1))) (fun q j hq hj=>by
     have e9:=eK (p:=(⟨rates,pwn,ptn,pag⟩:Part)) (l:=l) (k:=i.toNat) (by omega)
     unfold cput fcell;by_cases h1:q=i.toNat
     · subst h1;rcases (show j=0∨j=1 by omega) with rfl|rfl
       · rw [if_neg (by omega)];dsimp only;rw [if_pos rfl,if_pos (by omega)];rfl
       · rw [if_pos ⟨rfl,rfl⟩];dsimp only;rw [if_pos (by omega)];show Value.int .i64 _=Value.int .i64 (bJ (⟨rates,pwn,ptn,pag⟩:Part) l i.toNat).2;rw [ht8,e9];rfl
     · rw [if_neg (by omega)];dsimp only;rw [if_neg h1];by_cases h2:i<(q:Int)
       · rw [if_pos h2,if_pos (by omega)]
       · rw [if_neg h2,if_neg (by omega)])
   refine k10 _ _ ?_;replace H:=H.keep [1,2,6,8] rfl;refine sO H<|sr 1 G<|sd (aS G G (by unfold i64ok;omega))<|sr 1 G<|sE ?_;intro a H
   exact k7 (g1-1) (i-1) a _ (by omega) (⟨by omega,by omega,by omega⟩) (S.sel [1,2] G G) (H.keep [8,1,2,6] rfl)
  refine wp_exit ?_;refine k5 _ _ ?_;refine sS H fun K15 k15=>sr 3 G<|sE ?_;intro a H
  refine k15 _ ?_;refine wp_ret ?_;refine ret2 (fn:=Tryz.f84) rfl H G G ?_;refine .inl ⟨mL h0 (Ki.2 hA),A',c',rfl,?_⟩;replace S:=S.recell (i:=0) rfl (cell':=fcell (bJ (⟨rates,pwn,ptn,pag⟩:Part) l)) (fun q j hq hj=>by unfold fcell;congr 1;exact if_pos (by omega));exact (S.sel [0] G G)
 replace H:=H.keep [1,2] rfl;refine aA fun K16 k16=>?_
 refine ls 2 H<|sd ((aD dJ eE rfl S (i:=0) G G))<|sr 1 G<|sE ?_;intro a H
 refine aB H G G Tryz.func77 G G (eD (lM rates pwn ptn pag RA rcp l A cp _ (hr.now S) hrn (hl.now S) hn hok) (fun _ _=>Kj hA)) ?_;clear H a
 rintro _ _ a ⟨rfl,S2⟩ H;replace S:=S.call S2;clear S2;refine ls 5 H<|sr 5 G<|sE ?_;intro a H
 refine k16 _ _ ?_;refine wp_seq_k fun K17 k17=>?_
 replace H:=H.keep [1,2,6,7] rfl;refine sS H fun K18 k18=>sr 2 G<|sE ?_;intro a H
 refine k18 _ ?_;refine condG H rfl (fun hc3=>?_) (fun hc3=>?_)
 ·skip
  refine sS H fun K19 k19=>sr 2 G<|sE ?_;intro a H
  refine k19 _ ?_;refine wp_ret ?_;refine ret2 (fn:=Tryz.f84) rfl H G G ?_;have e9:=xR h0 (fun h=>by have:=xQ h;omega);exact .inr ⟨by omega,by rw [e9],(S.sel [] G G)⟩
 all_goals (exfalso;omega)
end
section
theorem or3 (a b c:Bool):((a||b)||c)=((b||c)||a):=by cases a <;> cases b <;> cases c <;> rfl
theorem qP (rates:List (Int×Int)) (pwn ptn pag:Int) (RA:Option Addr) (rcp:Nat) (l:List Use) (A:Option Addr) (cp:Nat) (w:World) (hr:InS w noF 2 RA rates.length (scell rates)) (hrn:rates.length≤9223372036854775807) (hl:InS w noF 6 A l.length (ucell l)) (hn:l.length≤9223372036854775807) :
    Calls Tryz.prog 67 [.agg [.slice RA rates.length rcp,.int .i64 pwn,.int .i64 ptn,.int .i64 pag].toArray,.slice A l.length cp].toArray w (Ret (WearR w (⟨rates,pwn,ptn,pag⟩:Part) l)):=by
 refine enter Tryz.func67 rfl Tryz.ntmps67 rfl (fun a H=>?_)
 have S:=St.start w
 refine aA fun K1 k1=>?_
 refine aO H rfl S G G ?_;intro b2 _ a hb2 hbw2 S H
 refine ls 2 H<|sr 2 G<|sE ?_;intro a H
 refine k1 _ _ ?_;refine wp_seq_k fun K2 k2=>?_
 refine aA fun K3 k3=>?_
 refine ls 2 H<|sd ((aD dJ eE rfl S (i:=0) G G))<|sr 1 G<|sE ?_;intro a H
 refine aB H G G Tryz.func81 G G (uP rates pwn ptn pag RA rcp l A cp _ (hr.now S) hrn (hl.now S) hn) ?_;clear H a
 rintro _ _ a ⟨rfl,S2⟩ H;replace S:=S.call S2;clear S2;refine ls 1 H<|sr 1 G<|sE ?_;intro a H
 refine k3 _ _ ?_;refine sS H fun K4 k4=>sr 2 G<|sE ?_;intro a H
 refine k4 _ ?_;refine condN H rfl (fun hc1=>?_) (fun hc1=>?_)
 ·skip
  replace H:=H.keep [6] rfl;refine sS H fun K5 k5=>sr 3 G<|sE ?_;intro a H
  refine k5 _ ?_;refine wp_ret ?_;refine ret2 (fn:=Tryz.f67) rfl H G G ?_;have e9:=zT (p:=(⟨rates,pwn,ptn,pag⟩:Part)) (l:=l) (by omega);exact .inr ⟨by omega,by rw [e9],(S.sel [] G G)⟩
 refine wp_skip ?_;refine k2 _ _ ?_;have h0:cC (⟨rates,pwn,ptn,pag⟩:Part) l=0:=by omega
 have hok:=kN h0
 by_cases hA:IsAt (⟨rates,pwn,ptn,pag⟩:Part) l l.length
 ·skip
  replace H:=H.keep [1,2] rfl;refine aA fun K6 k6=>?_
  refine ls 2 H<|sd ((aD dJ eE rfl S (i:=0) G G))<|sr 1 G<|sE ?_;intro a H
  refine aB H G G Tryz.func82 G G (eD (xO rates pwn ptn pag RA rcp l A cp _ (hr.now S) hrn (hl.now S) hn hok) (fun _ _=>Sx hA)) ?_;clear H a
  rintro _ _ a ⟨A',c',rfl,S2⟩ H;replace S:=S.call S2;clear S2;refine ls 5 H<|sr 5 G<|sE ?_;intro a H
  refine k6 _ _ ?_;refine wp_seq_k fun K7 k7=>?_
  replace H:=H.keep [7,8] rfl;refine sS H fun K8 k8=>sr 2 G<|sE ?_;intro a H
  refine k8 _ ?_;refine aU H rfl (fun hc2=>?_) (fun hc2=>?_)
  ·skip
   skip
   cases hc2
  skip
  refine wp_skip ?_;refine k7 _ _ ?_;refine sS H fun K9 k9=>sr 3 G<|sE ?_;intro a H
  refine k9 _ ?_;refine wp_ret ?_;refine ret2 (fn:=Tryz.f67) rfl H G G ?_;exact .inl ⟨mL h0 hA,A',c',rfl,(S.sel [0] G G)⟩
 replace H:=H.keep [1,2] rfl;refine aA fun K10 k10=>?_
 refine ls 2 H<|sd ((aD dJ eE rfl S (i:=0) G G))<|sr 1 G<|sE ?_;intro a H
 refine aB H G G Tryz.func82 G G (eD (xO rates pwn ptn pag RA rcp l A cp _ (hr.now S) hrn (hl.now S) hn hok) (fun _ _=>Zg hA)) ?_;clear H a
 rintro _ _ a ⟨rfl,S2⟩ H;replace S:=S.call S2;clear S2;refine ls 5 H<|sr 5 G<|sE ?_;intro a H
 refine k10 _ _ ?_;refine wp_seq_k fun K11 k11=>?_
 replace H:=H.keep [7,8] rfl;refine sS H fun K12 k12=>sr 2 G<|sE ?_;intro a H
 refine k12 _ ?_;refine aU H rfl (fun hc3=>?_) (fun hc3=>?_)
 ·skip
  skip
  refine sS H fun K13 k13=>sr 2 G<|sE ?_;intro a H
  refine k13 _ ?_;refine wp_ret ?_;refine ret2 (fn:=Tryz.f67) rfl H G G ?_;have e9:=xR h0 hA;exact .inr ⟨by omega,by rw [e9],(S.sel [] G G)⟩
 skip
 cases hc3
theorem Ee (rates:List (Int×Int)) (pwn ptn pag:Int) (RA:Option Addr) (rcp:Nat) (l:List Use) (A:Option Addr) (cp:Nat) (w:World) (hr:InS w noF 2 RA rates.length (scell rates)) (hrn:rates.length≤9223372036854775807) (hl:InS w noF 6 A l.length (ucell l)) (hn:l.length≤9223372036854775807) :
    Calls Tryz.prog 59 [.agg [.slice RA rates.length rcp,.int .i64 pwn,.int .i64 ptn,.int .i64 pag].toArray,.slice A l.length cp].toArray w (Ret (fun v w'=>v = .tuple #[.int .i64 (refO (⟨rates,pwn,ptn,pag⟩:Part) l).1,.bool (refO (⟨rates,pwn,ptn,pag⟩:Part) l).2.1,.int .i64 (refO (⟨rates,pwn,ptn,pag⟩:Part) l).2.2]∧St w noF [] w')):=by
 refine enter Tryz.func59 rfl Tryz.ntmps59 rfl (fun a H=>?_)
 have S:=St.start w
 refine aA fun K1 k1=>?_
 refine aO H rfl S G G ?_;intro b2 _ a hb2 hbw2 S H
 refine ls 3 H<|sr 3 G<|sE ?_;intro a H
 refine k1 _ _ ?_;refine aA fun K2 k2=>?_
 refine ls 2 H<|sd ((aD dJ eE rfl S (i:=0) G G))<|sr 1 G<|sE ?_;intro a H
 refine aB H G G Tryz.func58 G G (lW rates pwn ptn pag RA rcp l A cp _ (hr.now S) hrn (hl.now S) hn) ?_;clear H a
 rintro _ _ a ⟨rfl,S2⟩ H;replace S:=S.call S2;clear S2;refine ls 1 H<|sr 1 G<|sE ?_;intro a H
 refine k2 _ _ ?_;refine wp_seq_k fun K3 k3=>?_
 replace H:=H.keep [1,2,7] rfl;refine sS H fun K4 k4=>sr 2 G<|sE ?_;intro a H
 refine k4 _ ?_;refine condN H rfl (fun hc1=>?_) (fun hc1=>?_)
 ·skip
  refine sS H fun K5 k5=>sr 4 G<|sE ?_;intro a H
  refine k5 _ ?_;refine wp_ret ?_;refine ret3 (fn:=Tryz.f59) rfl H G G G ?_;unfold refO;rw [if_pos (by omega)];exact ⟨rfl,(S.sel [] G G)⟩
 refine wp_skip ?_;refine k3 _ _ ?_;have h0:cC (⟨rates,pwn,ptn,pag⟩:Part) l=0:=by omega
 have hok:=kN h0
 rcases (show atN (⟨rates,pwn,ptn,pag⟩:Part) l=l.length∨atN (⟨rates,pwn,ptn,pag⟩:Part) l<l.length from by have:=(xP (⟨rates,pwn,ptn,pag⟩:Part) l).le;omega) with hA|hA
 ·skip
  replace H:=H.keep [1,2] rfl;refine aA fun K6 k6=>?_
  refine ls 2 H<|sd ((aD dJ eE rfl S (i:=0) G G))<|sr 1 G<|sE ?_;intro a H
  refine aB H G G Tryz.func77 G G (eD (lM rates pwn ptn pag RA rcp l A cp _ (hr.now S) hrn (hl.now S) hn hok) (fun _ _=>Eb hA)) ?_;clear H a
  rintro _ _ a ⟨A',c',rfl,S2⟩ H;replace S:=S.call S2;clear S2;refine ls 5 H<|sr 5 G<|sE ?_;intro a H
  refine k6 _ _ ?_;replace H:=H.keep [9] rfl;refine sS H fun K7 k7=>sr 1 G<|sd (kP G G)<|sr 5 G<|sE ?_;intro a H
  refine k7 _ ?_;refine wp_ret ?_;refine ret3 (fn:=Tryz.f59) rfl H G G G ?_;unfold refO;rw [if_neg (by omega),if_neg (by omega)];exact ⟨rfl,(S.sel [] G G)⟩
 replace H:=H.keep [1,2] rfl;refine aA fun K8 k8=>?_
 refine ls 2 H<|sd ((aD dJ eE rfl S (i:=0) G G))<|sr 1 G<|sE ?_;intro a H
 refine aB H G G Tryz.func77 G G (eD (lM rates pwn ptn pag RA rcp l A cp _ (hr.now S) hrn (hl.now S) hn hok) (fun _ _=>Kj hA)) ?_;clear H a
 rintro _ _ a ⟨rfl,S2⟩ H;replace S:=S.call S2;clear S2;refine ls 5 H<|sr 5 G<|sE ?_;intro a H
 refine k8 _ _ ?_;replace H:=H.keep [9] rfl;refine sS H fun K9 k9=>sr 1 G<|sd (kP G G)<|sr 5 G<|sE ?_;intro a H
 refine k9 _ ?_;refine wp_ret ?_;refine ret3 (fn:=Tryz.f59) rfl H G G G ?_;unfold refO;rw [if_neg (by omega),if_pos hA];refine ⟨?_,(S.sel [] G G)⟩;have e1:max 0 ((atN (⟨rates,pwn,ptn,pag⟩:Part) l:Nat):Int)=atN (⟨rates,pwn,ptn,pag⟩:Part) l:=by omega
 rw [e1];rw [decide_eq_true (show (0:Int)≤(atN (⟨rates,pwn,ptn,pag⟩:Part) l:Int) by omega)]
theorem Ta (rates:List (Int×Int)) (pwn ptn pag:Int) (RA:Option Addr) (rcp:Nat) (l:List Use) (A:Option Addr) (cp:Nat) (w:World) (hr:InS w noF 2 RA rates.length (scell rates)) (hrn:rates.length≤9223372036854775807) (hl:InS w noF 6 A l.length (ucell l)) (hn:l.length≤9223372036854775807) (hok:PartOk (⟨rates,pwn,ptn,pag⟩:Part) l) (k:Nat) (wr:Int) (hk:k<l.length) :
    Calls Tryz.prog 102 [.agg [.slice RA rates.length rcp,.int .i64 pwn,.int .i64 ptn,.int .i64 pag].toArray,.slice A l.length cp,.int .i64 (k:Int),.int .i64 wr].toArray w (Ret (fun v w'=>v = .bool (wornB (⟨rates,pwn,ptn,pag⟩:Part) l k wr)∧St w noF [] w')):=by
 have hh:=hok.hdr;unfold iY at hh;simp only [decide_eq_true_eq] at hh;have hll:=hok.len
 refine enter Tryz.func102 rfl Tryz.ntmps102 rfl (fun a H=>?_)
 have S:=St.start w
 refine aA fun K1 k1=>?_
 refine aO H rfl S G G ?_;intro b4 _ a hb4 hbw4 S H
 refine ls 1 H<|sr 1 G<|sE ?_;intro a H
 refine k1 _ _ ?_;refine sS H fun K2 k2=>sr 1 G<|sE ?_;intro a H
 refine k2 _ ?_;refine wp_seq_k fun K3 k3=>?_
 refine sS H fun K4 k4=>sr 1 G<|sE ?_;intro a H
 refine k4 _ ?_;refine wp_block ?_;refine loop_st (X:=Nat) (R0:=_) [1,2,3,4] H rfl (fun j=>[(9,.int .i64 (sumT l j)),(10,.int .i64 (j:Int))]) (fun j=>[]) (fun g j=>j≤k+1∧g+j=k+1) (k+1) 0 ?_ (S.sel [0] G G) (H.keep [9,10,1,2,3,4] rfl) ?_
 · exact ⟨by omega,by omega⟩
 clear H S a;intro g1 x1 a w1 hp S H K5 k5;obtain ⟨j,rfl⟩:∃ y,y=x1:=⟨_,rfl⟩;refine wp_seq_k fun K6 k6=>?_
 refine sS H fun K7 k7=>sr 3 G<|sE ?_;intro a H
 refine k7 _ ?_;refine condG H rfl (fun hc1=>?_) (fun hc1=>?_)
 ·skip
  refine wp_skip ?_;refine k6 _ _ ?_;refine wp_seq_k fun K8 k8=>?_
  refine wp_block ?_;have hsb:=Kh hok j (by omega);have hu:=hok.use (k:=j) (by omega);unfold useOk at hu;simp only [decide_eq_true_eq] at hu;replace H:=H.keep [1,2,3,4,9,10] rfl;refine sO H<|sr 3 G<|si cJ bZ G G (hl.adr (by omega)) (by omega)<|sp iA rfl<|slm aC rfl (hl.rd S (by omega) (by omega))<|sd (aH G G (by unfold i64ok;omega))<|sr 1 G<|sE ?_;intro a H
  refine k8 _ _ ?_;replace H:=H.keep [1,2,3,4,9,10] rfl;refine sO H<|sr 1 G<|sd (aH G G (by unfold i64ok;omega))<|sr 1 G<|sE ?_;intro a H
  exact k5 (g1-1) (j+1) a _ (by omega) (by omega) (S.sel [0] G G) (H.keep [9,10,1,2,3,4] rfl)
 refine wp_exit ?_;refine k3 _ _ ?_;replace H:=H.keep [1,2,3,4,9] rfl;replace S:=S.drew;refine sD H fun K11 k11=>sr 1 G<|sf uX rfl<|sl S 0 aC G G G<|sd (fR G G (by unfold i64ok;omega))<|sr 2 G<|sg 4 5 28 32 false G G (fun hg6=>sy hg6<|sr 1 G<|sy hg6<|sf pF rfl<|sy hg6<|sl S 0 aC G G G<|sy hg6<|sr 1 G<|sz 4 G G G)<|so G G G<|sr 1 G<|sg 8 11 34 42 false G G (fun hg12=>sy hg12<|sr 1 G<|sy hg12<|sr 1 G<|sy hg12<|si cJ bZ G G (hl.adr (by omega)) (by omega)<|sy hg12<|sp hZ rfl<|sy hg12<|slm aC rfl (hl.rd S (by omega) (by omega))<|sy hg12<|sf rK rfl<|sy hg12<|sl S 0 aC G G G<|sy hg12<|sr 1 G<|sz 8 G G G)<|so G G G<|sr 1 G<|sE ?_;intro a H
 refine k11 _ ?_;refine wp_ret ?_;refine ret1 (fn:=Tryz.f102) rfl H rfl ?_;have hj9:j=k+1:=by omega
 subst hj9;exact ⟨congrArg Value.bool (or3 _ _ _),(S.sel [] G G)⟩
theorem Hx (rates:List (Int×Int)) (pwn ptn pag:Int) (RA:Option Addr) (rcp:Nat) (l:List Use) (A:Option Addr) (cp:Nat) (w:World) (hr:InS w noF 2 RA rates.length (scell rates)) (hrn:rates.length≤9223372036854775807) (hl:InS w noF 6 A l.length (ucell l)) (hn:l.length≤9223372036854775807) (hok:PartOk (⟨rates,pwn,ptn,pag⟩:Part) l) (SA:Option Addr) (sc:Nat) (gb:Bool) (hs:InS w noF 2 SA l.length (fcell (bJ (⟨rates,pwn,ptn,pag⟩:Part) l))) :
    Calls Tryz.prog 85 [.agg [.slice RA rates.length rcp,.int .i64 pwn,.int .i64 ptn,.int .i64 pag].toArray,.slice A l.length cp,.slice SA l.length sc,.bool gb].toArray w (Ret (fun v w'=>v = .int .i64 (jE (fun k=>wornB (⟨rates,pwn,ptn,pag⟩:Part) l k (selE gb (bJ (⟨rates,pwn,ptn,pag⟩:Part) l k))) l.length)∧St w noF [] w')):=by
 refine enter Tryz.func85 rfl Tryz.ntmps85 rfl (fun a H=>?_)
 have S:=St.start w
 refine aA fun K1 k1=>?_
 refine aO H rfl S G G ?_;intro b4 _ a hb4 hbw4 S H
 refine ls 1 H<|sr 1 G<|sE ?_;intro a H
 refine k1 _ _ ?_;refine wp_seq_k fun K2 k2=>?_
 refine sS H fun K3 k3=>sr 1 G<|sE ?_;intro a H
 refine k3 _ ?_;refine wp_block ?_;refine loop_st (X:=Nat) (R0:=_) [1,2,3,4] H rfl (fun k=>[(9,.int .i64 (k:Int))]) (fun k=>[]) (fun g k=>k≤l.length∧g+k=l.length∧∀ q,q<k→(fun k=>wornB (⟨rates,pwn,ptn,pag⟩:Part) l k (selE gb (bJ (⟨rates,pwn,ptn,pag⟩:Part) l k))) q=false) (l.length) 0 ?_ (S.sel [0] G G) (H.keep [9,1,2,3,4] rfl) ?_
 · exact ⟨by omega,by omega,fun q hq=>absurd hq (Nat.not_lt_zero _)⟩
 clear H S a;intro g1 x1 a w1 hp S H K4 k4;obtain ⟨k,rfl⟩:∃ y,y=x1:=⟨_,rfl⟩;refine wp_seq_k fun K5 k5=>?_
 refine sS H fun K6 k6=>sr 2 G<|sL cJ rfl<|sr 1 G<|sE ?_;intro a H
 refine k6 _ ?_;refine condL H rfl (fun hc1=>?_) (fun hc1=>?_)
 ·skip
  refine wp_skip ?_;refine k5 _ _ ?_;refine wp_seq_k fun K7 k7=>?_
  refine wp_block ?_;replace H:=H.keep [1,2,3,4,9] rfl;refine sS H fun K8 k8=>sr 2 G<|si dB bE G G (hs.adr (by omega)) (by omega)<|sp cH rfl<|slm aC rfl (hs.rd S (by omega) (by omega))<|sr 1 G<|sE ?_;intro a H
  refine k8 _ ?_;have hp1:=hp;have SR:=(S.sel [0] G G);refine eZ (X:=Int) [1,2,3,4,9] H rfl (fun x=>[(10,.int .i64 x)]) (fun x=>[]) (fun x=>x=selE gb (bJ (⟨rates,pwn,ptn,pag⟩:Part) l k)) SR (fun K10 k10=>?_) ?_
  ·skip
   refine sS H fun K11 k11=>sr 1 G<|sE ?_;intro a H
   refine k11 _ ?_;refine aU H rfl (fun hc2=>?_) (fun hc2=>?_)
   ·skip
    try simp only [oz] at hc2
    replace H:=H.keep [1,2,3,4,9] rfl;refine sO H<|sr 2 G<|si dB bE G G (hs.adr (by omega)) (by omega)<|sp cA rfl<|slm aC rfl (hs.rd S (by omega) (by omega))<|sr 1 G<|sE ?_;intro a H
    exact k10 _ a _ (by unfold selE;rw [hc2];rfl) (S.sel [0] G G) (H.keep [10,1,2,3,4,9] rfl)
   try simp only [oz] at hc2
   refine wp_skip ?_;exact k10 _ a _ (by unfold selE;rw [hc2];rfl) (S.sel [0] G G) (H.keep [10,1,2,3,4,9] rfl)
  clear SR H S a;intro xm a wm hp S H;obtain ⟨x,rfl⟩:∃ y,y=xm:=⟨_,rfl⟩;have hx:=hp;replace hp:=hp1;replace H:=H.keep [1,2,3,4,9,10] rfl;refine aA fun K13 k13=>?_
  refine ls 4 H<|sd ((aD dJ eE rfl S (i:=0) G G))<|sr 3 G<|sE ?_;intro a H
  refine aB H G G Tryz.func102 G G (Ta rates pwn ptn pag RA rcp l A cp _ (hr.now S) hrn (hl.now S) hn hok k x (by omega)) ?_;clear H a
  rintro _ _ a ⟨rfl,S2⟩ H;replace S:=S.call S2;clear S2;refine k13 _ _ ?_;refine aU H rfl (fun hc3=>?_) (fun hc3=>?_)
  ·skip
   skip
   refine sS H fun K14 k14=>sr 2 G<|sE ?_;intro a H
   refine k14 _ ?_;refine wp_ret ?_;refine ret1 (fn:=Tryz.f85) rfl H rfl ?_;rw [mK (show k<l.length by omega) (by rw [hx] at hc3;exact hc3) hp.2.2];exact ⟨rfl,(S.sel [] G G)⟩
  skip
  refine wp_skip ?_;refine k7 _ _ ?_;replace H:=H.keep [1,2,3,4,9] rfl;refine sO H<|sr 1 G<|sd (aH G G (by unfold i64ok;omega))<|sr 1 G<|sE ?_;intro a H
  exact k4 (g1-1) (k+1) a _ (by omega) (⟨by omega,by omega,fun q hq=>by
    by_cases h:q=k
    · subst h;rw [hx] at hc3;exact hc3
    · exact hp.2.2 q (by omega)⟩) (S.sel [0] G G) (H.keep [9,1,2,3,4] rfl)
 refine wp_exit ?_;refine k2 _ _ ?_;refine sS H fun K16 k16=>sr 1 G<|sE ?_;intro a H
 refine k16 _ ?_;refine wp_ret ?_;refine ret1 (fn:=Tryz.f85) rfl H rfl ?_;have hk9:k=l.length:=by omega
 subst hk9;rw [oQ hp.2.2];exact ⟨rfl,(S.sel [] G G)⟩
theorem xS (a b:Int) (w:World) :
    Calls Tryz.prog 116 [.agg [.int .i64 a,.int .i64 b].toArray].toArray w (Ret (fun v w'=>v = .int .i64 (Prod.snd (a,b))∧St w noF [] w')):=by
 refine enter Tryz.func116 rfl Tryz.ntmps116 rfl (fun a H=>?_)
 have S:=St.start w
 refine aA fun K1 k1=>?_
 refine aO H rfl S G G ?_;intro b1 _ a hb1 hbw1 S H
 refine ls 1 H<|sr 1 G<|sE ?_;intro a H
 refine k1 _ _ ?_;refine sS H fun K2 k2=>sf cA rfl<|sl S 0 aC G G G<|sr 1 G<|sE ?_;intro a H
 refine k2 _ ?_;refine wp_ret ?_;refine ret1 (fn:=Tryz.f116) rfl H rfl ?_;exact ⟨rfl,(S.sel [] G G)⟩
theorem xT {P:Program} {w:World} {L:List (Nat×Value)} {ty:TypeId} {pos:String} {af:Array Edge} {dd:Option Nat} {g:Option (Nat×Bool)} {x y:Operand} {xt yt:TypeId} {m n:Int} (hx:ev L x=some (.int .i64 m)) (hy:ev L y=some (.int .i64 n)) (h:n<m):Does P L ⟨dd,.binOp .gtr xt x y yt,ty,pos,af,g⟩ w (.bool true):=by
 have h1:=jV (P:=P) (d:=dd) (w:=w) (ty:=ty) (pos:=pos) (af:=af) (g:=g) (xt:=xt) (yt:=yt) hx hy
 rw [decide_eq_true h] at h1;exact h1
theorem qQ {P:Program} {w:World} {L:List (Nat×Value)} {ty:TypeId} {pos:String} {af:Array Edge} {dd:Option Nat} {g:Option (Nat×Bool)} {x y:Operand} {xt yt:TypeId} {m n:Int} (hx:ev L x=some (.int .i64 m)) (hy:ev L y=some (.int .i64 n)) (h:¬ n<m):Does P L ⟨dd,.binOp .gtr xt x y yt,ty,pos,af,g⟩ w (.bool false):=by
 have h1:=jV (P:=P) (d:=dd) (w:=w) (ty:=ty) (pos:=pos) (af:=af) (g:=g) (xt:=xt) (yt:=yt) hx hy
 rw [decide_eq_false h] at h1;exact h1
theorem Ef (rates : List (Int × Int)) (pwn ptn pag : Int) (RA : Option Addr) (rcp : Nat) (l : List Use) (A : Option Addr) (cp : Nat) (f : Nat) (fn : Func) (e : Int × Int → Int) (w : World) (hr : InS w noF 2 RA rates.length (scell rates)) (hrn : rates.length ≤ 9223372036854775807) (hl : InS w noF 6 A l.length (ucell l)) (hn : l.length ≤ 9223372036854775807) (hf : Tryz.prog.funcs[f]? = some fn) (hfb : fn.body.isNone = false) (hfn : (fn.name == "runtime.NumGoroutine") = false) (hcall : ∀ (a b : Int) (w' : World), Calls Tryz.prog f [.agg [.int .i64 a, .int .i64 b].toArray].toArray w' (Ret fun v w'' => v = .int .i64 (e (a, b)) ∧ St w' noF [] w'')) :
    Calls Tryz.prog 115 [.agg [.slice RA rates.length rcp,.int .i64 pwn,.int .i64 ptn,.int .i64 pag].toArray,.slice A l.length cp,.func (.func f) [].toArray [].toArray].toArray w (Ret (fun v w'=>v = .tuple #[.int .i64 (bM (⟨rates,pwn,ptn,pag⟩:Part) l e).1,.int .i64 (bM (⟨rates,pwn,ptn,pag⟩:Part) l e).2]∧St w noF [] w')):=by
 refine enter Tryz.func115 rfl Tryz.ntmps115 rfl (fun a H=>?_)
 have S:=St.start w
 refine aA fun K1 k1=>?_
 refine aO H rfl S G G ?_;intro b3 _ a hb3 hbw3 S H
 refine ls 2 H<|sr 2 G<|sE ?_;intro a H
 refine k1 _ _ ?_;by_cases hA:wearE (⟨rates,pwn,ptn,pag⟩:Part) l=0
 ·skip
  have h0:=nJ hA;have hok:=kN h0.1
  have hh:=hok.hdr;unfold iY at hh;simp only [decide_eq_true_eq] at hh;have hll:=hok.len
  replace H:=H.keep [1,2,3] rfl;refine aA fun K2 k2=>?_
  refine ls 2 H<|sd ((aD dJ eE rfl S (i:=0) G G))<|sr 1 G<|sE ?_;intro a H
  refine aB H G G Tryz.func67 G G (eD (qP rates pwn ptn pag RA rcp l A cp _ (hr.now S) hrn (hl.now S) hn) (fun _ _=>zU hA)) ?_;clear H a
  rintro _ _ a ⟨A',c',rfl,S2⟩ H;replace S:=S.call S2;clear S2;refine ls 5 H<|sr 5 G<|sE ?_;intro a H
  refine k2 _ _ ?_;refine wp_seq_k fun K3 k3=>?_
  replace H:=H.keep [1,2,3,8,9] rfl;refine sS H fun K4 k4=>sr 2 G<|sE ?_;intro a H
  refine k4 _ ?_;refine condN H rfl (fun hc1=>?_) (fun hc1=>?_)
  ·skip
   all_goals first|(exfalso;omega)|(simp at hc1)
  refine wp_skip ?_;refine k3 _ _ ?_;refine sS H fun K5 k5=>sr 1 G<|sE ?_;intro a H
  refine k5 _ ?_;refine wp_seq_k fun K6 k6=>?_
  refine sS H fun K7 k7=>sr 1 G<|sL cJ rfl<|sr 1 G<|sE ?_;intro a H
  refine k7 _ ?_;refine wp_block ?_;refine loop_st (X:=Nat) (R0:=_) [2,3,8,22,23] H rfl (fun k=>[(10,.int .i64 (sumT l k)),(24,.int .i64 (k:Int))]) (fun k=>[]) (fun g k=>k≤l.length∧g+k=l.length∧∀ q,q<k→(fun k=>wornB (⟨rates,pwn,ptn,pag⟩:Part) l k (e (bJ (⟨rates,pwn,ptn,pag⟩:Part) l k))) q=false) (l.length) 0 ?_ (S.sel [0,1] G G) (H.keep [10,24,2,3,8,22,23] rfl) ?_
  · exact ⟨by omega,by omega,fun q hq=>absurd hq (Nat.not_lt_zero _)⟩
  clear H S a;intro g1 x1 a w1 hp S H K8 k8;obtain ⟨k,rfl⟩:∃ y,y=x1:=⟨_,rfl⟩;refine sS H fun K9 k9=>sr 1 G<|sE ?_;intro a H
  refine k9 _ ?_;refine wp_seq_k fun K10 k10=>?_
  refine condL H rfl (fun hc2=>?_) (fun hc2=>?_)
  ·skip
   refine wp_skip ?_;refine k10 _ _ ?_;refine wp_seq_k fun K11 k11=>?_
   refine wp_block ?_;refine aA fun K12 k12=>?_
   refine ls 3 H<|sr 1 G<|si cJ bZ G G (hl.adr (by omega)) (by omega)<|sd ((aV jR bZ rfl S hl (by omega) (by omega)))<|sE ?_;intro a H
   refine aM H rfl S gJ ?_;intro b12 _ a hb12 hbw12 S H
   refine ls 1 H<|sr 1 G<|sE ?_;intro a H
   refine aI H S (i:=0) G G G G bZ G G ?_
   clear H a S;intro _ a S H;refine k12 _ _ ?_;have hsb:=Kh hok k (by omega);have hu:=hok.use (k:=k) (by omega);unfold useOk at hu;simp only [decide_eq_true_eq] at hu;replace H:=H.keep [2,3,8,10,11,12,22,23,24] rfl;refine sS H fun K13 k13=>sr 1 G<|sf iA rfl<|sl S 0 aC G G G<|sd (aH G G (by unfold i64ok;omega))<|sr 1 G<|sE ?_;intro a H
   refine k13 _ ?_;rcases (show ptn<sumT l (k+1)∨(¬ ptn<sumT l (k+1)∧pag<(l.getD k aJm).day)∨(¬ ptn<sumT l (k+1)∧¬ pag<(l.getD k aJm).day) from by omega) with hB|hB|hB
   ·skip
    replace H:=H.keep [2,3,8,10,11,12,22,23,24] rfl;replace S:=S.drew;refine cQ [(0,true),(1,true),(2,true),(3,true),(4,true),(5,true),(6,true),(7,true),(8,true),(9,true),(10,true),(11,true),(12,true),(13,true),(14,true),(15,true),(16,true),(17,true),(18,true),(19,true),(20,true),(21,true),(22,true)] (by kernel_rfl) (by kernel_rfl) (S.sel [0,1,2] G G) fun K14 k14=>?_
    refine qF H<|qr 1 G<|qd G (fun _ S=>(aF pF rfl))<|qd G (fun _ S=>aE aC rfl (aIo S (i:=2) G G))<|qd G (fun _ S=>xT G G hB)<|qr 1 G<|qK ?_;intro a H
    refine aP H G G G G G ?_;intro a H
    refine aP H G G G G G ?_;intro a H
    refine aP H G G G G G ?_;intro a H
    refine aP H G G G G G ?_;intro a H
    refine aP H G G G G G ?_;intro a H
    refine qF H<|qd G (fun _ S=>(bH G G G))<|qr 1 G<|qK ?_;intro a H
    refine aP H G G G G G ?_;intro a H
    refine aP H G G G G G ?_;intro a H
    refine aP H G G G G G ?_;intro a H
    refine aP H G G G G G ?_;intro a H
    refine aP H G G G G G ?_;intro a H
    refine aP H G G G G G ?_;intro a H
    refine aP H G G G G G ?_;intro a H
    refine aP H G G G G G ?_;intro a H
    refine aP H G G G G G ?_;intro a H
    refine aP H G G G G G ?_;intro a H
    refine qF H<|qd G (fun _ S=>(bH G G G))<|qK ?_;intro a H
    refine bY ?_
    refine k14 _ _ ?_;refine aU H rfl (fun hc3=>?_) (fun hc3=>?_)
    ·skip
     skip
     replace H:=H.keep [11] rfl;refine sS H fun K15 k15=>sr 3 G<|sE ?_;intro a H
     refine k15 _ ?_;refine wp_ret ?_;refine ret2 (fn:=Tryz.f115) rfl H G G ?_;have e9:jE (fun k=>wornB (⟨rates,pwn,ptn,pag⟩:Part) l k (e (bJ (⟨rates,pwn,ptn,pag⟩:Part) l k))) l.length=k:=mK (by omega) (by show wornB _ _ _ _=true;unfold wornB;rw [decide_eq_true hB];simp) hp.2.2;unfold bM;rw [if_neg (by omega),e9];exact ⟨rfl,(S.sel [] G G)⟩
    skip
    cases hc3
   ·skip
    replace H:=H.keep [2,3,8,10,11,12,22,23,24] rfl;replace S:=S.drew;refine cQ [(0,true),(1,true),(2,true),(3,true),(4,true),(5,true),(6,true),(7,true),(8,true),(9,true),(10,true),(11,true),(12,true),(13,true),(14,true),(15,true),(16,true),(17,true),(18,true),(19,true),(20,true),(21,true),(22,true)] (by kernel_rfl) (by kernel_rfl) (S.sel [0,1,2] G G) fun K16 k16=>?_
    refine qF H<|qr 1 G<|qd G (fun _ S=>(aF pF rfl))<|qd G (fun _ S=>aE aC rfl (aIo S (i:=2) G G))<|qd G (fun _ S=>qQ G G hB.1)<|qr 1 G<|qK ?_;intro a H
    refine aL H G G G G (fun _ S=>(aF hZ rfl)) ?_;intro a H
    refine aL H G G G G (fun _ S=>aE aC rfl (aIo S (i:=0) G G)) ?_;intro a H
    refine aL H G G G G (fun _ S=>(aF rK rfl)) ?_;intro a H
    refine aL H G G G G (fun _ S=>aE aC rfl (aIo S (i:=2) G G)) ?_;intro a H
    refine aL H G G G G (fun _ S=>xT G G hB.2) ?_;intro a H
    refine qF H<|qd G (fun _ S=>(dU G G G))<|qr 1 G<|qK ?_;intro a H
    refine aP H G G G G G ?_;intro a H
    refine aP H G G G G G ?_;intro a H
    refine aP H G G G G G ?_;intro a H
    refine aP H G G G G G ?_;intro a H
    refine aP H G G G G G ?_;intro a H
    refine aP H G G G G G ?_;intro a H
    refine aP H G G G G G ?_;intro a H
    refine aP H G G G G G ?_;intro a H
    refine aP H G G G G G ?_;intro a H
    refine aP H G G G G G ?_;intro a H
    refine qF H<|qd G (fun _ S=>(bH G G G))<|qK ?_;intro a H
    refine bY ?_
    refine k16 _ _ ?_;refine aU H rfl (fun hc4=>?_) (fun hc4=>?_)
    ·skip
     skip
     replace H:=H.keep [11] rfl;refine sS H fun K17 k17=>sr 3 G<|sE ?_;intro a H
     refine k17 _ ?_;refine wp_ret ?_;refine ret2 (fn:=Tryz.f115) rfl H G G ?_;have e9:jE (fun k=>wornB (⟨rates,pwn,ptn,pag⟩:Part) l k (e (bJ (⟨rates,pwn,ptn,pag⟩:Part) l k))) l.length=k:=mK (by omega) (by show wornB _ _ _ _=true;unfold wornB;rw [decide_eq_true hB.2];simp) hp.2.2;unfold bM;rw [if_neg (by omega),e9];exact ⟨rfl,(S.sel [] G G)⟩
    skip
    cases hc4
   replace H:=H.keep [2,3,8,10,11,12,22,23,24] rfl;replace S:=S.drew;refine cQ [(0,true),(1,true),(2,true),(3,true),(4,true),(5,true),(6,true),(7,true),(8,true),(9,true),(10,true),(11,true),(12,true),(13,true),(14,true),(15,true),(16,true),(18,true),(19,true),(20,true),(17,false),(21,true),(22,true)] (by kernel_rfl) (by kernel_rfl) (S.sel [0,1,2] G G) fun K18 k18=>?_
   refine qF H<|qr 1 G<|qd G (fun _ S=>(aF pF rfl))<|qd G (fun _ S=>aE aC rfl (aIo S (i:=2) G G))<|qd G (fun _ S=>qQ G G hB.1)<|qr 1 G<|qK ?_;intro a H
   refine aL H G G G G (fun _ S=>(aF hZ rfl)) ?_;intro a H
   refine aL H G G G G (fun _ S=>aE aC rfl (aIo S (i:=0) G G)) ?_;intro a H
   refine aL H G G G G (fun _ S=>(aF rK rfl)) ?_;intro a H
   refine aL H G G G G (fun _ S=>aE aC rfl (aIo S (i:=2) G G)) ?_;intro a H
   refine aL H G G G G (fun _ S=>qQ G G hB.2) ?_;intro a H
   refine qF H<|qd G (fun _ S=>(dU G G G))<|qr 1 G<|qK ?_;intro a H
   refine aL H G G G G (fun _ S=>aJ rfl) ?_;intro a H
   refine aL H G G G G (fun _ S=>aJ rfl) ?_;intro a H
   refine aL H G G G G (fun _ S=>aJ rfl) ?_;intro a H
   refine aL H G G G G (fun _ S=>aW dB bE G G (aIp S (i:=1) rfl (by omega)) (by omega)) ?_;intro a H
   refine aL H G G G G (fun _ S=>(mV eO bE rfl S (i:=1) rfl (by omega) (by omega))) ?_;intro a H
   refine aL H G G G G (fun _ S=>(aF uX rfl)) ?_;intro a H
   refine aL H G G G G (fun _ S=>aE aC rfl (aIo S (i:=2) G G)) ?_;intro a H
   refine aL H G G G G (fun _ S=>fR G G (by unfold i64ok;omega)) ?_;intro a H
   refine bD rfl ?_
   refine cD H G G ?_
   refine Gm (fs:=[]) (cs:=[]) (vs:=[.agg [.int .i64 (bJ (⟨rates,pwn,ptn,pag⟩:Part) l k).1,.int .i64 (bJ (⟨rates,pwn,ptn,pag⟩:Part) l k).2].toArray]) H G G G (hf) (hfb) (hfn) (by exact hcall (bJ (⟨rates,pwn,ptn,pag⟩:Part) l k).1 (bJ (⟨rates,pwn,ptn,pag⟩:Part) l k).2 _) ?_;clear H a
   rintro _ _ a ⟨rfl,S2⟩ H;replace S:=S.call S2;clear S2;refine wpList_nil (And.intro (S.sel [0,1,2] rfl rfl) ?_);refine aL H rfl rfl rfl rfl (fun _ S=>jV rfl rfl) ?_;intro a H;refine qF H<|qd G (fun _ S=>(dU rfl rfl rfl))<|qK ?_;intro a H
   refine bY ?_
   refine k18 _ _ ?_;refine aU H rfl (fun hc5=>?_) (fun hc5=>?_)
   ·skip
    skip
    replace H:=H.keep [11] rfl;refine sS H fun K19 k19=>sr 3 G<|sE ?_;intro a H
    refine k19 _ ?_;refine wp_ret ?_;refine ret2 (fn:=Tryz.f115) rfl H G G ?_;have e9:jE (fun k=>wornB (⟨rates,pwn,ptn,pag⟩:Part) l k (e (bJ (⟨rates,pwn,ptn,pag⟩:Part) l k))) l.length=k:=mK (by omega) (by show wornB _ _ _ _=true;unfold wornB;rw [decide_eq_false hB.1,decide_eq_false hB.2];exact hc5) hp.2.2;unfold bM;rw [if_neg (by omega),e9];exact ⟨rfl,(S.sel [] G G)⟩
   skip
   refine wp_skip ?_;refine k11 _ _ ?_;refine sO H<|sd (aH G G (by unfold i64ok;omega))<|sr 1 G<|sE ?_;intro a H
   exact k8 (g1-1) (k+1) a _ (by omega) (⟨by omega,by omega,fun q hq=>by
     by_cases h:q=k
     · subst h;show wornB _ _ _ _=false;unfold wornB;rw [decide_eq_false hB.1,decide_eq_false hB.2];exact hc5
     · exact hp.2.2 q (by omega)⟩) (S.sel [1,2] G G) (H.keep [10,24,2,3,8,22,23] rfl)
  refine wp_exit ?_;refine k6 _ _ ?_;refine sS H fun K21 k21=>sr 2 G<|sE ?_;intro a H
  refine k21 _ ?_;refine wp_ret ?_;refine ret2 (fn:=Tryz.f115) rfl H G G ?_;have hk9:k=l.length:=by omega
  subst hk9;unfold bM;rw [if_neg (by omega),oQ hp.2.2];exact ⟨rfl,(S.sel [] G G)⟩
 skip
 replace H:=H.keep [1,2,3] rfl;refine aA fun K22 k22=>?_
 refine ls 2 H<|sd ((aD dJ eE rfl S (i:=0) G G))<|sr 1 G<|sE ?_;intro a H
 refine aB H G G Tryz.func67 G G (eD (qP rates pwn ptn pag RA rcp l A cp _ (hr.now S) hrn (hl.now S) hn) (fun _ _=>Ec hA)) ?_;clear H a
 rintro _ _ a ⟨rfl,S2⟩ H;replace S:=S.call S2;clear S2;refine ls 5 H<|sr 5 G<|sE ?_;intro a H
 refine k22 _ _ ?_;refine wp_seq_k fun K23 k23=>?_
 replace H:=H.keep [1,2,3,8,9] rfl;refine sS H fun K24 k24=>sr 2 G<|sE ?_;intro a H
 refine k24 _ ?_;refine condN H rfl (fun hc6=>?_) (fun hc6=>?_)
 ·skip
  refine sS H fun K25 k25=>sr 3 G<|sE ?_;intro a H
  refine k25 _ ?_;refine wp_ret ?_;refine ret2 (fn:=Tryz.f115) rfl H G G ?_;unfold bM;rw [if_pos hA];exact ⟨rfl,(S.sel [] G G)⟩
 all_goals (exfalso;omega)
theorem Bv (rates:List (Int×Int)) (pwn ptn pag:Int) (RA:Option Addr) (rcp:Nat) (l:List Use) (A:Option Addr) (cp:Nat) (w:World) (hr:InS w noF 2 RA rates.length (scell rates)) (hrn:rates.length≤9223372036854775807) (hl:InS w noF 6 A l.length (ucell l)) (hn:l.length≤9223372036854775807) :
    Calls Tryz.prog 101 [.agg [.slice RA rates.length rcp,.int .i64 pwn,.int .i64 ptn,.int .i64 pag].toArray,.slice A l.length cp].toArray w (Ret (fun v w'=>v = .tuple #[.int .i64 (bM (⟨rates,pwn,ptn,pag⟩:Part) l Prod.snd).1,.int .i64 (bM (⟨rates,pwn,ptn,pag⟩:Part) l Prod.snd).2]∧St w noF [] w')):=by
 refine enter Tryz.func101 rfl Tryz.ntmps101 rfl (fun a H=>?_)
 have S:=St.start w
 refine aA fun K1 k1=>?_
 refine aO H rfl S G G ?_;intro b2 _ a hb2 hbw2 S H
 refine ls 2 H<|sr 2 G<|sE ?_;intro a H
 refine k1 _ _ ?_;replace H:=H.keep [1,2] rfl;refine aA fun K2 k2=>?_
 refine ls 2 H<|sd ((aD dJ eE rfl S (i:=0) G G))<|sr 1 G<|sE ?_;intro a H
 refine aB H G G Tryz.func115 G G (Ef rates pwn ptn pag RA rcp l A cp 116 _ Prod.snd _ (hr.now S) hrn (hl.now S) hn Tryz.func116 G G (fun a b w'=>xS a b w')) ?_;clear H a
 rintro _ _ a ⟨rfl,S2⟩ H;replace S:=S.call S2;clear S2;refine ls 4 H<|sr 4 G<|sE ?_;intro a H
 refine k2 _ _ ?_;refine wp_ret ?_;refine ret2 (fn:=Tryz.f101) rfl H G G ?_;exact ⟨rfl,(S.sel [] G G)⟩
end
section
theorem Bw (l:List Use) (A:Option Addr) (cp:Nat) (w:World) (hl:InS w noF 6 A l.length (ucell l)) (hn:l.length*48≤140737488351232) :
    Calls Tryz.prog 26 [.slice A l.length cp].toArray w (Ret (fun v w'=>∃ A' c',v = .slice A' l.length c'∧St w noF [ownM 113 6 A' l.length c' (ucell l)] w')):=by
 have hmx:maxLen=9223372036854775807:=rfl
 refine enter Tryz.func26 rfl Tryz.ntmps26 rfl (fun a H=>?_)
 have S:=St.start w
 refine sS H fun K1 k1=>sr 1 G<|sE ?_;intro a H
 refine k1 _ ?_;refine aA fun K2 k2=>?_
 refine cU H rfl S cJ bZ (ucell l) ?_;intro A1 _ a S H
 refine ls 1 H<|sr 1 G<|sE ?_;intro a H
 refine aT H rfl S cJ bZ gJ qL G G (i:=0) G G G (hl.now S) (nK l) (by omega) (by omega) ?_;intro A2 c2 _ a S H
 rw [Nat.zero_add] at H;replace S:=S.recell (i:=0) (cell':=ucell l) (by rw [Nat.zero_add];rfl) (fun k j hk hj=>by unfold capp;rw [if_neg (by omega)];rfl);refine ls 1 H<|sr 1 G<|sE ?_;intro a H
 refine k2 _ _ ?_;refine wp_ret ?_;refine ret1 (fn:=Tryz.f26) rfl H rfl ?_;exact ⟨_,_,rfl,(S.sel [0] G G)⟩
theorem xU (rates:List (Int×Int)) (pwn ptn pag:Int) (RA:Option Addr) (rcp:Nat) (w:World) (hr:InS w noF 2 RA rates.length (scell rates)) (hrn:rates.length*16≤140737488351232) :
    Calls Tryz.prog 25 [.agg [.slice RA rates.length rcp,.int .i64 pwn,.int .i64 ptn,.int .i64 pag].toArray].toArray w (Ret (fun v w'=>∃ A' c',v = .agg [.slice A' rates.length c',.int .i64 pwn,.int .i64 ptn,.int .i64 pag].toArray∧St w noF [ownM 79 2 A' rates.length c' (scell rates)] w')):=by
 have hmx:maxLen=9223372036854775807:=rfl
 refine enter Tryz.func25 rfl Tryz.ntmps25 rfl (fun a H=>?_)
 have S:=St.start w
 refine aA fun K1 k1=>?_
 refine aO H rfl S G G ?_;intro b1 _ a hb1 hbw1 S H
 refine aM H rfl S Jr ?_;intro b2 _ a hb2 hbw2 S H
 refine k1 _ _ ?_;refine aA fun K2 k2=>?_
 refine Lw H rfl ((by first | (exact aD dJ eE rfl S (i := 0) G G; trace "ALT xU 1.0.1 0") | (exact aD dJ eE rfl S (i := 1) G G; trace "ALT xU 1.0.1 1"))) ?_;intro a H
 refine aM H rfl S Jr ?_;intro b3 _ a hb3 hbw3 S H
 refine aI H S (i:=0) G G G G eE G G ?_
 clear H a S;intro _ a S H;refine k2 _ _ ?_;replace H:=H.keep [1,2,3] rfl;refine aA fun K3 k3=>?_
 refine cU H rfl S dB bE (scell rates) ?_;intro A1 _ a S H
 refine ls 2 H<|sf fP rfl<|sl S 3 iF G G G<|sE ?_;intro a H
 refine aT H rfl S dB bE eY Js G G (i:=0) G G G (hr.now S) (Hw rates) (by omega) (by omega) ?_;intro A2 c2 _ a S H
 rw [Nat.zero_add] at H;replace S:=S.recell (i:=0) (cell':=scell rates) (by rw [Nat.zero_add];rfl) (fun k j hk hj=>by unfold capp;rw [if_neg (by omega)];rfl);refine ls 1 H<|sf fP rfl<|sE ?_;intro a H
 refine aI H S (i:=1) G G G G aGy G G ?_
 clear H a S;intro _ a S H;refine k3 _ _ ?_;refine aA fun K4 k4=>?_
 refine ls 1 H<|sd ((aD dJ eE rfl S (i:=1) G G))<|sE ?_;intro a H
 refine aI H S (i:=2) G G G G eE G G ?_
 clear H a S;intro _ a S H;refine k4 _ _ ?_;refine wp_ret ?_;refine retA (fn:=Tryz.f25) rfl H rfl dJ (by exact eE) (cY S (i:=2) rfl) ?_;exact ⟨_,_,rfl,(S.sel [0] G G)⟩
theorem Tb {l:List Use} {k:Nat} (hk:k<l.length) (h:(l.take k).any (·.meas)=false) (hm:(l.getD k aJm).meas=false):(l.take (k+1)).any (·.meas)=false:=by
 rw [List.take_succ_eq_append_getElem hk,List.any_append,h];simp only [List.getD_eq_getElem?_getD,List.getElem?_eq_getElem hk,Option.getD_some] at hm;simp [hm]
theorem aEj {l:List Use} {k:Nat} (hk:k<l.length) (hm:(l.getD k aJm).meas=true):l.any (·.meas)=true:=by
 simp only [List.getD_eq_getElem?_getD,List.getElem?_eq_getElem hk,Option.getD_some] at hm
 exact List.any_eq_true.2 ⟨_,List.getElem_mem hk,hm⟩
theorem Tc {p:Part} {l plan:List Use} (h:cC p (l++plan)≠0):lastO p l plan=(0,cC p (l++plan)):=by unfold lastO;rw [if_pos h]
theorem Td {p:Part} {l plan:List Use} (h:cC p (l++plan)=0) (h1:plan.any (·.meas)=true):lastO p l plan=(0,1):=by unfold lastO;rw [if_neg (by omega),if_pos h1]
theorem Nh {p:Part} {l plan:List Use} (h:cC p (l++plan)=0) (h1:plan.any (·.meas)=false) (h2:(bM p (l++plan) Prod.snd).2≠0):lastO p l plan=(0,(bM p (l++plan) Prod.snd).2):=by unfold lastO;rw [if_neg (by omega),if_neg (by rw [h1];simp),if_pos h2]
theorem Kk {p:Part} {l plan:List Use} (h:cC p (l++plan)=0) (h1:plan.any (·.meas)=false) (h2:(bM p (l++plan) Prod.snd).2=0):lastO p l plan=if (bM p (l++plan) Prod.snd).1<0 then ((plan.length:Int),0) else (max (-1) ((bM p (l++plan) Prod.snd).1-l.length),0):=by unfold lastO;rw [if_neg (by omega),if_neg (by rw [h1];simp),if_neg (by omega)]
theorem Ni {p:Part} {l:List Use} (e:Int×Int→Int) (hl:l.length≤1000000) : -1≤(bM p l e).1∧(bM p l e).1≤1000000:=by
  unfold bM
  split
  · dsimp only;omega
  · dsimp only
    rcases nI (fun k=>wornB p l k (e (bJ p l k))) l.length with ⟨h,_⟩|⟨k,hk,h,_⟩ <;> rw [h] <;> omega
theorem Hy {p:Part} {l:List Use} (e:Int×Int→Int):(bM p l e).2=wearE p l:=by
 unfold bM
 split
 ·rfl
 ·dsimp only;omega
theorem Nj {p:Part} {l:List Use} (e:Int×Int→Int) (h:wearE p l=0):(bM p l e).1=jE (fun k=>wornB p l k (e (bJ p l k))) l.length:=by
 unfold bM
 rw [if_neg (by omega)]
theorem Te (rates:List (Int×Int)) (pwn ptn pag:Int) (RA:Option Addr) (rcp:Nat) (l:List Use) (A:Option Addr) (cp:Nat) (plan:List Use) (B:Option Addr) (cq:Nat) (w:World) (hr:InS w noF 2 RA rates.length (scell rates)) (hrn:rates.length≤9223372036854775807) (hl:InS w noF 6 A l.length (ucell l)) (hn:l.length≤9223372036854775807) (hpl:InS w noF 6 B plan.length (ucell plan)) (hsum:(l.length+plan.length)*48≤140737488355328) (hpn:plan.length≤9223372036854775807) :
    Calls Tryz.prog 69 [.agg [.slice RA rates.length rcp,.int .i64 pwn,.int .i64 ptn,.int .i64 pag].toArray,.slice A l.length cp,.slice B plan.length cq].toArray w (Ret (fun v w'=>v = .tuple #[.int .i64 (lastO (⟨rates,pwn,ptn,pag⟩:Part) l plan).1,.int .i64 (lastO (⟨rates,pwn,ptn,pag⟩:Part) l plan).2]∧St w noF [] w')):=by
 have hmx:maxLen=9223372036854775807:=rfl
 have hnn:(l++plan).length≤9223372036854775807:=by rw [List.length_append];omega
 refine enter Tryz.func69 rfl Tryz.ntmps69 rfl (fun a H=>?_)
 have S:=St.start w
 refine aA fun K1 k1=>?_
 refine aO H rfl S G G ?_;intro b3 _ a hb3 hbw3 S H
 refine ls 2 H<|sr 2 G<|sE ?_;intro a H
 refine k1 _ _ ?_;refine aA fun K2 k2=>?_
 refine cU H rfl S cJ bZ (ucell l) ?_;intro A1 _ a S H
 refine ls 1 H<|sr 1 G<|sE ?_;intro a H
 refine aT H rfl S cJ bZ gJ qL G G (i:=0) G G G (hl.now S) (nK l) (by omega) (by omega) ?_;intro A2 c2 _ a S H
 rw [Nat.zero_add] at H;replace S:=S.recell (i:=0) (cell':=ucell l) (by rw [Nat.zero_add];rfl) (fun k j hk hj=>by unfold capp;rw [if_neg (by omega)];rfl);refine ls 1 H<|sr 1 G<|sE ?_;intro a H
 refine aT H rfl S cJ bZ gJ qL G G (i:=0) G G G (hpl.now S) (nK plan) (by omega) (by omega) ?_;intro A3 c3 _ a S H
 replace S:=S.recell (i:=0) rfl Nd;rw [←List.length_append] at S H;refine ls 1 H<|sr 1 G<|sE ?_;intro a H
 refine k2 _ _ ?_;replace H:=H.keep [1,2,3,8] rfl;refine aA fun K3 k3=>?_
 refine ls 2 H<|sd ((aD dJ eE rfl S (i:=1) G G))<|sr 1 G<|sE ?_;intro a H
 refine aB H G G Tryz.func58 G G (lW rates pwn ptn pag RA rcp (l++plan) A3 c3 _ (hr.now S) hrn (aIr S (i:=0) rfl) hnn) ?_;clear H a
 rintro _ _ a ⟨rfl,S2⟩ H;replace S:=S.call S2;clear S2;refine ls 1 H<|sr 1 G<|sE ?_;intro a H
 refine k3 _ _ ?_;refine wp_seq_k fun K4 k4=>?_
 refine sS H fun K5 k5=>sr 2 G<|sE ?_;intro a H
 refine k5 _ ?_;refine condN H rfl (fun hc1=>?_) (fun hc1=>?_)
 ·skip
  refine sS H fun K6 k6=>sr 3 G<|sE ?_;intro a H
  refine k6 _ ?_;refine wp_ret ?_;refine ret2 (fn:=Tryz.f69) rfl H G G ?_;rw [Tc (p:=(⟨rates,pwn,ptn,pag⟩:Part)) (by omega)];exact ⟨rfl,(S.sel [] G G)⟩
 refine wp_skip ?_;refine k4 _ _ ?_;refine wp_seq_k fun K7 k7=>?_
 have h0:cC (⟨rates,pwn,ptn,pag⟩:Part) (l++plan)=0:=by omega
 have hok:=kN h0;have hll:=hok.len;have hbb:=Ni (p:=(⟨rates,pwn,ptn,pag⟩:Part)) (l:=l++plan) Prod.snd (by omega)
 rw [List.length_append] at hll;replace H:=H.keep [1,2,3,8] rfl;refine sS H fun K8 k8=>sr 1 G<|sE ?_;intro a H
 refine k8 _ ?_;refine wp_block ?_;refine loop_st (X:=Nat) (R0:=_) [1,2,3,8] H rfl (fun k=>[(10,.int .i64 (k:Int))]) (fun k=>[]) (fun g k=>k≤plan.length∧g+k=plan.length∧(plan.take k).any (·.meas)=false) (plan.length) 0 ?_ (S.sel [0,1] G G) (H.keep [10,1,2,3,8] rfl) ?_
 · exact ⟨by omega,by omega,rfl⟩
 clear H S a;intro g1 x1 a w1 hp S H K9 k9;obtain ⟨k,rfl⟩:∃ y,y=x1:=⟨_,rfl⟩;refine wp_seq_k fun K10 k10=>?_
 refine sS H fun K11 k11=>sr 2 G<|sL cJ rfl<|sr 1 G<|sE ?_;intro a H
 refine k11 _ ?_;refine condL H rfl (fun hc2=>?_) (fun hc2=>?_)
 ·skip
  refine wp_skip ?_;refine k10 _ _ ?_;refine wp_seq_k fun K12 k12=>?_
  refine wp_block ?_;refine sS H fun K13 k13=>sr 2 G<|si cJ bZ G G (hpl.adr (by omega)) (by omega)<|sp mE rfl<|slm jF rfl (hpl.rd S (by omega) (by omega))<|sE ?_;intro a H
  refine k13 _ ?_;refine aU H rfl (fun hc3=>?_) (fun hc3=>?_)
  ·skip
   try simp only [oz] at hc3
   replace H:=H.keep [] rfl;refine sS H fun K14 k14=>sr 2 G<|sE ?_;intro a H
   refine k14 _ ?_;refine wp_ret ?_;refine ret2 (fn:=Tryz.f69) rfl H G G ?_;rw [Td (p:=(⟨rates,pwn,ptn,pag⟩:Part)) h0 (aEj (k:=k) (by omega) hc3)];exact ⟨rfl,(S.sel [] G G)⟩
  try simp only [oz] at hc3
  refine wp_skip ?_;refine k12 _ _ ?_;refine sO H<|sr 1 G<|sd (aH G G (by unfold i64ok;omega))<|sr 1 G<|sE ?_;intro a H
  exact k9 (g1-1) (k+1) a _ (by omega) (⟨by omega,by omega,Tb (by omega) hp.2.2 hc3⟩) (S.sel [0,1] G G) (H.keep [10,1,2,3,8] rfl)
 refine wp_exit ?_;refine k7 _ _ ?_;have hk9:k=plan.length:=by omega
 have ha:=hp.2.2;rw [hk9,List.take_length] at ha
 have hbe:=Hy (p:=(⟨rates,pwn,ptn,pag⟩:Part)) (l:=l++plan) Prod.snd
 by_cases hA:wearE (⟨rates,pwn,ptn,pag⟩:Part) (l++plan)=0
 ·skip
  replace H:=H.keep [1,2,3,8] rfl;refine aA fun K16 k16=>?_
  refine ls 2 H<|sd ((aD dJ eE rfl S (i:=1) G G))<|sr 1 G<|sE ?_;intro a H
  refine aB H G G Tryz.func84 G G (eD (Ed rates pwn ptn pag RA rcp (l++plan) A3 c3 _ (hr.now S) hrn (aIr S (i:=0) rfl) hnn hok h0) (fun _ _=>zU hA)) ?_;clear H a
  rintro _ _ a ⟨A',c',rfl,S2⟩ H;replace S:=S.call S2;clear S2;refine ls 5 H<|sr 5 G<|sE ?_;intro a H
  refine k16 _ _ ?_;refine wp_seq_k fun K17 k17=>?_
  replace H:=H.keep [1,2,3,8,9,11] rfl;refine sS H fun K18 k18=>sr 2 G<|sE ?_;intro a H
  refine k18 _ ?_;refine condN H rfl (fun hc4=>?_) (fun hc4=>?_)
  ·skip
   all_goals first|(exfalso;omega)|(simp at hc4)
  refine wp_skip ?_;refine k17 _ _ ?_;refine aA fun K19 k19=>?_
  refine ls 3 H<|sd ((aD dJ eE rfl S (i:=2) G G))<|sr 2 G<|sE ?_;intro a H
  refine aB H G G Tryz.func85 G G (Hx rates pwn ptn pag RA rcp (l++plan) A3 c3 _ (hr.now S) hrn (aIr S (i:=1) rfl) hnn hok A' c' true (aIr S (i:=0) rfl)) ?_;clear H a
  rintro _ _ a ⟨rfl,S2⟩ H;replace S:=S.call S2;clear S2;rw [show (jE (fun k=>wornB (⟨rates,pwn,ptn,pag⟩:Part) (l++plan) k (selE true (bJ (⟨rates,pwn,ptn,pag⟩:Part) (l++plan) k))) (l++plan).length)=(bM (⟨rates,pwn,ptn,pag⟩:Part) (l++plan) Prod.snd).1 from (Nj Prod.snd hA).symm] at H;refine ls 1 H<|sr 1 G<|sE ?_;intro a H
  refine k19 _ _ ?_;refine wp_seq_k fun K20 k20=>?_
  refine sS H fun K21 k21=>sr 2 G<|sE ?_;intro a H
  refine k21 _ ?_;refine condL H rfl (fun hc5=>?_) (fun hc5=>?_)
  ·skip
   replace H:=H.keep [2] rfl;refine sS H fun K22 k22=>sr 1 G<|sL cJ rfl<|sr 2 G<|sE ?_;intro a H
   refine k22 _ ?_;refine wp_ret ?_;refine ret2 (fn:=Tryz.f69) rfl H G G ?_;rw [Kk (p:=(⟨rates,pwn,ptn,pag⟩:Part)) h0 ha (by omega),if_pos (by omega)];exact ⟨rfl,(S.sel [] G G)⟩
  refine wp_skip ?_;refine k20 _ _ ?_;replace H:=H.keep [1,12] rfl;refine sS H fun K23 k23=>sr 2 G<|sL cJ rfl<|sd (aS G G (by unfold i64ok;omega))<|sd (kP G G)<|sr 2 G<|sE ?_;intro a H
  refine k23 _ ?_;refine wp_ret ?_;refine ret2 (fn:=Tryz.f69) rfl H G G ?_;rw [Kk (p:=(⟨rates,pwn,ptn,pag⟩:Part)) h0 ha (by omega),if_neg (by omega)];exact ⟨rfl,(S.sel [] G G)⟩
 replace H:=H.keep [1,2,3,8] rfl;refine aA fun K24 k24=>?_
 refine ls 2 H<|sd ((aD dJ eE rfl S (i:=1) G G))<|sr 1 G<|sE ?_;intro a H
 refine aB H G G Tryz.func84 G G (eD (Ed rates pwn ptn pag RA rcp (l++plan) A3 c3 _ (hr.now S) hrn (aIr S (i:=0) rfl) hnn hok h0) (fun _ _=>Ec hA)) ?_;clear H a
 rintro _ _ a ⟨rfl,S2⟩ H;replace S:=S.call S2;clear S2;refine ls 5 H<|sr 5 G<|sE ?_;intro a H
 refine k24 _ _ ?_;refine wp_seq_k fun K25 k25=>?_
 replace H:=H.keep [1,2,3,8,9,11] rfl;refine sS H fun K26 k26=>sr 2 G<|sE ?_;intro a H
 refine k26 _ ?_;refine condN H rfl (fun hc6=>?_) (fun hc6=>?_)
 ·skip
  refine sS H fun K27 k27=>sr 3 G<|sE ?_;intro a H
  refine k27 _ ?_;refine wp_ret ?_;refine ret2 (fn:=Tryz.f69) rfl H G G ?_;rw [Nh (p:=(⟨rates,pwn,ptn,pag⟩:Part)) h0 ha (by omega),hbe];exact ⟨rfl,(S.sel [] G G)⟩
 all_goals (exfalso;omega)
end
section
structure EndN (N:Net) (r0:RM) (b x:Nat) (v:Int) (r:RM) (L:Nat→Int):Prop where
 fl:Fl N r0 r b x v
 nn:0≤v
 lev:LevOk N r b L
 full:L x<0
section
variable {N:Net} {r r0 r1 r2:RM} {b x u:Nat} {v v' m B:Int} {L L':Nat→Int}
theorem Eh {S:Nat→Bool} (h:∀ i,i<N.k→∀ j,j<N.n i→r2 i j=r1 i j):resid N r2 S=resid N r1 S:=dW fun i hi=>dW fun j hj=>by rw [h i hi j hj]
theorem Fl.congr (W:N.Wf) (h:Fl N r r1 u x m) (e:∀ i,i<N.k→∀ j,j<N.n i→r2 i j=r1 i j):Fl N r r2 u x m:=
 ⟨fun S=>by rw [Eh e];exact h.cut S,fun i hi j hj=>by rw [e i hi j hj,e _ (W.to_lt i hi j hj) _ (W.bk_lt i hi j hj)];exact h.pair i hi j hj,fun i hi j hj=>by rw [e i hi j hj];exact h.nn i hi j hj⟩
theorem Bx {S:Nat→Bool} (hb:S b=true) (hx:S x=false):ind S b-ind S x=1:=by unfold ind;rw [hb,hx];rfl
theorem EndN.bound (O:Ok N r0 B) (h:EndN N r0 b x v r L) {S:Nat→Bool} (hb:S b=true) (hx:S x=false):v≤resid N r0 S:=by
 have h1:=mD (S:=S) (h.fl.ok O)
 rw [h.fl.cut,Bx hb hx] at h1;omega
theorem EndN.tight (h:EndN N r0 b x v r L):bC L b=true∧bC L x=false∧resid N r0 (bC L)=v:=by
  have hb:bC L b=true:=by unfold bC;rw [h.lev.b0];rfl
  have hx:bC L x=false:=by unfold bC;rw [decide_eq_false_iff_not];have:=h.full;omega
  refine ⟨hb,hx,?_⟩
  have h0:resid N r (bC L)=0:=eQ fun i hi=>eQ fun j hj=>by
    split
    · rename_i hc
      obtain ⟨h1,h2⟩:=hc;unfold bC at h1 h2;simp only [decide_eq_true_eq,decide_eq_false_iff_not] at h1 h2;have h3:=h.fl.nn i hi j hj;by_cases h4:0<r i j
      · exact absurd (h.lev.cl i hi h1 j hj h4) h2
      · omega
    · rfl
  rw [h.fl.cut,Bx hb hx] at h0;omega
theorem EndN.inside (h:EndN N r0 b x v r L) {S:Nat→Bool} (hb:S b=true) (hx:S x=false) (hc:resid N r0 S=v):∀ u,u<N.k→0≤L u→S u=true:=by
 have h0:resid N r S=0:=by rw [h.fl.cut,Bx hb hx];omega
 exact h.lev.least hb (wU h.fl.nn h0)
theorem Tf (W:N.Wf) (hb:b<N.k):∃ L,LevOk N r b L:=by
  have row:∀ (L:Nat→Int) (q:Nat→Nat) (ql h:Nat),Bfs N r b L q ql h 0→h<ql→∃ L' q' ql',Bfs N r b L' q' ql' (h+1) 0:=by
    intro L q ql h hB hh
    have key:∀ J,J≤N.n (q h)→∃ L' q' ql',Bfs N r b L' q' ql' h J∧q' h=q h∧h<ql':=by
      intro J;induction J with
      | zero=>intro _;exact ⟨L,q,ql,hB,rfl,hh⟩
      | succ J ih=>
        intro hJ;obtain ⟨L',q',ql',hB',he,hl⟩:=ih (by omega);by_cases hc:0<r (q' h) J∧L' (N.to (q' h) J)<0
        · exact ⟨_,_,_,hB'.visit W hl (by rw [he];omega) hc.1 hc.2,by rw [bP _ _ (by omega)];exact he,by omega⟩
        · exact ⟨_,_,_,hB'.skip hc,he,hl⟩
    obtain ⟨L',q',ql',hB',he,_⟩:=key (N.n (q h)) (Nat.le_refl _);exact ⟨L',q',ql',hB'.next (by rw [he];omega)⟩
  have key:∀ (d h:Nat) (L:Nat→Int) (q:Nat→Nat) (ql:Nat),Bfs N r b L q ql h 0→N.k-h≤d→∃ L,LevOk N r b L:=by
    intro d;induction d with
    | zero=>intro h L q ql hB hd;exact ⟨L,hB.done (by have:=hB.le;omega)⟩
    | succ d ih=>
      intro h L q ql hB hd;by_cases hq:ql≤h
      · exact ⟨L,hB.done hq⟩
      · obtain ⟨L',q',ql',hB'⟩:=row L q ql h hB (by omega)
        exact ih (h+1) L' q' ql' hB' (by have:=hB.le;omega)
  exact key _ 0 _ _ 1 (Bfs.start (L:=fun v=>if v=b then 0 else -1) (q:=fun _=>b) hb (fun _ _=>rfl) rfl) (Nat.le_refl _)
theorem Ei (W:N.Wf) (O:Ok N r B) (hp:Path N r L x u):u<N.k→∃ r',Fl N r r' u x 1∧∀ i,i<N.k→∀ q,q<N.n i→L i<L u→r' i q=r i q:=by
  induction hp with
  | stop=>intro _;exact ⟨r,Fl.here O,fun _ _ _ _ _=>rfl⟩
  | @step u j hj hr hl _ ih=>
    intro hu;obtain ⟨r',hF,hlow⟩:=ih (W.to_lt u hu j hj);have e:=hlow u hu j hj (by omega);refine ⟨along N r' u j 1,Fl.step W hu hj hF (by omega) (by omega),fun i hi q hq hL=>?_⟩;rw [kT (fun h=>by rw [h.1] at hL;omega) (fun h=>by rw [h.1] at hL;omega)];exact hlow i hi q hq (by omega)
theorem aEk (W:N.Wf) (O:Ok N r0 B) (hb:b<N.k) (hx:x<N.k) (hbx:b≠x):∃ v r L,EndN N r0 b x v r L:=by
  have bnd:∀ {v r},Fl N r0 r b x v→v≤resid N r0 (fun v=>decide (v=b)):=fun {v r} hF=>by
    have h1:=mD (S:=fun v=>decide (v=b)) (hF.ok O)
    rw [hF.cut,Bx (by simp) (by simp;exact fun e=>hbx e.symm)] at h1;omega
  have key:∀ (d:Nat) (v:Int) (r:RM),Fl N r0 r b x v→0≤v→(resid N r0 (fun v=>decide (v=b))-v).toNat≤d→∃ v r L,EndN N r0 b x v r L:=by
    intro d;induction d with
    | zero=>
      intro v r hF h0 hd;obtain ⟨L,hL⟩:=Tf (r:=r) W hb;by_cases hf:L x<0
      · exact ⟨v,r,L,hF,h0,hL,hf⟩
      · obtain ⟨r',hF',_⟩:=Ei W (hF.ok O) (Ba hL hx (by omega)) hb
        have:=bnd (hF.more hF')
        omega
    | succ d ih=>
      intro v r hF h0 hd;obtain ⟨L,hL⟩:=Tf (r:=r) W hb;by_cases hf:L x<0
      · exact ⟨v,r,L,hF,h0,hL,hf⟩
      · obtain ⟨r',hF',_⟩:=Ei W (hF.ok O) (Ba hL hx (by omega)) hb
        have hF2:=hF.more hF'
        have:=bnd hF2
        exact ih _ _ hF2 (by omega) (by omega)
  exact key _ 0 r0 (Fl.zero O) (Int.le_refl _) (Nat.le_refl _)
end
structure Eg where
 f:Nat
 t:Nat
 pas:Int
 tick:Int
def Eg.zero:Eg:=⟨0,0,0,0⟩
def egc (E:List Eg) (r:Nat→Int) (k:Nat):Nat→Value
 | 0 => .int .i64 ((E.getD k Eg.zero).f:Int)
 | 1 => .int .i64 ((E.getD k Eg.zero).t:Int)
 | 2 => .int .i64 (r k)
 | 3 => .int .i64 (E.getD k Eg.zero).pas
 | _ => .int .i64 (E.getD k Eg.zero).tick
def egs2 (j:Jn):List Eg:=[⟨j.f,j.t,j.mv.pas,j.mv.at_⟩,⟨j.t,j.f,-1,0⟩]
def egs (J:List Jn):List Eg:=J.flatMap egs2
def Jn.zero:Jn:=⟨0,0,0,Mv.none⟩
def egr (J:List Jn) (e:Nat):Int:=if e%2=0 then (J.getD (e/2) Jn.zero).room else 0
def ixs (E:List Eg) (i:Nat):List Nat:=(List.range E.length).filter fun e=>decide ((E.getD e Eg.zero).f=i)
def tw (e:Nat):Nat:=if e%2=0 then e+1 else e-1
theorem iE (J:List Jn):(egs J).length=2*J.length:=by
 induction J with
 | nil=>rfl
 | cons j J ih=>simp only [egs,List.flatMap_cons,List.length_append,List.length_cons] at ih ⊢;rw [ih];simp [egs2];omega
theorem oR (J:List Jn) (j:Jn):egs (J++[j])=egs J++egs2 j:=by simp [egs]
theorem mM {α:Type} {l l':List α} {d:α} {q:Nat} (h:q<l.length):(l++l').getD q d=l.getD q d:=by
 rw [List.getD_eq_getElem?_getD,List.getD_eq_getElem?_getD,List.getElem?_append_left h]
theorem jK {α:Type} {l l':List α} {d:α} {q:Nat} (h:l.length≤q):(l++l').getD q d=l'.getD (q-l.length) d:=by
 rw [List.getD_eq_getElem?_getD,List.getD_eq_getElem?_getD,List.getElem?_append_right h]
theorem Tg (J:List Jn) (j:Jn):(egs (J++[j])).getD (2*J.length) Eg.zero=⟨j.f,j.t,j.mv.pas,j.mv.at_⟩:=by
 rw [oR,jK (by rw [iE];omega),iE,Nat.sub_self];rfl
theorem Th (J:List Jn) (j:Jn):(egs (J++[j])).getD (2*J.length+1) Eg.zero=⟨j.t,j.f,-1,0⟩:=by
 rw [oR,jK (by rw [iE];omega),iE,show 2*J.length+1-2*J.length=1 by omega];rfl
theorem Zh {J:List Jn} {j:Jn} {e:Nat} (h:e<2*J.length):(egs (J++[j])).getD e Eg.zero=(egs J).getD e Eg.zero:=by rw [oR,mM (by rw [iE];exact h)]
theorem Kl {J:List Jn} {j:Jn} {e:Nat} (h:e<2*J.length):egr (J++[j]) e=egr J e:=by unfold egr;rw [mM (by omega)]
theorem Ej (J:List Jn) (j:Jn):egr (J++[j]) (2*J.length)=j.room:=by
 unfold egr;rw [if_pos (by omega),show 2*J.length/2=J.length by omega,jK (Nat.le_refl _),Nat.sub_self];rfl
theorem Ek (J:List Jn) (j:Jn):egr (J++[j]) (2*J.length+1)=0:=by unfold egr;rw [if_neg (by omega)]
theorem yX {l:List Nat} {p q:Nat→Bool} (h:∀ x ∈ l,p x=q x):l.filter p=l.filter q:=by
  induction l with
  | nil=>rfl
  | cons a l ih=>
    have h1:=h a (List.mem_cons_self ..)
    have h2:=ih fun x hx=>h x (List.mem_cons_of_mem _ hx)
    by_cases hp:p a=true
    · rw [List.filter_cons_of_pos hp,List.filter_cons_of_pos (by rw [←h1];exact hp),h2]
    · rw [List.filter_cons_of_neg hp,List.filter_cons_of_neg (by rw [←h1];exact hp),h2]
theorem El {E:List Eg} {e1:Eg} {i:Nat}:ixs (E++[e1]) i=ixs E i++(if e1.f=i then [E.length] else []):=by
  unfold ixs
  rw [List.length_append,List.length_singleton,List.range_succ,List.filter_append];congr 1
  · refine yX fun x hx=>?_
    rw [mM (List.mem_range.1 hx)]
  · have hg:(E++[e1]).getD E.length Eg.zero=e1:=by rw [jK (Nat.le_refl _),Nat.sub_self];rfl
    by_cases h:e1.f=i
    · rw [if_pos h,List.filter_cons_of_pos (by rw [hg];exact decide_eq_true h)];rfl
    · rw [if_neg h,List.filter_cons_of_neg (by rw [hg,decide_eq_false h];simp)];rfl
theorem oS {J:List Jn} {j:Jn} (hft:j.f≠j.t) (i:Nat):ixs (egs (J++[j])) i=if i=j.f then ixs (egs J) i++[2*J.length] else if i=j.t then ixs (egs J) i++[2*J.length+1] else ixs (egs J) i:=by
  have e:egs (J++[j])=(egs J++[⟨j.f,j.t,j.mv.pas,j.mv.at_⟩])++[⟨j.t,j.f,-1,0⟩]:=by rw [oR];unfold egs2;simp
  rw [e,El,El,List.length_append,iE];dsimp only;by_cases h1:i=j.f
  · subst h1
    rw [if_pos rfl,if_pos rfl,if_neg (fun h=>hft h.symm),List.append_nil]
  · rw [if_neg (fun h=>h1 h.symm),if_neg h1]
    by_cases h2:i=j.t
    · subst h2;rw [if_pos rfl,if_pos rfl,List.append_nil];rfl
    · rw [if_neg (fun h=>h2 h.symm),if_neg h2,List.append_nil,List.append_nil]
structure Lk (N:Net) (E:List Eg):Prop where
 len:∀ i,i<N.k→(ixs E i).length=N.n i
 lt:∀ i,i<N.k→∀ q,q<N.n i→(ixs E i).getD q 0<E.length
 ef:∀ i,i<N.k→∀ q,q<N.n i→(E.getD ((ixs E i).getD q 0) Eg.zero).f=i
 et:∀ i,i<N.k→∀ q,q<N.n i→(E.getD ((ixs E i).getD q 0) Eg.zero).t=N.to i q
 tw:∀ i,i<N.k→∀ q,q<N.n i→(ixs E (N.to i q)).getD (N.back i q) 0=tw ((ixs E i).getD q 0)
 inj:∀ i,i<N.k→∀ q q',q<N.n i→q'<N.n i→(ixs E i).getD q 0=(ixs E i).getD q' 0→q=q'
 evn:E.length%2=0
def rmE (E:List Eg) (r:Nat→Int):RM:=fun i q=>r ((ixs E i).getD q 0)
theorem Bz {E:List Eg} {i q:Nat} (h:q<(ixs E i).length):(ixs E i).getD q 0<E.length∧(E.getD ((ixs E i).getD q 0) Eg.zero).f=i:=by
 have hm:(ixs E i).getD q 0 ∈ ixs E i:=by rw [List.getD_eq_getElem?_getD,List.getElem?_eq_getElem h];exact List.getElem_mem h
 have:=List.mem_filter.1 hm
 exact ⟨List.mem_range.1 this.1,of_decide_eq_true this.2⟩
theorem Zi {E:List Eg} {i q q':Nat} (h:q<(ixs E i).length) (h':q'<(ixs E i).length) (e:(ixs E i).getD q 0=(ixs E i).getD q' 0):q=q':=by
 have hn:(ixs E i).Nodup:=List.Pairwise.filter _ List.nodup_range
 rw [List.getD_eq_getElem?_getD,List.getD_eq_getElem?_getD,List.getElem?_eq_getElem h,List.getElem?_eq_getElem h'] at e;exact (List.getElem_inj hn).1 e
theorem Em:∀ (n:Nat) (J:List Jn),J.length=n→(∀ j ∈ J,j.f≠j.t)→∀ i,(ixs (egs J) i).length=(joins J i).length∧∀ q,q<(joins J i).length →
    ((egs J).getD ((ixs (egs J) i).getD q 0) Eg.zero).t=((joins J i).getD q Ent.zero).to∧egr J ((ixs (egs J) i).getD q 0)=((joins J i).getD q Ent.zero).room ∧
    ((joins J i).getD q Ent.zero).back<(joins J ((joins J i).getD q Ent.zero).to).length∧(ixs (egs J) ((joins J i).getD q Ent.zero).to).getD ((joins J i).getD q Ent.zero).back 0=tw ((ixs (egs J) i).getD q 0):=by
  intro n;induction n with
  | zero=>
    intro J h _ i;have:J=[]:=List.eq_nil_of_length_eq_zero h;subst this;exact ⟨rfl,fun q hq=>absurd hq (Nat.not_lt_zero q)⟩
  | succ n ih=>
    intro J h hne;obtain ⟨J',j,rfl⟩:∃ J' j,J=J'++[j]:=⟨J.dropLast,J.getLast (by intro e;subst e;simp at h),(List.dropLast_concat_getLast _).symm⟩;have IH:=ih J' (by simpa using h) (fun x hx=>hne x (List.mem_append_left _ hx));have hft:j.f≠j.t:=hne j (List.mem_append_right _ (by simp));have hlen:=wS (T:=joins J') (f:=j.f) (t:=j.t) (room:=j.room) (mv:=j.mv) hft;have hat:=Bk (T:=joins J') (f:=j.f) (t:=j.t) (room:=j.room) (mv:=j.mv) hft
    have hL:∀ i,(ixs (egs (J'++[j])) i).length=(joins (J'++[j]) i).length:=fun i=>by
      have h2:=hlen i
      unfold tlen at h2
      rw [fL,h2,oS hft,←(IH i).1];by_cases h1:i=j.f
      · subst h1;rw [if_pos rfl,if_pos rfl,if_neg hft];simp
      · rw [if_neg h1,if_neg h1]
        by_cases h2:i=j.t
        · subst h2;rw [if_pos rfl,if_pos rfl];simp
        · rw [if_neg h2,if_neg h2];omega
    have hX0:∀ i q,q<(joins J' i).length→(ixs (egs (J'++[j])) i).getD q 0=(ixs (egs J') i).getD q 0:=fun i q hq=>by
      have h2:=(IH i).1
      rw [oS hft];split
      · exact mM (by omega)
      · split
        · exact mM (by omega)
        · rfl
    have hXf:(ixs (egs (J'++[j])) j.f).getD (joins J' j.f).length 0=2*J'.length:=by
      rw [oS hft,if_pos rfl,jK (by rw [(IH j.f).1];omega),(IH j.f).1,Nat.sub_self];rfl
    have hXt:(ixs (egs (J'++[j])) j.t).getD (joins J' j.t).length 0=2*J'.length+1:=by
      rw [oS hft,if_neg (fun e=>hft e.symm),if_pos rfl,jK (by rw [(IH j.t).1];omega),(IH j.t).1,Nat.sub_self];rfl
    intro i;refine ⟨hL i,fun q hq=>?_⟩;have hq':=hq;rw [fL] at hq';have h2:=hlen i;unfold tlen at h2;rw [h2] at hq';have he:∀ i q,(joins (J'++[j]) i).getD q Ent.zero=entAt (joinT (joins J') j.f j.t j.room j.mv) i q:=fun i q=>by rw [fL];rfl
    have tw0:tw (2*J'.length)=2*J'.length+1:=by unfold tw;rw [if_pos (by omega)]
    have tw1:tw (2*J'.length+1)=2*J'.length:=by unfold tw;rw [if_neg (by omega)];omega
    have hlt:∀ i,(joins (J'++[j]) i).length=(joins J' i).length+(if i=j.f then 1 else 0)+(if i=j.t then 1 else 0):=fun i=>by rw [fL];exact hlen i
    rw [he,hat];unfold tlen;by_cases c1:i=j.f∧q=(joins J' j.f).length
    · obtain ⟨rfl,rfl⟩:=c1
      rw [if_pos ⟨rfl,rfl⟩,hXf,Tg,Ej];dsimp only;exact ⟨rfl,rfl,by rw [hlt,if_pos rfl];omega,by rw [hXt,tw0]⟩
    · rw [if_neg c1]
      by_cases c2:i=j.t∧q=(joins J' j.t).length
      · obtain ⟨rfl,rfl⟩:=c2
        rw [if_pos ⟨rfl,rfl⟩,hXt,Th,Ek];dsimp only;exact ⟨rfl,rfl,by rw [hlt,if_pos rfl];omega,by rw [hXf,tw1]⟩
      · rw [if_neg c2]
        have hqo:q<(joins J' i).length:=by
          by_cases e1:i=j.f
          · subst e1;rw [if_pos rfl,if_neg hft] at hq';have:q≠(joins J' j.f).length:=fun e=>c1 ⟨rfl,e⟩;omega
          · by_cases e2:i=j.t
            · subst e2;rw [if_neg e1,if_pos rfl] at hq';have:q≠(joins J' j.t).length:=fun e=>c2 ⟨rfl,e⟩;omega
            · rw [if_neg e1,if_neg e2] at hq';omega
        obtain ⟨g1,g2,g3,g4⟩:=(IH i).2 q hqo;have hlt2:=(Bz (E:=egs J') (i:=i) (q:=q) (by rw [(IH i).1];exact hqo)).1;rw [iE] at hlt2;rw [hX0 i q hqo,Zh hlt2,Kl hlt2];refine ⟨g1,g2,?_,?_⟩
        · show ((joins J' i).getD q Ent.zero).back<_
          rw [hlt];exact Nat.lt_of_lt_of_le g3 (by show _≤(joins J' ((joins J' i).getD q Ent.zero).to).length+_+_;omega)
        · show (ixs (egs (J'++[j])) ((joins J' i).getD q Ent.zero).to).getD ((joins J' i).getD q Ent.zero).back 0=_
          rw [hX0 _ _ g3,g4]
theorem aEl {J:List Jn} {k:Nat} (h:∀ j ∈ J,j.f≠j.t):Lk ((joins J).net k) (egs J):=by
 have IH:=Em _ J rfl h
 have hl:∀ i q,q<(joins J i).length→q<(ixs (egs J) i).length:=fun i q hq=>by rw [(IH i).1];exact hq
 exact ⟨fun i _=>(IH i).1,fun i _ q hq=>(Bz (hl i q hq)).1,fun i _ q hq=>(Bz (hl i q hq)).2,fun i _ q hq=>((IH i).2 q hq).1,fun i _ q hq=>((IH i).2 q hq).2.2.2,
  fun i _ q q' hq hq' e=>Zi (hl i q hq) (hl i q' hq') e,by rw [iE];omega⟩
theorem aEm {J:List Jn} {k:Nat} (h:∀ j ∈ J,j.f≠j.t):∀ i,i<k→∀ q,q<((joins J).net k).n i→rmE (egs J) (egr J) i q=(joins J).room i q:=fun i _ q hq=>((Em _ J rfl h i).2 q hq).2.1
theorem Ti {e:Nat}:tw e≠e:=by unfold tw;split <;> omega
theorem aHq {e n:Nat} (h:e<n) (hn:n%2=0):tw e<n:=by unfold tw;split <;> omega
def pushE (r:Nat→Int) (e:Nat) (m:Int):Nat→Int:=upd (upd r e (r e-m)) (tw e) (r (tw e)+m)
section
variable {N:Net} {E:List Eg} {r:Nat→Int} {u j:Nat} {m B:Int}
theorem Tj:pushE r u m u=r u-m:=by unfold pushE;rw [bP _ _ (fun e=>Ti e.symm),bR]
theorem En:pushE r u m (tw u)=r (tw u)+m:=bR _ _ _
theorem Eo {e:Nat} (h1:e≠u) (h2:e≠tw u):pushE r u m e=r e:=by unfold pushE;rw [bP _ _ h2,bP _ _ h1]
theorem Lk.push (K:Lk N E) (W:N.Wf) (hu:u<N.k) (hj:j<N.n u):∀ i,i<N.k→∀ q,q<N.n i→rmE E (pushE r ((ixs E u).getD j 0) m) i q=along N (rmE E r) u j m i q:=by
  intro i hi q hq;have htk:=W.to_lt u hu j hj;have hbk:=W.bk_lt u hu j hj
  have same:∀ {i q i' q'},i<N.k→q<N.n i→i'<N.k→q'<N.n i'→(ixs E i).getD q 0=(ixs E i').getD q' 0→i=i'∧q=q':=by
    intro i q i' q' hi hq hi' hq' e;have e1:i=i':=by rw [←K.ef i hi q hq,e,K.ef i' hi' q' hq']
    subst e1;exact ⟨rfl,K.inj i hi q q' hq hq' e⟩
  show pushE r ((ixs E u).getD j 0) m ((ixs E i).getD q 0)=_
  by_cases h1:i=u∧q=j
  · obtain ⟨rfl,rfl⟩:=h1
    rw [Tj,oF W hi hq];rfl
  · by_cases h2:i=N.to u j∧q=N.back u j
    · obtain ⟨rfl,rfl⟩:=h2
      rw [oG,K.tw u hu j hj,En];show _=r ((ixs E (N.to u j)).getD (N.back u j) 0)+m;rw [K.tw u hu j hj]
    · rw [kT h1 h2,Eo (fun e=>h1 (same hi hq hu hj e)) (fun e=>h2 (same hi hq htk hbk (by rw [K.tw u hu j hj];exact e)))];rfl
structure Rch (N:Net) (E:List Eg) (r:Nat→Int) (b:Nat) (L:Nat→Int) (by_:Nat→Nat):Prop where
 from_:∀ v,v<N.k→0≤L v→v=b∨∃ u,u<N.k∧∃ j,j<N.n u∧0≤L u∧0<rmE E r u j∧N.to u j=v∧L v=L u+1∧by_ v=(ixs E u).getD j 0
theorem Rch.start {b:Nat} (hb:b<N.k) {L:Nat→Int} (hL:∀ v,v<N.k→L v=if v=b then 0 else -1) {by_:Nat→Nat}:Rch N E r b L by_:=⟨fun v hv h0=>by
 rw [hL v hv] at h0;split at h0
 ·rename_i e;exact .inl e
 ·omega⟩
theorem Rch.visit {b:Nat} {L:Nat→Int} {by_:Nat→Nat} (h:Rch N E r b L by_) (hu:u<N.k) (hj:j<N.n u) (h0:0≤L u) (hr:0<rmE E r u j) (hv:L (N.to u j)<0) :
    Rch N E r b (upd L (N.to u j) (L u+1)) (upd by_ (N.to u j) ((ixs E u).getD j 0)):=⟨fun v hv' h0'=>by
  have hne:∀ v,0≤L v→v≠N.to u j:=fun v h0 e=>by subst e;omega
  by_cases e:v=N.to u j
  · subst e
    rw [bR,bR];exact .inr ⟨u,hu,j,hj,by rw [bP _ _ (hne u h0)];exact h0,hr,rfl,by rw [bP _ _ (hne u h0)],rfl⟩
  · rw [bP _ _ e] at h0'
    rcases h.from_ v hv' h0' with h1|⟨u',hu',j',hj',g1,g2,g3,g4,g5⟩
    · exact .inl h1
    · refine .inr ⟨u',hu',j',hj',?_,g2,g3,?_,?_⟩
      · rw [bP _ _ (hne u' g1)];exact g1
      · rw [bP _ _ e,bP _ _ (hne u' g1)];exact g4
      · rw [bP _ _ e];exact g5⟩
def prv (E:List Eg) (by_:Nat→Nat) (v:Nat):Nat:=(E.getD (by_ v) Eg.zero).f
def pth (E:List Eg) (by_:Nat→Nat) (x:Nat):Nat→Nat
 | 0=>x
 | i+1=>prv E by_ (pth E by_ x i)
theorem Rch.prv {b:Nat} {L:Nat→Int} {by_:Nat→Nat} (K:Lk N E) (h:Rch N E r b L by_) {v:Nat} (hv:v<N.k) (h0:0≤L v) (hne:v≠b) :
    ∃ j,prv E by_ v<N.k∧j<N.n (prv E by_ v)∧0≤L (prv E by_ v)∧0<r (by_ v)∧N.to (prv E by_ v) j=v∧L v=L (prv E by_ v)+1∧by_ v=(ixs E (prv E by_ v)).getD j 0∧by_ v<E.length∧(E.getD (by_ v) Eg.zero).t=v:=by
  rcases h.from_ v hv h0 with h1|⟨u,hu,j,hj,g1,g2,g3,g4,g5⟩
  · exact absurd h1 hne
  · have e:Go.Proofs.YtopmadlgolnmfaaGreat.prv E by_ v=u:=by unfold Go.Proofs.YtopmadlgolnmfaaGreat.prv;rw [g5];exact K.ef u hu j hj
    rw [e];exact ⟨j,hu,hj,g1,by rw [g5];exact g2,g3,g4,g5,by rw [g5];exact K.lt u hu j hj,by rw [g5,K.et u hu j hj];exact g3⟩
end
def ndR (T p t:Nat):Nat:=p*(T+1)+t
def farI:Int:=1073741824
def goneI (out:Int) (p:Psg) (place:Int):Int:=
 if othr p place<0∨p.kind=4 then -1 else if p.kind=3∧bitI out p.mach=1 then p.still else if p.kind=3∧place=p.b then -1 else p.ticks
def rmv:Mv:=⟨-1,0,0,0⟩
def jrBeg (P T:Nat) (pe:List Int) (p:Nat):Jn:=⟨P*(T+1),ndR T p 0,pe.getD p 0,rmv⟩
def fT (P T:Nat) (xs:List Int) (p t:Nat):List Jn:=if hasI xs p=true then [⟨ndR T p t,P*(T+1)+1,farI,rmv⟩] else if t<T then [⟨ndR T p t,ndR T p (t+1),farI,rmv⟩] else []
def cR (P T:Nat) (xs:List Int) (p:Nat):Nat→List Jn
 | 0=>[]
 | t+1=>cR P T xs p t++fT P T xs p t
def aX (P T:Nat) (pe xs:List Int):Nat→List Jn
 | 0=>[]
 | p+1=>aX P T pe xs p++(jrBeg P T pe p::cR P T xs p (T+1))
def endI (p:Psg) (k:Nat):Int:=if k=0 then p.a else p.b
def jrOne (T:Nat) (xs:List Int) (out:Int) (p:Psg) (i t k:Nat):List Jn:=
  if (0≤goneI out p (endI p k)∧(t:Int)+goneI out p (endI p k)≤T)∧hasI xs (endI p k)=false then
    [⟨ndR T (endI p k).toNat t,ndR T (endI p (1-k)).toNat (t+(goneI out p (endI p k)).toNat),p.wide,⟨i,0,t,0⟩⟩] else []
def dK (T:Nat) (xs:List Int) (out:Int) (ps:List Psg) (t:Nat):Nat→List Jn
 | 0=>[]
 | i+1=>dK T xs out ps t i++(jrOne T xs out (ps.getD i aJj) i t 0++jrOne T xs out (ps.getD i aJj) i t 1)
def bQ (T:Nat) (xs:List Int) (out:Int) (ps:List Psg):Nat→List Jn
 | 0=>[]
 | t+1=>bQ T xs out ps t++dK T xs out ps t ps.length
def jrAll (P T:Nat) (pe xs:List Int) (out:Int) (ps:List Psg):List Jn:=aX P T pe xs P++bQ T xs out ps (T+1)
def cr (S:Nat→Bool) (f t:Nat) (c:Int):Int:=if S f=true∧S t=false then c else 0
theorem tN (S:Nat→Bool) (j:Jn) (J:List Jn):capJ S (j::J)=cr S j.f j.t j.room+capJ S J:=rfl
theorem pX {S:Nat→Bool} {f t:Nat} {c:Int} (h:0≤c):0≤cr S f t c:=by unfold cr;split <;> omega
def onR (T:Nat) (S:Nat→Bool) (p t:Nat):Bool:=S (ndR T p t)
def onP (P:Nat) (S:Nat→Bool) (p t:Nat):Bool:=S (nd P t p)
def hC (U:Nat→Nat→Bool) (T:Nat) (f t:Nat) (d:Int) (c:Int) (tick:Nat):Int:=if (tick:Int)+d≤T∧U f tick=true∧U t (tick+d.toNat)=false then c else 0
def pC (U:Nat→Nat→Bool) (T:Nat) (xs:List Int) (out:Int) (p:Psg) (tick k:Nat):Int:=if 0≤goneI out p (endI p k)∧hasI xs (endI p k)=false then hC U T (endI p k).toNat (endI p (1-k)).toNat (goneI out p (endI p k)) p.wide tick else 0
def headC (U:Nat→Nat→Bool) (T:Nat) (xs:List Int) (out:Int) (ps:List Psg):Int:=sm (fun t=>sm (fun i=>pC U T xs out (ps.getD i aJj) t 0+pC U T xs out (ps.getD i aJj) t 1) ps.length) (T+1)
def begC (U:Nat→Nat→Bool) (pe:List Int) (P:Nat):Int:=sm (fun p=>if U p 0=false then pe.getD p 0 else 0) P
def Tight (U:Nat→Nat→Bool) (P T:Nat) (xs:List Int):Prop:=∀ p,p<P→(hasI xs p=true→∀ t,t≤T→U p t=false)∧(hasI xs p=false→∀ t,t<T→U p t=true→U p (t+1)=true)
section
variable {P T:Nat} {pe xs:List Int} {out:Int} {ps:List Psg} {S:Nat→Bool}
theorem oT {f t:Nat} {c:Int} {mv:Mv}:capJ S [⟨f,t,c,mv⟩]=cr S f t c:=by rw [tN];exact Int.add_zero _
theorem zV {p:Psg} {i t k:Nat}:capJ S (jrOne T xs out p i t k)=pC (onR T S) T xs out p t k:=by
  unfold jrOne pC hC
  by_cases h0:0≤goneI out p (endI p k)∧hasI xs (endI p k)=false
  · rw [if_pos h0]
    by_cases h1:(t:Int)+goneI out p (endI p k)≤T
    · rw [if_pos ⟨⟨h0.1,h1⟩,h0.2⟩,oT]
      unfold cr onR
      by_cases h2:S (ndR T (endI p k).toNat t)=true∧S (ndR T (endI p (1-k)).toNat (t+(goneI out p (endI p k)).toNat))=false
      · rw [if_pos h2,if_pos ⟨h1,h2⟩]
      · rw [if_neg h2,if_neg (fun h=>h2 h.2)]
    · rw [if_neg (fun h=>h1 h.1.2),if_neg (fun h=>h1 h.1)];rfl
  · rw [if_neg h0,if_neg (fun h=>h0 ⟨h.1.1,h.2⟩)];rfl
theorem Hz {t:Nat}:∀ n,capJ S (dK T xs out ps t n)=sm (fun i=>pC (onR T S) T xs out (ps.getD i aJj) t 0+pC (onR T S) T xs out (ps.getD i aJj) t 1) n:=by
 intro n;induction n with
 | zero=>rfl
 | succ n ih=>rw [dK,cP,cP,ih,zV,zV,sm]
theorem Ep:∀ n,capJ S (bQ T xs out ps n)=sm (fun t=>sm (fun i=>pC (onR T S) T xs out (ps.getD i aJj) t 0+pC (onR T S) T xs out (ps.getD i aJj) t 1) ps.length) n:=by
 intro n;induction n with
 | zero=>rfl
 | succ n ih=>rw [bQ,cP,ih,Hz,sm]
theorem sC {f:Nat→Nat→Int} {m:Nat}:∀ {n:Nat},sm (fun i=>sm (fun j=>f i j) m) n=sm (fun j=>sm (fun i=>f i j) n) m:=by
 intro n;induction n with
 | zero=>exact (eQ fun _ _=>rfl).symm
 | succ n ih=>rw [sm,ih,←tE];exact dW fun j _=>rfl
theorem Ia {h:Hd}:∀ n,capJ S (fW P h n)=sm (fun t=>cr S (nd P t h.fr.toNat) (nd P (t+h.ticks.toNat) h.to.toNat) h.wide) n:=by
  intro n;induction n with
  | zero=>rfl
  | succ n ih=>
    have e:fW P h (n+1)=fW P h n++[jHead P h n]:=jI n
    rw [e,cP,ih,sm];congr 1;exact oT
theorem aEn {f:Nat→Int} {m:Nat}:∀ {n:Nat},m≤n→sm (fun t=>if t<m then f t else 0) n=sm f m:=by
  intro n;induction n with
  | zero => intro h;have:m=0:=by omega
            subst this;rfl
  | succ n ih=>
    intro h;rw [sm];by_cases e:m=n+1
    · subst e;rw [if_pos (by omega),sm];congr 1;exact dW fun i hi=>if_pos (by omega)
    · rw [ih (by omega),if_neg (by omega)];omega
theorem Nk {h:Hd} (h1:1≤h.ticks):capJ S (fW P h (T+1-h.ticks.toNat))=sm (hC (onP P S) T h.fr.toNat h.to.toNat h.ticks h.wide) (T+1):=by
  rw [Ia,←aEn (n:=T+1) (by omega)];refine dW fun t ht=>?_
  unfold hC cr onP
  by_cases h2:t<T+1-h.ticks.toNat
  · rw [if_pos h2]
    by_cases h3:S (nd P t h.fr.toNat)=true∧S (nd P (t+h.ticks.toNat) h.to.toNat)=false
    · rw [if_pos h3,if_pos ⟨by omega,h3⟩]
    · rw [if_neg h3,if_neg (fun h=>h3 h.2)]
  · rw [if_neg h2,if_neg (fun h=>by omega)]
def hdC (U:Nat→Nat→Bool) (T:Nat):List Hd→Int
 | []=>0
 | h::l=>sm (hC U T h.fr.toNat h.to.toNat h.ticks h.wide) (T+1)+hdC U T l
theorem qR {U:Nat→Nat→Bool} {l l':List Hd}:hdC U T (l++l')=hdC U T l+hdC U T l':=by
 induction l with
 | nil=>simp [hdC]
 | cons h l ih=>simp only [List.cons_append,hdC,ih];omega
theorem Ib {hs:List Hd} (hh:∀ i,i<hs.length→HdOk P (hs.getD i aJp)):∀ n,n≤hs.length→capJ S (eJ P T hs n)=hdC (onP P S) T (hs.take n):=by
  intro n;induction n with
  | zero=>intro _;simp [eJ,capJ,hdC]
  | succ n ih=>
    intro hn;have h1:=hh n (by omega);unfold HdOk at h1;rw [eJ,cP,ih (by omega),Nk (by omega),List.take_succ_eq_append_getElem (by omega),qR];congr 1;rw [List.getD_eq_getElem?_getD,List.getElem?_eq_getElem (by omega)];simp [hdC]
theorem Ic {n:Nat}:sm (fun _=>(0:Int)) n=0:=eQ fun _ _=>rfl
theorem Nl {U:Nat→Nat→Bool} {k:Nat} (V:StV P ps xs) (hk:k<ps.length) (ho:0≤out):hdC U T (hdsOf out xs k (ps.getD k aJj))=sm (fun t=>pC U T xs out (ps.getD k aJj) t 0+pC U T xs out (ps.getD k aJj) t 1) (T+1):=by
  have hp:=bW.1 (V.pas k hk)
  rw [tE];generalize ps.getD k aJj=p at hp;have hab:¬ p.b=p.a:=fun h=>hp.2.2.2.2.1 h.symm
  have hab':¬ p.a=p.b:=fun h=>hp.2.2.2.2.1 h
  have bt:bitI out p.mach=0∨bitI out p.mach=1:=by unfold bitI;omega
  unfold hdsOf
  by_cases h4:p.kind=4
  · rw [if_pos h4]
    have z:∀ k,goneI out p (endI p k) = -1:=fun k=>by unfold goneI;rw [if_pos (.inr h4)]
    have e:∀ k t,pC U T xs out p t k=0:=fun k t=>by unfold pC;rw [z k,if_neg (fun h=>by omega)]
    simp only [hdC,e,Ic]
    rfl
  · rw [if_neg h4,qR]
    have oA:othr p (endI p 0)=p.b:=by unfold othr endI;rw [if_pos rfl];simp
    have oB:othr p (endI p 1)=p.a:=by unfold othr endI;simp only [Nat.one_ne_zero,if_false];rw [if_neg hab'];simp
    have gA:goneI out p (endI p 0)=eR out p:=by
      unfold goneI eR
      rw [oA,if_neg (by omega)];by_cases h3:p.kind=3∧bitI out p.mach=1
      · rw [if_pos h3,if_pos ⟨h3.1,by omega⟩]
      · rw [if_neg h3,if_neg (fun h=>hab' h.2),if_neg (fun h=>h3 ⟨h.1,by omega⟩)]
    have ht:1≤eR out p:=by unfold eR;split <;> omega
    congr 1
    · unfold hdsA
      by_cases hx:hasI xs p.a=true
      · rw [if_pos hx]
        have e:∀ t,pC U T xs out p t 0=0:=fun t=>by unfold pC;rw [if_neg (fun h=>by have h2:=h.2;unfold endI at h2;rw [if_pos rfl,hx] at h2;cases h2)]
        simp only [hdC,e,Ic]
      · rw [if_neg hx]
        have e:∀ t,pC U T xs out p t 0=hC U T p.a.toNat p.b.toNat (eR out p) p.wide t:=fun t=>by
          unfold pC
          rw [gA,if_pos ⟨by omega,by unfold endI;rw [if_pos rfl];simpa using hx⟩];rfl
        simp only [hdC,e]
        exact Int.add_zero _
    · unfold hdsB
      by_cases hb:(kC out p&&!hasI xs p.b)=true
      · rw [if_pos hb]
        simp only [Bool.and_eq_true,Bool.not_eq_true'] at hb
        have h3:¬ (p.kind=3∧bitI out p.mach=0):=fun h=>by
          have:=hb.1
          unfold kC at this
          rw [decide_eq_true h.1,decide_eq_true h.2] at this;cases this
        have gB:goneI out p (endI p 1)=eR out p:=by
          unfold goneI eR
          rw [oB,if_neg (by omega)];by_cases h5:p.kind=3∧bitI out p.mach=1
          · rw [if_pos h5,if_pos ⟨h5.1,by omega⟩]
          · rw [if_neg h5,if_neg (fun h=>h3 ⟨h.1,by have h6:¬ bitI out p.mach=1:=fun e=>h5 ⟨h.1,e⟩;omega⟩),if_neg (fun h=>h5 ⟨h.1,by omega⟩)]
        have e:∀ t,pC U T xs out p t 1=hC U T p.b.toNat p.a.toNat (eR out p) p.wide t:=fun t=>by
          unfold pC
          rw [gB,if_pos ⟨by omega,hb.2⟩];rfl
        simp only [hdC,e]
        exact Int.add_zero _
      · rw [if_neg hb]
        have e:∀ t,pC U T xs out p t 1=0:=fun t=>by
          unfold pC
          refine if_neg fun h=>hb ?_
          have hx:hasI xs p.b=false:=h.2
          rw [hx];have h1:=h.1;unfold goneI at h1;rw [oB,if_neg (by omega)] at h1;unfold kC;by_cases h3:p.kind=3
          · by_cases h5:bitI out p.mach=1
            · rw [decide_eq_false (p:=bitI out p.mach=0) (by omega),Bool.and_false];rfl
            · rw [if_neg (fun h=>h5 h.2),if_pos ⟨h3,rfl⟩] at h1
              omega
          · rw [decide_eq_false h3];rfl
        simp only [hdC,e,Ic]
theorem Zj {U:Nat→Nat→Bool} (V:StV P ps xs) (ho:0≤out):hdC U T (hds out xs ps)=headC U T xs out ps:=by
 have key:∀ n,n≤ps.length→hdC U T (hdsTo out xs ps n)=sm (fun i=>sm (fun t=>pC U T xs out (ps.getD i aJj) t 0+pC U T xs out (ps.getD i aJj) t 1) (T+1)) n:=by
  intro n;induction n with
  | zero=>intro _;rfl
  | succ n ih=>intro hn;rw [hdsTo,qR,ih (by omega),Nl V (by omega) ho];rfl
 unfold headC hds
 rw [key _ (Nat.le_refl _),sC]
theorem Zk (V:StV P ps xs) (ho:0≤out):capJ S (eJ P T (hds out xs ps) (hds out xs ps).length)=headC (onP P S) T xs out ps:=by
 rw [Ib (tK V) _ (Nat.le_refl _),List.take_length,Zj V ho]
theorem Zl:capJ S (bQ T xs out ps (T+1))=headC (onR T S) T xs out ps:=Ep _
theorem Er {p:Nat}:∀ n,capJ S (cR P T xs p n)=sm (fun t=>capJ S (fT P T xs p t)) n:=by
 intro n;induction n with
 | zero=>rfl
 | succ n ih=>rw [cR,cP,ih,sm]
theorem zW {p t:Nat}:0≤capJ S (fT P T xs p t):=Yu fun j hj=>by
  unfold fT at hj
  split at hj
  · rw [List.mem_singleton.1 hj];exact (by decide:(0:Int)≤farI)
  · split at hj
    · rw [List.mem_singleton.1 hj];exact (by decide:(0:Int)≤farI)
    · cases hj
theorem Zm:∀ n,capJ S (aX P T pe xs n)=sm (fun p=>cr S (P*(T+1)) (ndR T p 0) (pe.getD p 0)+sm (fun t=>capJ S (fT P T xs p t)) (T+1)) n:=by
 intro n;induction n with
 | zero=>rfl
 | succ n ih=>rw [aX,cP,ih,tN,Er,sm];rfl
theorem Nm {p:Nat}:∀ n,capJ S (dL P p n)=sm (fun t=>cr S (nd P t p) (nd P (t+1) p) fM) n:=by
  intro n;induction n with
  | zero=>rfl
  | succ n ih=>
    have e:dL P p (n+1)=dL P p n++[jWait P p n]:=jI n
    rw [e,cP,ih,sm];congr 1;exact oT
theorem Nn {p:Nat}:∀ n,capJ S (fG P T p n)=sm (fun t=>cr S (nd P t p) (P*(T+1)+1) fM) n:=by
  intro n;induction n with
  | zero=>rfl
  | succ n ih=>
    have e:fG P T p (n+1)=fG P T p n++[jExit P T p n]:=jI n
    rw [e,cP,ih,sm];congr 1;exact oT
def plC (P T:Nat) (xs:List Int) (S:Nat→Bool) (p:Nat):Int:=sm (fun t=>cr S (nd P t p) (nd P (t+1) p) fM) T+(if hasI xs p=true then sm (fun t=>cr S (nd P t p) (P*(T+1)+1) fM) (T+1) else 0)
theorem Zn:∀ n,capJ S (bF P T pe xs n)=sm (fun p=>cr S (P*(T+1)) (nd P 0 p) (pe.getD p 0)+plC P T xs S p) n:=by
  intro n;induction n with
  | zero=>rfl
  | succ n ih=>
    rw [bF,cP,ih,sm];congr 1;unfold kD;rw [tN,cP,Nm];unfold plC;congr 2;split
    · exact Nn _
    · rfl
theorem aEo {p:Nat}:0≤plC P T xs S p:=by
 unfold plC
 have h1:=dC (f:=fun t=>cr S (nd P t p) (nd P (t+1) p) fM) (n:=T) (fun t _=>pX (by decide))
 have h2:=dC (f:=fun t=>cr S (nd P t p) (P*(T+1)+1) fM) (n:=T+1) (fun t _=>pX (by decide))
 split <;> omega
theorem aDl (hpe:∀ p,p<P→0≤pe.getD p 0) (hw:∀ i,i<ps.length→0≤(ps.getD i aJj).wide) (hb:S (P*(T+1))=true) (hx:S (P*(T+1)+1)=false) :
    (Tight (onR T S) P T xs→capJ S (jrAll P T pe xs out ps)=begC (onR T S) pe P+headC (onR T S) T xs out ps)∧(¬ Tight (onR T S) P T xs→farI≤capJ S (jrAll P T pe xs out ps)):=by
  have hbeg:∀ p,cr S (P*(T+1)) (ndR T p 0) (pe.getD p 0)=if onR T S p 0=false then pe.getD p 0 else 0:=fun p=>by
    unfold cr onR
    by_cases h:S (ndR T p 0)=false
    · rw [if_pos ⟨hb,h⟩,if_pos h]
    · rw [if_neg (fun h2=>h h2.2),if_neg h]
  have hhn:0≤headC (onR T S) T xs out ps:=dC fun t _=>dC fun i hi=>by
    have:=hw i hi
    have key:∀ k,0≤pC (onR T S) T xs out (ps.getD i aJj) t k:=fun k=>by unfold pC hC;split;(split <;> omega);omega
    have h0:=key 0
    have h1:=key 1
    omega
  unfold jrAll
  rw [cP,Zl,Zm];refine ⟨fun ht=>?_,fun hn=>?_⟩
  · congr 1
    unfold begC
    refine dW fun p hp=>?_
    rw [hbeg,eQ (f:=fun t=>capJ S (fT P T xs p t)) fun t htT=>?_]
    · omega
    · have h1:=ht p hp
      unfold fT
      by_cases he:hasI xs p=true
      · rw [if_pos he,oT]
        unfold cr
        rw [if_neg];rintro ⟨h2,_⟩;have:=h1.1 he t (by omega);unfold onR at this;rw [h2] at this;cases this
      · rw [if_neg he]
        by_cases hlt:t<T
        · rw [if_pos hlt,oT]
          unfold cr
          rw [if_neg];rintro ⟨h2,h3⟩;have:=h1.2 (by simpa using he) t hlt h2;unfold onR at this;rw [h3] at this;cases this
        · rw [if_neg hlt];rfl
  · have:∃ p,p<P∧∃ t,t<T+1∧farI≤capJ S (fT P T xs p t):=by
      refine Classical.byContradiction fun hno=>hn fun p hp=>⟨fun he t ht=>?_,fun he t ht h1=>?_⟩
      · cases hs:onR T S p t with
        | false=>rfl
        | true=>
          exfalso
          apply hno
          refine ⟨p,hp,t,by omega,?_⟩
          unfold fT
          rw [if_pos he,oT];unfold cr;rw [if_pos ⟨hs,hx⟩];exact Int.le_refl _
      · cases hs:onR T S p (t+1) with
        | true=>rfl
        | false=>
          exfalso
          apply hno
          refine ⟨p,hp,t,by omega,?_⟩
          unfold fT
          rw [if_neg (by rw [he];simp),if_pos ht,oT];unfold cr;rw [if_pos ⟨h1,hs⟩];exact Int.le_refl _
    obtain ⟨p,hp,t,ht,h2⟩:=this;have h3:=oE (f:=fun t=>capJ S (fT P T xs p t)) (n:=T+1) (fun _ _=>zW) ht
    have h4:=oE (f:=fun p=>cr S (P*(T+1)) (ndR T p 0) (pe.getD p 0)+sm (fun t=>capJ S (fT P T xs p t)) (T+1)) (n:=P) (fun q hq=>by
      have h5:=pX (S:=S) (f:=P*(T+1)) (t:=ndR T q 0) (hpe q hq)
      have h6:=dC (f:=fun t=>capJ S (fT P T xs q t)) (n:=T+1) (fun _ _=>zW)
      omega) hp
    have h5:=pX (S:=S) (f:=P*(T+1)) (t:=ndR T p 0) (hpe p hp)
    omega
theorem Tk (V:StV P ps xs) (ho:0≤out) (hpe:∀ p,p<P→0≤pe.getD p 0) (hb:S (P*(T+1))=true) (hx:S (P*(T+1)+1)=false) :
    (Tight (onP P S) P T xs→capJ S (jAll P T pe xs (hds out xs ps))=begC (onP P S) pe P+headC (onP P S) T xs out ps)∧(¬ Tight (onP P S) P T xs→farI≤capJ S (jAll P T pe xs (hds out xs ps))):=by
  have hw:∀ i,i<ps.length→0≤(ps.getD i aJj).wide:=fun i hi=>by have:=bW.1 (V.pas i hi);omega
  have hbeg:∀ p,cr S (P*(T+1)) (nd P 0 p) (pe.getD p 0)=if onP P S p 0=false then pe.getD p 0 else 0:=fun p=>by
    unfold cr onP
    by_cases h:S (nd P 0 p)=false
    · rw [if_pos ⟨hb,h⟩,if_pos h]
    · rw [if_neg (fun h2=>h h2.2),if_neg h]
  have hhn:0≤headC (onP P S) T xs out ps:=dC fun t _=>dC fun i hi=>by
    have:=hw i hi
    have key:∀ k,0≤pC (onP P S) T xs out (ps.getD i aJj) t k:=fun k=>by unfold pC hC;split;(split <;> omega);omega
    have h0:=key 0
    have h1:=key 1
    omega
  unfold jAll
  rw [cP,Zk V ho,Zn];refine ⟨fun ht=>?_,fun hn=>?_⟩
  · congr 1
    unfold begC
    refine dW fun p hp=>?_
    have h1:=ht p hp
    have hz:plC P T xs S p=0:=by
      unfold plC
      have e1:sm (fun t=>cr S (nd P t p) (nd P (t+1) p) fM) T=0:=eQ fun t htT=>by
        unfold cr
        rw [if_neg];rintro ⟨h2,h3⟩;by_cases he:hasI xs p=true
        · have:=h1.1 he t (by omega);unfold onP at this;rw [h2] at this;cases this
        · have:=h1.2 (by simpa using he) t htT h2;unfold onP at this;rw [h3] at this;cases this
      rw [e1];split
      · rename_i he
        rw [eQ fun t htT=>?_]
        · rfl
        · unfold cr
          rw [if_neg];rintro ⟨h2,_⟩;have:=h1.1 he t (by omega);unfold onP at this;rw [h2] at this;cases this
      · rfl
    rw [hbeg,hz];omega
  · have:∃ p,p<P∧fM≤plC P T xs S p:=by
      refine Classical.byContradiction fun hno=>hn fun p hp=>⟨fun he t ht=>?_,fun he t ht h1=>?_⟩
      · cases hs:onP P S p t with
        | false=>rfl
        | true=>
          exfalso
          apply hno
          refine ⟨p,hp,?_⟩
          unfold plC
          rw [if_pos he];have h2:=oE (f:=fun t=>cr S (nd P t p) (P*(T+1)+1) fM) (n:=T+1) (fun t _=>pX (by decide)) (p:=t) (by omega);have h3:=dC (f:=fun t=>cr S (nd P t p) (nd P (t+1) p) fM) (n:=T) (fun t _=>pX (by decide));have h4:cr S (nd P t p) (P*(T+1)+1) fM=fM:=if_pos ⟨hs,hx⟩;omega
      · cases hs:onP P S p (t+1) with
        | true=>rfl
        | false=>
          exfalso
          apply hno
          refine ⟨p,hp,?_⟩
          unfold plC
          have h2:=oE (f:=fun t=>cr S (nd P t p) (nd P (t+1) p) fM) (n:=T) (fun t _=>pX (by decide)) (p:=t) ht
          have h3:=dC (f:=fun t=>cr S (nd P t p) (P*(T+1)+1) fM) (n:=T+1) (fun t _=>pX (by decide))
          have h4:cr S (nd P t p) (nd P (t+1) p) fM=fM:=if_pos ⟨h1,hs⟩
          split <;> omega
    obtain ⟨p,hp,h2⟩:=this
    have h4:=oE (f:=fun p=>cr S (P*(T+1)) (nd P 0 p) (pe.getD p 0)+plC P T xs S p) (n:=P) (fun q hq=>by
      have h5:=pX (S:=S) (f:=P*(T+1)) (t:=nd P 0 q) (hpe q hq)
      have h6:=aEo (P:=P) (T:=T) (xs:=xs) (S:=S) (p:=q)
      omega) hp
    have h5:=pX (S:=S) (f:=P*(T+1)) (t:=nd P 0 p) (hpe p hp)
    have h6:farI≤fM:=by decide
    omega
end
def toR (P T:Nat) (n:Nat):Nat:=if n<P*(T+1) then ndR T (n%P) (n/P) else n
def toP (P T:Nat) (n:Nat):Nat:=if n<P*(T+1) then nd P (n%(T+1)) (n/(T+1)) else n
section
variable {P T:Nat} {pe xs:List Int} {out:Int} {ps:List Psg} {S:Nat→Bool}
theorem jL {p t:Nat} (hp:p<P) (ht:t≤T):ndR T p t<P*(T+1):=by
 have:(p+1)*(T+1)≤P*(T+1):=Nat.mul_le_mul_right _ (by omega)
 rw [Nat.add_mul] at this;unfold ndR;omega
theorem Ca {p p' t t':Nat} (ht:t≤T) (ht':t'≤T) (h:¬ (p=p'∧t=t')):ndR T p t≠ndR T p' t':=by
 intro e;unfold ndR at e;have h1:(p*(T+1)+t)/(T+1)=p:=by rw [Nat.mul_comm,Nat.mul_add_div (by omega),Nat.div_eq_of_lt (by omega)];rfl
 have h2:(p'*(T+1)+t')/(T+1)=p':=by rw [Nat.mul_comm,Nat.mul_add_div (by omega),Nat.div_eq_of_lt (by omega)];rfl
 have e1:p=p':=by rw [←h1,e,h2]
 subst e1;exact h ⟨rfl,by omega⟩
theorem Tl {p t:Nat} (hp:p<P) (ht:t≤T):toR P T (nd P t p)=ndR T p t:=by
 unfold toR
 rw [if_pos (mH ht hp)];have h1:nd P t p%P=p:=by unfold nd;rw [Nat.mul_add_mod,Nat.mod_eq_of_lt hp]
 have h2:nd P t p/P=t:=by unfold nd;rw [Nat.mul_add_div (by omega),Nat.div_eq_of_lt hp];rfl
 rw [h1,h2]
theorem Tm {p t:Nat} (hp:p<P) (ht:t≤T):toP P T (ndR T p t)=nd P t p:=by
 unfold toP
 rw [if_pos (jL hp ht)];have h1:ndR T p t%(T+1)=t:=by unfold ndR;rw [Nat.mul_comm,Nat.mul_add_mod,Nat.mod_eq_of_lt (by omega)]
 have h2:ndR T p t/(T+1)=p:=by unfold ndR;rw [Nat.mul_comm,Nat.mul_add_div (by omega),Nat.div_eq_of_lt (by omega)];rfl
 rw [h1,h2]
theorem Km {n:Nat} (h:P*(T+1)≤n):toR P T n=n:=if_neg (by omega)
theorem Kn {n:Nat} (h:P*(T+1)≤n):toP P T n=n:=if_neg (by omega)
theorem lX {U U':Nat→Nat→Bool} (h:∀ p,p<P→∀ t,t≤T→U p t=U' p t) (H:Tight U P T xs):Tight U' P T xs:=fun p hp=>
 ⟨fun he t ht=>by rw [←h p hp t ht];exact (H p hp).1 he t ht,fun he t ht h1=>by rw [←h p hp (t+1) (by omega)];exact (H p hp).2 he t ht (by rw [h p hp t (by omega)];exact h1)⟩
theorem qS {U U':Nat→Nat→Bool} (h:∀ p,p<P→∀ t,t≤T→U p t=U' p t):begC U pe P=begC U' pe P:=dW fun p hp=>by rw [h p hp 0 (by omega)]
theorem lN {U U':Nat→Nat→Bool} (V:StV P ps xs) (h:∀ p,p<P→∀ t,t≤T→U p t=U' p t):headC U T xs out ps=headC U' T xs out ps:=dW fun t ht=>dW fun i hi=>by
  have hp:=bW.1 (V.pas i hi)
  have key:∀ k,pC U T xs out (ps.getD i aJj) t k=pC U' T xs out (ps.getD i aJj) t k:=fun k=>by
    have e:∀ k,(endI (ps.getD i aJj) k).toNat<P:=fun k=>by unfold endI;split <;> omega
    unfold pC
    split
    · rename_i h0
      unfold hC
      by_cases h1:(t:Int)+goneI out (ps.getD i aJj) (endI (ps.getD i aJj) k)≤T
      · rw [h _ (e k) t (by omega),h _ (e (1-k)) _ (by omega)]
      · rw [if_neg (fun h=>h1 h.1),if_neg (fun h=>h1 h.1)]
    · rfl
  rw [key 0,key 1]
end
def layR (P T:Nat) (pe xs:List Int) (out:Int) (ps:List Psg):Net:=(joins (jrAll P T pe xs out ps)).net (P*(T+1)+2)
def roomR (P T:Nat) (pe xs:List Int) (out:Int) (ps:List Psg):RM:=(joins (jrAll P T pe xs out ps)).room
structure LayR (P T:Nat) (pe xs:List Int) (out:Int) (ps:List Psg):Prop where
 ne:∀ j ∈ jrAll P T pe xs out ps,j.f≠j.t
 wf:(layR P T pe xs out ps).Wf
 ok:Ok (layR P T pe xs out ps) (roomR P T pe xs out ps) 1073741824
 cap:∀ S,resid (layR P T pe xs out ps) (roomR P T pe xs out ps) S=capJ S (jrAll P T pe xs out ps)
section
variable {P T:Nat} {pe xs:List Int} {out:Int} {ps:List Psg} {S:Nat→Bool} {v v':Int} {r r':RM} {L L':Nat→Int}
theorem Ko (V:StV P ps xs) {i:Nat} (hi:i<ps.length) (k:Nat):goneI out (ps.getD i aJj) (endI (ps.getD i aJj) k) = -1∨(1≤goneI out (ps.getD i aJj) (endI (ps.getD i aJj) k)∧goneI out (ps.getD i aJj) (endI (ps.getD i aJj) k)≤20):=by
  have hp:=bW.1 (V.pas i hi)
  unfold goneI
  split
  · exact .inl rfl
  · split
    · rename_i h;exact .inr (by omega)
    · split
      · exact .inl rfl
      · exact .inr (by omega)
def JR (P T:Nat) (j:Jn):Prop:=j.f≠j.t∧j.f<P*(T+1)+2∧j.t<P*(T+1)+2∧0≤j.room∧j.room≤1073741824
theorem Tn (V:StV P ps xs) (hpe:∀ k,k<pe.length→0≤pe.getD k 0∧pe.getD k 0≤1000):∀ j ∈ jrAll P T pe xs out ps,JR P T j:=by
  have hpe':∀ p,0≤pe.getD p 0∧pe.getD p 0≤1000:=fun p=>by
    by_cases h:p<pe.length
    · exact hpe p h
    · rw [List.getD_eq_getElem?_getD,List.getElem?_eq_none (by omega)];simp
  have tick:∀ p,p<P→∀ t,t≤T→∀ j ∈ fT P T xs p t,JR P T j:=by
    intro p hp t ht j hj;have h1:=jL (P:=P) hp ht;unfold fT at hj;split at hj
    · rw [List.mem_singleton.1 hj]
      refine ⟨?_,?_,?_,?_,?_⟩ <;> dsimp only <;> first|omega|(unfold farI;omega)
    · split at hj
      · rename_i hlt
        have h2:=jL (P:=P) (T:=T) (t:=t+1) hp (by omega)
        rw [List.mem_singleton.1 hj];refine ⟨Ca (by omega) (by omega) (by omega),?_,?_,?_,?_⟩ <;> dsimp only <;> first|omega|(unfold farI;omega)
      · cases hj
  have ticks:∀ p,p<P→∀ n,n≤T+1→∀ j ∈ cR P T xs p n,JR P T j:=by
    intro p hp n;induction n with
    | zero=>intro _ j hj;cases hj
    | succ n ih=>
      intro hn j hj;rcases List.mem_append.1 hj with hj|hj
      · exact ih (by omega) j hj
      · exact tick p hp n (by omega) j hj
  have places:∀ n,n≤P→∀ j ∈ aX P T pe xs n,JR P T j:=by
    intro n;induction n with
    | zero=>intro _ j hj;cases hj
    | succ n ih=>
      intro hn j hj;rcases List.mem_append.1 hj with hj|hj
      · exact ih (by omega) j hj
      · rcases List.mem_cons.1 hj with rfl|hj
        · have h1:=jL (P:=P) (T:=T) (p:=n) (t:=0) (by omega) (by omega)
          have h2:=hpe' n
          refine ⟨?_,?_,?_,?_,?_⟩ <;> unfold jrBeg <;> dsimp only <;> omega
        · exact ticks n (by omega) _ (Nat.le_refl _) j hj
  have w8one:∀ i,i<ps.length→∀ t,t≤T→∀ k,∀ j ∈ jrOne T xs out (ps.getD i aJj) i t k,JR P T j:=by
    intro i hi t ht k j hj;have hp:=bW.1 (V.pas i hi);have e:∀ k,(endI (ps.getD i aJj) k).toNat<P:=fun k=>by unfold endI;split <;> omega
    have hg:=Ko (out:=out) V hi k
    unfold jrOne at hj
    split at hj
    · rename_i h
      rw [List.mem_singleton.1 hj];have h1:=jL (T:=T) (e k) (t:=t) (by omega);have h2:=jL (T:=T) (e (1-k)) (t:=t+(goneI out (ps.getD i aJj) (endI (ps.getD i aJj) k)).toNat) (by omega);refine ⟨Ca (by omega) (by omega) (by omega),?_,?_,?_,?_⟩ <;> dsimp only <;> omega
    · cases hj
  have psgs:∀ t,t≤T→∀ n,n≤ps.length→∀ j ∈ dK T xs out ps t n,JR P T j:=by
    intro t ht n;induction n with
    | zero=>intro _ j hj;cases hj
    | succ n ih=>
      intro hn j hj;rcases List.mem_append.1 hj with hj|hj
      · exact ih (by omega) j hj
      · rcases List.mem_append.1 hj with hj|hj
        · exact w8one n (by omega) t ht 0 j hj
        · exact w8one n (by omega) t ht 1 j hj
  have heads:∀ n,n≤T+1→∀ j ∈ bQ T xs out ps n,JR P T j:=by
    intro n;induction n with
    | zero=>intro _ j hj;cases hj
    | succ n ih=>
      intro hn j hj;rcases List.mem_append.1 hj with hj|hj
      · exact ih (by omega) j hj
      · exact psgs n (by omega) _ (Nat.le_refl _) j hj
  intro j hj;rcases List.mem_append.1 hj with hj|hj
  · exact places P (Nat.le_refl _) j hj
  · exact heads _ (Nat.le_refl _) j hj
theorem To (V:StV P ps xs) (hpe:∀ k,k<pe.length→0≤pe.getD k 0∧pe.getD k 0≤1000):LayR P T pe xs out ps:=by
 have hj:=Tn (T:=T) (out:=out) V hpe
 obtain ⟨W,O,hr⟩:=zL (k:=P*(T+1)+2) (B:=1073741824) (by omega) (jrAll P T pe xs out ps) hj;exact ⟨fun j h=>(hj j h).1,W,O,hr⟩
def EndR (P T:Nat) (pe xs:List Int) (out:Int) (ps:List Psg) (v:Int) (r:RM) (L:Nat→Int):Prop:=EndN (layR P T pe xs out ps) (roomR P T pe xs out ps) (P*(T+1)) (P*(T+1)+1) v r L
theorem EndN.toP {hs:List Hd} (h:EndN (layN P T pe xs hs) (layT P T pe xs hs).room (P*(T+1)) (P*(T+1)+1) v r L):EndP P T pe xs hs v r L:=⟨h.fl,h.nn,h.lev,h.full⟩
theorem Cb {hs:List Hd} (O:LayOk P T pe xs hs):∃ v r L,EndP P T pe xs hs v r L:=by
 obtain ⟨v,r,L,h⟩:=aEk O.wf O.ok (b:=P*(T+1)) (x:=P*(T+1)+1) (by show _<P*(T+1)+2;omega) (by show _<P*(T+1)+2;omega) (by omega);exact ⟨v,r,L,h.toP⟩
theorem Kp (V:StV P ps xs) (ho:0≤out) (hpe:∀ k,k<pe.length→0≤pe.getD k 0∧pe.getD k 0≤1000) {S S':Nat→Bool} (hb:S (P*(T+1))=true) (hx:S (P*(T+1)+1)=false) (hb':S' (P*(T+1))=true) (hx':S' (P*(T+1)+1)=false)
    (h:∀ p,p<P→∀ t,t≤T→onR T S p t=onP P S' p t):(capJ S (jrAll P T pe xs out ps)=capJ S' (jAll P T pe xs (hds out xs ps)))∨(farI≤capJ S (jrAll P T pe xs out ps)∧farI≤capJ S' (jAll P T pe xs (hds out xs ps))):=by
  have hpe':∀ p,p<P→0≤pe.getD p 0:=fun p _=>by
    by_cases h:p<pe.length
    · exact (hpe p h).1
    · rw [List.getD_eq_getElem?_getD,List.getElem?_eq_none (by omega)];simp
  have hw:∀ i,i<ps.length→0≤(ps.getD i aJj).wide:=fun i hi=>by have:=bW.1 (V.pas i hi);omega
  have hR:=aDl (out:=out) (xs:=xs) (T:=T) hpe' hw hb hx
  have hP:=Tk (out:=out) (T:=T) V ho hpe' hb' hx'
  by_cases ht:Tight (onR T S) P T xs
  · refine .inl ?_
    rw [hR.1 ht,hP.1 (lX h ht),qS h,lN V h]
  · exact .inr ⟨hR.2 ht,hP.2 fun h2=>ht (lX (fun p hp t htT=>(h p hp t htT).symm) h2)⟩
theorem Tp (V:StV P ps xs) (ho:0≤out) (hpe:∀ k,k<pe.length→0≤pe.getD k 0∧pe.getD k 0≤1000) (h:EndR P T pe xs out ps v r L) (h':EndP P T pe xs (hds out xs ps) v' r' L') :
  v=v'∧∀ p,p<P→∀ t,t≤T→bC L (ndR T p t)=bC L' (nd P t p):=by
 have OR:=To (T:=T) (out:=out) V hpe
 have OP:=qN (T:=T) (out:=out) V hpe
 have hv':v'≤10000:=by
  have h1:=EndP.bound OP h' (S:=fun v=>decide (v=P*(T+1))) (by simp) (by simp)
  have h2:=tL (P:=P) (T:=T) (xs:=xs) (pe:=pe) hpe (tK (out:=out) V)
  have:=V.size
  omega
 obtain ⟨a1,a2,a3⟩:=EndN.tight h;obtain ⟨b1,b2,b3⟩:=h'.at_reach OP;have a3':capJ (bC L) (jrAll P T pe xs out ps)=v:=by rw [←OR.cap];exact a3
 have c1:(fun n=>bC L' (toP P T n)) (P*(T+1))=true:=by show bC L' (toP P T (P*(T+1)))=true;rw [Kn (Nat.le_refl _)];exact b1
 have c2:(fun n=>bC L' (toP P T n)) (P*(T+1)+1)=false:=by show bC L' (toP P T (P*(T+1)+1))=false;rw [Kn (by omega)];exact b2
 have c3:capJ (fun n=>bC L' (toP P T n)) (jrAll P T pe xs out ps)=v':=by
  rcases Kp (T:=T) (pe:=pe) (S:=fun n=>bC L' (toP P T n)) V ho hpe c1 c2 b1 b2 (fun p hp t ht=>by show bC L' (toP P T (ndR T p t))=_;rw [Tm hp ht];rfl) with h1|h1
  ·rw [h1,b3]
  ·rw [b3] at h1;unfold farI at h1;omega
 have hle1:v≤v':=by
  have:=EndN.bound (S:=fun n=>bC L' (toP P T n)) OR.ok h c1 c2
  rw [OR.cap,c3] at this;exact this
 have d1:(fun n=>bC L (toR P T n)) (P*(T+1))=true:=by show bC L (toR P T (P*(T+1)))=true;rw [Km (Nat.le_refl _)];exact a1
 have d2:(fun n=>bC L (toR P T n)) (P*(T+1)+1)=false:=by show bC L (toR P T (P*(T+1)+1))=false;rw [Km (by omega)];exact a2
 have d3:capJ (fun n=>bC L (toR P T n)) (jAll P T pe xs (hds out xs ps))=v:=by
  rcases Kp (T:=T) (pe:=pe) (S:=bC L) (S':=fun n=>bC L (toR P T n)) V ho hpe a1 a2 d1 d2 (fun p hp t ht=>by show _=bC L (toR P T (nd P t p));rw [Tl hp ht];rfl) with h1|h1
  ·rw [←h1,a3']
  ·rw [a3'] at h1;unfold farI at h1;omega
 have hle2:v'≤v:=by
  have:=EndP.bound (S:=fun n=>bC L (toR P T n)) OP h' d1 d2
  rw [d3] at this;exact this
 have e:v=v':=Int.le_antisymm hle1 hle2
 refine ⟨e,fun p hp t ht=>?_⟩
 have g1:=EndN.inside (S:=fun n=>bC L' (toP P T n)) h c1 c2 (by rw [OR.cap,c3,e]) (ndR T p t) (by have:=jL (T:=T) hp ht;show _<P*(T+1)+2;omega)
 have g2:=EndP.inside (S:=fun n=>bC L (toR P T n)) OP h' d1 d2 (by rw [d3,e]) (nd P t p) (by have:=mH (P:=P) (T:=T) ht hp;omega)
 have g1':0≤L (ndR T p t)→bC L' (nd P t p)=true:=fun h0=>by have:=g1 h0;rwa [Tm hp ht] at this
 have g2':0≤L' (nd P t p)→bC L (ndR T p t)=true:=fun h0=>by have:=g2 h0;rwa [Tl hp ht] at this
 unfold bC at g1' g2' ⊢
 exact decide_eq_decide.2 ⟨fun h=>of_decide_eq_true (g1' h),fun h=>of_decide_eq_true (g2' h)⟩
theorem aHr (V:StV P ps xs) (ho:0≤out) (hpe:∀ k,k<pe.length→0≤pe.getD k 0∧pe.getD k 0≤1000) (h:EndR P T pe xs out ps v r L):mfv P T pe xs (hds out xs ps)=v:=by
 have OP:=qN (T:=T) (out:=out) V hpe
 obtain ⟨v',r',L',h'⟩:=Cb OP;rw [Bo OP h',(Tp V ho hpe h h').1]
end
theorem Zo (m:Nat):m ^^^ 1=tw m:=by
  apply Nat.eq_of_testBit_eq
  intro i;rw [Nat.testBit_xor];cases i with
  | zero=>
    rw [Nat.testBit_zero,Nat.testBit_zero,Nat.testBit_zero];unfold tw;by_cases h:m%2=0
    · rw [if_pos h,decide_eq_false (p:=m%2=1) (by omega),decide_eq_true (p:=(m+1)%2=1) (by omega)];rfl
    · rw [if_neg h,decide_eq_true (p:=m%2=1) (by omega),decide_eq_false (p:=(m-1)%2=1) (by omega)];rfl
  | succ i=>
    rw [Nat.testBit_succ,Nat.testBit_succ,Nat.testBit_succ,show 1/2=0 from rfl,Nat.zero_testBit,Bool.xor_false];have e:tw m/2=m/2:=by unfold tw;split <;> omega
    rw [e]
theorem Zp {m:Nat} (hm:m<1000000000):IntKind.i64.wrap ((BitVec.ofInt 64 (m:Int) ^^^ BitVec.ofInt 64 1).toNat:Int)=((tw m:Nat):Int):=by
 have e:((BitVec.ofInt 64 (m:Int) ^^^ BitVec.ofInt 64 1).toNat)=tw m:=by
  rw [BitVec.toNat_xor,show (BitVec.ofInt 64 1).toNat=1 from rfl,BitVec.ofInt_natCast,BitVec.toNat_ofNat,Nat.mod_eq_of_lt (by omega),Zo]
 rw [e];refine i64ok.eq ⟨by omega,?_⟩;unfold tw;split <;> omega
theorem Np {P:Program} {L:List (Nat×Value)} {w:World} {d:Option Nat} {ty:TypeId} {pos:String} {af:Array Edge} {g:Option (Nat×Bool)} {x y:Operand} {xt yt:TypeId} {m:Nat} (hx:ev L x=some (.int .i64 (m:Int))) (hy:ev L y=some (.int .i64 1)) (hm:m<1000000000) :
  Does P L ⟨d,.binOp .xor xt x y yt,ty,pos,af,g⟩ w (.int .i64 ((tw m:Nat):Int)):=fun ρ hρ=>by
 have e:Op.intBits .xor .i64 (m:Int) 1=pure (.int .i64 ((tw m:Nat):Int)):=congrArg (fun z=>(pure (Value.int .i64 z):Sem Value)) (Zp hm)
 simp [execOp,hρ _ _ hx,hρ _ _ hy,eqGuard,binOp,e]
section
variable {N:Net} {E:List Eg} {r r2:Nat→Int} {b x:Nat} {L:Nat→Int} {by_:Nat→Nat} {m B:Int}
theorem qT (K:Lk N E) (R:Rch N E r b L by_) (h0:L b=0) (hx:x<N.k):∀ i:Nat,(i:Int)≤L x→pth E by_ x i<N.k∧L (pth E by_ x i)=L x-i:=by
  intro i;induction i with
  | zero=>intro h;exact ⟨hx,by show L x=L x-(0:Nat);omega⟩
  | succ i ih=>
    intro h;obtain ⟨h1,h2⟩:=ih (by omega);obtain ⟨j,g1,g2,g3,g4,g5,g6,_⟩:=R.prv K h1 (by omega) (fun e=>by rw [e,h0] at h2;omega);exact ⟨g1,by show L (prv E by_ (pth E by_ x i))=_;omega⟩
theorem Id (K:Lk N E) (R:Rch N E r b L by_) (h0:L b=0) (hx:x<N.k) {i:Nat} (hi:(i:Int)<L x):pth E by_ x i≠b:=fun e=>by
 have:=(qT K R h0 hx i (by omega)).2
 rw [e,h0] at this;omega
theorem Cc (K:Lk N E) (R:Rch N E r b L by_) (h0:L b=0) (hx:x<N.k) {i:Nat} (hi:(i:Int)=L x):pth E by_ x i=b:=by
 obtain ⟨h1,h2⟩:=qT K R h0 hx i (by omega);refine Classical.byContradiction fun hne=>?_
 obtain ⟨j,g1,g2,g3,g4,g5,g6,_⟩:=R.prv K h1 (by omega) hne;omega
theorem mN (K:Lk N E) (R:Rch N E r b L by_) (h0:L b=0) (hx:x<N.k) {i:Nat} (hi:(i:Int)<L x) :
  ∃ j,pth E by_ x (i+1)<N.k∧j<N.n (pth E by_ x (i+1))∧0<r (by_ (pth E by_ x i))∧N.to (pth E by_ x (i+1)) j=pth E by_ x i∧by_ (pth E by_ x i)=(ixs E (pth E by_ x (i+1))).getD j 0∧by_ (pth E by_ x i)<E.length∧(E.getD (by_ (pth E by_ x i)) Eg.zero).t=pth E by_ x i:=by
 obtain ⟨h1,h2⟩:=qT K R h0 hx i (by omega);obtain ⟨j,g1,g2,g3,g4,g5,g6,g7,g8,g9⟩:=R.prv K h1 (by omega) (Id K R h0 hx hi);exact ⟨j,g1,g2,g4,g5,g7,g8,g9⟩
theorem Tq (K:Lk N E) (W:N.Wf) (R:Rch N E r b L by_) (h0:L b=0) (hx:x<N.k) {i:Nat} (hi:(i:Int)<L x) {r0:RM} (hF:Fl N r0 (rmE E r2) (pth E by_ x i) x m) (hm0:0≤m) (hm:m≤r2 (by_ (pth E by_ x i))) :
  Fl N r0 (rmE E (pushE r2 (by_ (pth E by_ x i)) m)) (pth E by_ x (i+1)) x m:=by
 obtain ⟨j,g1,g2,g3,g4,g5,g6,g7⟩:=mN K R h0 hx hi;have h1:Fl N r0 (along N (rmE E r2) (pth E by_ x (i+1)) j m) (pth E by_ x (i+1)) x m:=Fl.step W g1 g2 (by rw [g4];exact hF) hm0 (by show m≤r2 _;rw [←g5];exact hm);refine h1.congr W ?_;rw [g5];exact K.push W g1 g2
theorem Nq (K:Lk N E) (R:Rch N E r b L by_) (h0:L b=0) (hx:x<N.k) {i:Nat} (hi:(i:Int)<L x) (hm0:0≤m) (hn:0≤r2 (tw (by_ (pth E by_ x i)))) (h:∀ q:Nat,i≤q→(q:Int)<L x→m≤r2 (by_ (pth E by_ x q))) :
  ∀ q:Nat,i+1≤q→(q:Int)<L x→m≤pushE r2 (by_ (pth E by_ x i)) m (by_ (pth E by_ x q)):=fun q hq hqL=>by
 obtain ⟨_,_,_,_,_,_,_,t1⟩:=mN K R h0 hx hi;obtain ⟨_,_,_,_,_,_,_,t2⟩:=mN K R h0 hx hqL
 have hne:by_ (pth E by_ x q)≠by_ (pth E by_ x i):=fun e=>by
  have e2:pth E by_ x q=pth E by_ x i:=by rw [←t1,←t2,e]
  have h1:=(qT K R h0 hx i (by omega)).2
  have h2:=(qT K R h0 hx q (by omega)).2
  rw [e2] at h2;omega
 have h3:=h q (by omega) hqL
 by_cases e:by_ (pth E by_ x q)=tw (by_ (pth E by_ x i))
 ·rw [e,En];omega
 ·rw [Eo hne e];exact h3
theorem Zq (K:Lk N E) (W:N.Wf) (R:Rch N E r b L by_) (h0:L b=0) (hx:x<N.k) (O:Ok N (rmE E r2) B) {i:Nat} (hi:(i:Int)<L x) :
  (0≤r2 (by_ (pth E by_ x i))∧r2 (by_ (pth E by_ x i))≤B)∧(0≤r2 (tw (by_ (pth E by_ x i)))∧r2 (tw (by_ (pth E by_ x i)))≤B)∧tw (by_ (pth E by_ x i))<E.length:=by
 obtain ⟨j,g1,g2,g3,g4,g5,g6,g7⟩:=mN K R h0 hx hi;have a1:=O.nn _ g1 _ g2;have a2:=O.le W g1 g2;have a3:=O.nn _ (W.to_lt _ g1 _ g2) _ (W.bk_lt _ g1 _ g2);have a4:=O.le W (W.to_lt _ g1 _ g2) (W.bk_lt _ g1 _ g2);unfold rmE at a1 a2 a3 a4;rw [K.tw _ g1 _ g2,←g5] at a3 a4;rw [←g5] at a1 a2;exact ⟨⟨a1,a2⟩,⟨a3,a4⟩,aHq g6 K.evn⟩
end
theorem Kq {E:List Eg} {r:Nat→Int} {e:Nat} {v:Int}:∀ k j,j<5→cput (egc E r) e 2 (.int .i64 v) k j=egc E (upd r e v) k j:=by
  intro k j hj;unfold cput;by_cases h:k=e
  · subst h
    match j,hj with
    | 0,_=>rw [if_neg (by omega)];rfl
    | 1,_=>rw [if_neg (by omega)];rfl
    | 2,_=>rw [if_pos ⟨rfl,rfl⟩];show _=Value.int .i64 (upd r k v k);rw [bR]
    | 3,_=>rw [if_neg (by omega)];rfl
    | 4,_=>rw [if_neg (by omega)];rfl
  · rw [if_neg (fun h2=>h h2.1)]
    match j,hj with
    | 0,_=>rfl
    | 1,_=>rfl
    | 2,_=>unfold egc;rw [bP _ _ h]
    | 3,_=>rfl
    | 4,_=>rfl
section
variable {P T:Nat} {pe xs:List Int} {out:Int} {ps:List Psg}
theorem aHs {f:Nat→Int} {c:Int}:∀ {n:Nat},(∀ i,i<n→f i≤c)→sm f n≤c*n:=by
  intro n;induction n with
  | zero=>intro _;simp [sm]
  | succ n ih=>
    intro h;have h1:=ih fun i hi=>h i (by omega)
    have h2:=h n (by omega)
    rw [sm,Int.natCast_succ,Int.mul_add];omega
theorem aHt (V:StV P ps xs) (hpe:∀ k,k<pe.length→0≤pe.getD k 0∧pe.getD k 0≤1000):resid (layR P T pe xs out ps) (roomR P T pe xs out ps) (fun v=>decide (v=P*(T+1)))≤10000:=by
 have O:=To (T:=T) (out:=out) V hpe
 have hpe':∀ p,0≤pe.getD p 0∧pe.getD p 0≤1000:=fun p=>by
  by_cases h:p<pe.length
  ·exact hpe p h
  ·rw [List.getD_eq_getElem?_getD,List.getElem?_eq_none (by omega)];simp
 have hw:∀ i,i<ps.length→0≤(ps.getD i aJj).wide:=fun i hi=>by have:=bW.1 (V.pas i hi);omega
 have hU:∀ p,p<P→∀ t,t≤T→onR T (fun v=>decide (v=P*(T+1))) p t=false:=fun p hp t ht=>decide_eq_false (by have:=jL (T:=T) hp ht;omega)
 have hT:Tight (onR T (fun v=>decide (v=P*(T+1)))) P T xs:=fun p hp=>⟨fun _ t ht=>hU p hp t ht,fun _ t ht h1=>by rw [hU p hp t (by omega)] at h1;cases h1⟩
 rw [O.cap,(aDl (S:=fun v=>decide (v=P*(T+1))) (out:=out) (fun p _=>(hpe' p).1) hw (by simp) (by simp)).1 hT];have hz:headC (onR T (fun v=>decide (v=P*(T+1)))) T xs out ps=headC (fun _ _=>false) T xs out ps:=lN V hU
 have hz2:headC (fun _ _=>false) T xs out ps=0:=eQ fun t _=>eQ fun i _=>by
  have key:∀ k,pC (fun _ _=>false) T xs out (ps.getD i aJj) t k=0:=fun k=>by
   unfold pC hC
   split
   ·exact if_neg (fun h=>by cases h.2.1)
   ·rfl
  rw [key 0,key 1];rfl
 rw [hz,hz2];have hb:begC (onR T (fun v=>decide (v=P*(T+1)))) pe P≤1000*P:=aHs fun p _=>by have:=hpe' p;split <;> omega
 have:=V.size
 omega
end
theorem uJ {P T:Nat} {xs:List Int} {p:Nat}:∀ n,(cR P T xs p n).length≤n:=by
  intro n;induction n with
  | zero=>exact Nat.le_refl 0
  | succ n ih=>
    rw [cR,List.length_append]
    have:(fT P T xs p n).length≤1:=by
      unfold fT
      split
      · simp
      · split <;> simp
    omega
theorem nL {P T:Nat} {pe xs:List Int}:∀ n,(aX P T pe xs n).length≤n*(T+2):=by
  intro n;induction n with
  | zero=>simp [aX]
  | succ n ih=>
    have h1:=uJ (P:=P) (T:=T) (xs:=xs) (p:=n) (T+1)
    rw [aX,List.length_append,List.length_cons,Nat.add_mul];omega
theorem tO {T:Nat} {xs:List Int} {out:Int} {p:Psg} {i t k:Nat}:(jrOne T xs out p i t k).length≤1:=by unfold jrOne;split <;> simp
theorem xV {T:Nat} {xs:List Int} {out:Int} {ps:List Psg} {t:Nat}:∀ n,(dK T xs out ps t n).length≤2*n:=by
  intro n;induction n with
  | zero=>exact Nat.le_refl 0
  | succ n ih=>
    rw [dK,List.length_append,List.length_append];have h1:=tO (T:=T) (xs:=xs) (out:=out) (p:=ps.getD n aJj) (i:=n) (t:=t) (k:=0);have h2:=tO (T:=T) (xs:=xs) (out:=out) (p:=ps.getD n aJj) (i:=n) (t:=t) (k:=1);omega
theorem uK {T:Nat} {xs:List Int} {out:Int} {ps:List Psg} (h:ps.length≤24):∀ n,(bQ T xs out ps n).length≤48*n:=by
  intro n;induction n with
  | zero=>exact Nat.le_refl 0
  | succ n ih=>
    rw [bQ,List.length_append];have h1:=xV (T:=T) (xs:=xs) (out:=out) (ps:=ps) (t:=n) ps.length;omega
theorem Cd {J:List Jn} {i:Nat}:(ixs (egs J) i).length≤2*J.length:=by
 unfold ixs
 refine Nat.le_trans (List.length_filter_le ..) ?_
 rw [List.length_range,iE];exact Nat.le_refl _
def barAt (T:Int) (xs bl:List Int) (k:Nat):Bool:=decide (0≤bl.getD k 0∧bl.getD k 0≤T+1)&&(!hasI xs k||decide (bl.getD k 0=T+1))
def barOk (P T:Int) (xs bl:List Int):Bool:=decide ((bl.length:Int)=P)&&allN (barAt T xs bl) bl.length
def barU (bl:List Int) (p t:Nat):Bool:=decide (bl.getD p 0≤(t:Int))
def bndV (P T:Nat) (ps:List Psg) (xs:List Int) (out:Int) (pe bl:List Int):Int:=begC (barU bl) pe P+headC (barU bl) T xs out ps
section
variable {P T:Nat} {ps:List Psg} {xs:List Int} {out:Int} {pe bl:List Int} {k:Nat}
theorem Zr {P T:Int} (hl:(bl.length:Int)=P) (h:allN (barAt T xs bl) bl.length=true):barOk P T xs bl=true:=by unfold barOk;rw [decide_eq_true hl,h];rfl
theorem Zs {T:Int} (h:(0≤bl.getD k 0∧bl.getD k 0≤T+1)∧(hasI xs k=true→bl.getD k 0=T+1)):barAt T xs bl k=true:=by
 unfold barAt
 rw [decide_eq_true h.1];cases hx:hasI xs k with
 | false=>rfl
 | true=>rw [decide_eq_true (h.2 hx)];rfl
theorem Es {P T:Int} (h:barOk P T xs bl=true):(bl.length:Int)=P∧∀ k,k<bl.length→(0≤bl.getD k 0∧bl.getD k 0≤T+1)∧(hasI xs k=true→bl.getD k 0=T+1):=by
 unfold barOk at h
 simp only [Bool.and_eq_true,decide_eq_true_eq] at h
 refine ⟨h.1,fun k hk=>?_⟩
 have h2:=bS.1 h.2 k hk
 unfold barAt at h2
 simp only [Bool.and_eq_true,decide_eq_true_eq,Bool.or_eq_true,Bool.not_eq_true'] at h2
 exact ⟨h2.1,fun hx=>h2.2.resolve_left (by rw [hx];simp)⟩
theorem aEp (V:StV P ps xs) (hb:∀ p,p<P→hasI xs p=true→bl.getD p 0=(T:Int)+1) {i:Nat} (hi:i<ps.length) {t k:Nat} (ht:t≤T):pC (barU bl) T xs out (ps.getD i aJj) t k =
    if ((0≤goneI out (ps.getD i aJj) (endI (ps.getD i aJj) k)∧bl.getD (endI (ps.getD i aJj) k).toNat 0≤(t:Int))∧(t:Int)+goneI out (ps.getD i aJj) (endI (ps.getD i aJj) k)≤T)∧(t:Int)+goneI out (ps.getD i aJj) (endI (ps.getD i aJj) k)<bl.getD (endI (ps.getD i aJj) (1-k)).toNat 0 then (ps.getD i aJj).wide else 0:=by
  have hp:=bW.1 (V.pas i hi)
  have e:0≤endI (ps.getD i aJj) k∧endI (ps.getD i aJj) k<P:=by unfold endI;split <;> omega
  unfold pC hC barU
  by_cases h1:((0≤goneI out (ps.getD i aJj) (endI (ps.getD i aJj) k)∧bl.getD (endI (ps.getD i aJj) k).toNat 0≤(t:Int))∧(t:Int)+goneI out (ps.getD i aJj) (endI (ps.getD i aJj) k)≤T)∧(t:Int)+goneI out (ps.getD i aJj) (endI (ps.getD i aJj) k)<bl.getD (endI (ps.getD i aJj) (1-k)).toNat 0
  · have hx:hasI xs (endI (ps.getD i aJj) k)=false:=by
      cases hx:hasI xs (endI (ps.getD i aJj) k) with
      | false=>rfl
      | true=>
        have:=hb (endI (ps.getD i aJj) k).toNat (by omega) (by rw [Int.toNat_of_nonneg e.1];exact hx)
        omega
    rw [if_pos h1,if_pos ⟨h1.1.1.1,hx⟩,if_pos ⟨h1.1.2,decide_eq_true h1.1.1.2,decide_eq_false (by have:=h1.2;push_cast;omega)⟩]
  · rw [if_neg h1]
    split
    · rename_i h2
      rw [if_neg];rintro ⟨h3,h4,h5⟩;have h4:=of_decide_eq_true h4;have h5:=of_decide_eq_false h5;apply h1;push_cast at h5;exact ⟨⟨⟨h2.1,h4⟩,h3⟩,by omega⟩
    · rfl
end
section
variable {P T:Nat} {ps:List Psg} {xs:List Int} {out:Int} {pe pe' bl:List Int}
def PeOk (pe:List Int):Prop:=∀ k,k<pe.length→0≤pe.getD k 0∧pe.getD k 0≤1000
def cutC (U:Nat→Nat→Bool) (P T:Nat) (ps:List Psg) (xs:List Int) (out:Int) (pe:List Int):Int:=begC U pe P+headC U T xs out ps
def setP (P T:Nat) (U:Nat→Nat→Bool) (n:Nat):Bool:=if n<P*(T+1) then U (n%P) (n/P) else decide (n=P*(T+1))
theorem Ce {U:Nat→Nat→Bool} {p t:Nat} (hp:p<P) (ht:t≤T):onP P (setP P T U) p t=U p t:=by
 unfold onP setP
 rw [if_pos (mH ht hp)];have h1:nd P t p%P=p:=by unfold nd;rw [Nat.mul_add_mod,Nat.mod_eq_of_lt hp]
 have h2:nd P t p/P=t:=by unfold nd;rw [Nat.mul_add_div (by omega),Nat.div_eq_of_lt hp];rfl
 rw [h1,h2]
theorem aEq (V:StV P ps xs) (ho:0≤out) (hpe:PeOk pe) {U:Nat→Nat→Bool} (hU:Tight U P T xs):mfv P T pe xs (hds out xs ps)≤cutC U P T ps xs out pe:=by
 have OP:=qN (T:=T) (out:=out) V hpe
 obtain ⟨v,r,L,h⟩:=Cb OP;rw [Bo OP h];have hb:setP P T U (P*(T+1))=true:=by unfold setP;rw [if_neg (by omega)];simp
 have hx:setP P T U (P*(T+1)+1)=false:=by unfold setP;rw [if_neg (by omega)];simp
 have hpe':∀ p,p<P→0≤pe.getD p 0:=fun p _=>by
  by_cases h:p<pe.length
  ·exact (hpe p h).1
  ·rw [List.getD_eq_getElem?_getD,List.getElem?_eq_none (by omega)];simp
 have hc:=(Tk (T:=T) V ho hpe' hb hx).1 (lX (fun p hp t ht=>(Ce hp ht).symm) hU)
 have hle:=EndP.bound OP h hb hx
 rw [hc,qS (fun p hp t ht=>Ce hp ht),lN V (fun p hp t ht=>Ce hp ht)] at hle;exact hle
theorem Tr (V:StV P ps xs) (ho:0≤out) (hpe:PeOk pe) {v:Int} {r:RM} {L:Nat→Int} (h:EndP P T pe xs (hds out xs ps) v r L):Tight (onP P (bC L)) P T xs∧v=cutC (onP P (bC L)) P T ps xs out pe:=by
 have OP:=qN (T:=T) (out:=out) V hpe
 obtain ⟨b1,b2,b3⟩:=h.at_reach OP
 have hpe':∀ p,p<P→0≤pe.getD p 0:=fun p _=>by
  by_cases h:p<pe.length
  ·exact (hpe p h).1
  ·rw [List.getD_eq_getElem?_getD,List.getElem?_eq_none (by omega)];simp
 have hc:=Tk (T:=T) V ho hpe' b1 b2
 have hv':v≤10000:=by
  have h1:=EndP.bound OP h (S:=fun v=>decide (v=P*(T+1))) (by simp) (by simp)
  have h2:=tL (P:=P) (T:=T) (xs:=xs) (pe:=pe) hpe (tK (out:=out) V)
  have:=V.size
  omega
 have ht:Tight (onP P (bC L)) P T xs:=by
  refine Classical.byContradiction fun hn=>?_
  have:=hc.2 hn
  rw [b3] at this;unfold farI at this;omega
 exact ⟨ht,by rw [←b3];exact hc.1 ht⟩
theorem aHu (V:StV P ps xs) {U:Nat→Nat→Bool} {i:Nat} (hi:i<ps.length) {t k:Nat}:0≤pC U T xs out (ps.getD i aJj) t k:=by
 have:=bW.1 (V.pas i hi)
 unfold pC hC
 split
 ·split <;> omega
 ·omega
theorem Kr (V:StV P ps xs) (ho:0≤out) (hpe:PeOk pe):mfv P T pe xs (hds out xs ps)≤sumI pe P:=by
 have h:=aEq (T:=T) (U:=fun _ _=>false) V ho hpe (fun p _=>⟨fun _ _ _=>rfl,fun _ _ _ h=>by cases h⟩)
 have hz:headC (fun _ _=>false) T xs out ps=0:=eQ fun t _=>eQ fun i _=>by
  have key:∀ k,pC (fun _ _=>false) T xs out (ps.getD i aJj) t k=0:=fun k=>by
   unfold pC hC
   split
   ·exact if_neg (fun h=>by cases h.2.1)
   ·rfl
  rw [key 0,key 1];rfl
 unfold cutC at h
 rw [hz] at h;have e:begC (fun _ _=>false) pe P=sumI pe P:=dW fun p _=>by simp
 omega
noncomputable def cutL (P T:Nat) (pe xs:List Int) (hs:List Hd):List Int:=(List.range P).map fun p=>((mfc P T pe xs hs p:Nat):Int)
theorem Et {hs:List Hd}:(cutL P T pe xs hs).length=P:=by unfold cutL;rw [List.length_map,List.length_range]
theorem vH {hs:List Hd} {p:Nat} (hp:p<P):(cutL P T pe xs hs).getD p 0=((mfc P T pe xs hs p:Nat):Int):=by
 unfold cutL
 rw [List.getD_eq_getElem?_getD,List.getElem?_map,List.getElem?_range hp];rfl
theorem Ts {f:Nat→Bool} {q:Nat} (hf:f q=true):∀ {n},q<n→fstB f n<n:=by
  intro n;induction n with
  | zero=>intro h;omega
  | succ n ih=>
    intro h;rw [fstB];by_cases h1:fstB f n<n
    · rw [if_pos h1];omega
    · rw [if_neg h1]
      by_cases e:q=n
      · subst e;rw [if_pos hf];omega
      · exact absurd (ih (by omega)) h1
theorem Zt {f:Nat→Bool}:∀ {n},fstB f n<n→f (fstB f n)=true∧∀ q,q<fstB f n→f q=false:=by
  intro n;induction n with
  | zero=>intro h;omega
  | succ n ih=>
    intro h;by_cases h1:fstB f n<n
    · have e:fstB f (n+1)=fstB f n:=by rw [fstB,if_pos h1]
      rw [e];exact ih h1
    · have hn:∀ q,q<n→f q=false:=fun q hq=>by
        cases hb:f q with
        | false=>rfl
        | true=>
          exfalso
          exact h1 (Ts hb hq)
      have e:fstB f n=n:=kY hn
      by_cases hf:f n=true
      · have e2:fstB f (n+1)=n:=by rw [fstB,if_neg (by omega),if_pos hf]
        rw [e2];exact ⟨hf,hn⟩
      · have e2:fstB f (n+1)=n+1:=by rw [fstB,if_neg (by omega),if_neg hf]
        omega
theorem Ie (V:StV P ps xs) (ho:0≤out) (hpe:PeOk pe) {v:Int} {r:RM} {L:Nat→Int} (h:EndP P T pe xs (hds out xs ps) v r L) {p t:Nat} (hp:p<P) (ht:t≤T):barU (cutL P T pe xs (hds out xs ps)) p t=onP P (bC L) p t:=by
  have OP:=qN (T:=T) (out:=out) V hpe
  have hT:=(Tr V ho hpe h).1 p hp
  unfold barU
  rw [vH hp,Ru OP h hp];unfold cutAt;have hle:=Bl (f:=fun t=>decide (0≤L (nd P t p))) (T+1);have hf:=Zt (f:=fun t=>decide (0≤L (nd P t p))) (n:=T+1);generalize hm:fstB (fun t=>decide (0≤L (nd P t p))) (T+1)=m at hle hf;by_cases hx:hasI xs p=true
  · have h1:=hT.1 hx t ht
    rw [h1];refine decide_eq_false fun hle2=>?_
    have h2:=(hf (by omega)).1
    have h3:=hT.1 hx m (by omega)
    unfold onP bC at h3
    rw [h3] at h2;cases h2
  · have hx':hasI xs p=false:=by simpa using hx
    by_cases hmt:m≤t
    · have h2:=(hf (by omega)).1
      have up:∀ d,m+d≤T→onP P (bC L) p (m+d)=true:=by
        intro d;induction d with
        | zero=>intro _;exact h2
        | succ d ih=>intro hd;exact hT.2 hx' (m+d) (by omega) (ih (by omega))
      have h3:=up (t-m) (by omega)
      rw [show m+(t-m)=t by omega] at h3;rw [h3];exact decide_eq_true (by omega)
    · have h4:onP P (bC L) p t=false:=by
        by_cases hmT:m<T+1
        · exact (hf hmT).2 t (by omega)
        · cases hb:onP P (bC L) p t with
          | false=>rfl
          | true=>
            exfalso
            have:=Ts (f:=fun t=>decide (0≤L (nd P t p))) (q:=t) hb (show t<T+1 by omega)
            omega
      rw [h4];exact decide_eq_false (by omega)
theorem Zu (V:StV P ps xs) (ho:0≤out) (hpe:PeOk pe):barOk P T xs (cutL P T pe xs (hds out xs ps))=true∧bndV P T ps xs out pe (cutL P T pe xs (hds out xs ps))=mfv P T pe xs (hds out xs ps):=by
  have OP:=qN (T:=T) (out:=out) V hpe
  obtain ⟨v,r,L,h⟩:=Cb OP;have hat:=Tr V ho hpe h;refine ⟨Zr (by rw [Et]) (bS.2 fun k hk=>?_),?_⟩
  · rw [Et] at hk
    have hm:mfc P T pe xs (hds out xs ps) k≤T+1:=by rw [Ru OP h hk];exact Bl _
    refine Zs ⟨by rw [vH hk];omega,fun hx=>?_⟩
    rw [vH hk];refine Classical.byContradiction fun hne=>?_
    have h1:=Ie V ho hpe h hk (t:=mfc P T pe xs (hds out xs ps) k) (by omega)
    rw [(hat.1 k hk).1 hx _ (by omega)] at h1;unfold barU at h1;rw [vH hk] at h1;have:=of_decide_eq_false h1;omega
  · unfold bndV
    rw [qS (fun p hp t ht=>Ie V ho hpe h hp ht),lN V (fun p hp t ht=>Ie V ho hpe h hp ht),Bo OP h];exact hat.2.symm
end
section
variable (ps:List Psg) (xs:List Int) (out:Int) (pe:List Int) (l:List Mv)
def mvP (m:Mv):Psg:=ps.getD m.pas.toNat aJj
def mvG (m:Mv):Int:=goneI out (mvP ps m) m.fr
def mvO (m:Mv):Int:=othr (mvP ps m) m.fr
def mvIn (m:Mv):Prop:=(0≤m.pas∧m.pas<ps.length)∧(0≤m.at_∧m.at_≤60)∧(1≤m.many∧m.many≤1000)
instance (m:Mv):Decidable (mvIn ps m):=by unfold mvIn;exact inferInstance
def mvOk (m:Mv):Bool:=decide (mvIn ps m)&&(decide (0≤mvG ps out m)&&!hasI xs m.fr)
def sameK (m m':Mv):Bool:=decide (m.pas=m'.pas)&&decide (m.fr=m'.fr)&&decide (m.at_=m'.at_)
def totK (m:Mv):Nat→Int:=sm fun k=>if sameK (l.getD k aJo) m=true then min (l.getD k aJo).many 1000 else 0
def legT (m:Mv) (t:Int) (p:Nat):Int:=(if m.at_+mvG ps out m≤t∧mvO ps m=(p:Int) then m.many else 0)-(if m.at_≤t∧m.fr=(p:Int) then m.many else 0)
def thr (t:Int) (p n:Nat):Int:=pe.getD p 0+sm (fun k=>legT ps out (l.getD k aJo) t p) n
def legB (k:Nat):Bool:=mvOk ps xs out (l.getD k aJo)&&decide (totK l (l.getD k aJo) l.length≤(mvP ps (l.getD k aJo)).wide)
def thrB (P t:Nat):Bool:=allN (fun p=>decide (0≤thr ps out pe l t p l.length)) P
def planB (P:Nat):Bool:=allN (legB ps xs out l) l.length&&allN (thrB ps out pe l P) 61
def outA (m:Mv) (T:Int):Int:=if hasI xs (mvO ps m)=true∧m.at_+mvG ps out m≤T then m.many else 0
def exitN (P:Nat):Int:=sm (fun p=>if hasI xs p=true then pe.getD p 0 else 0) P
def outN (P T:Nat):Int:=exitN xs pe P+sm (fun k=>outA ps xs out (l.getD k aJo) T) l.length
end
section
variable {P T:Nat} {ps:List Psg} {xs:List Int} {out:Int} {pe bl:List Int} {l:List Mv} {m:Mv}
theorem Nr:planB ps xs out pe l P=true↔(∀ k,k<l.length→mvOk ps xs out (l.getD k aJo)=true∧totK l (l.getD k aJo) l.length≤(mvP ps (l.getD k aJo)).wide)∧∀ t:Nat,t≤60→∀ p,p<P→0≤thr ps out pe l t p l.length:=by
  unfold planB
  rw [Bool.and_eq_true,bS,bS];constructor
  · rintro ⟨h1,h2⟩
    refine ⟨fun k hk=>?_,fun t ht p hp=>?_⟩
    · have:=h1 k hk
      unfold legB at this
      simpa using this
    · have:=h2 t (by omega)
      unfold thrB at this
      exact of_decide_eq_true (bS.1 this p hp)
  · rintro ⟨h1,h2⟩
    refine ⟨fun k hk=>?_,fun t ht=>?_⟩
    · unfold legB
      simpa using h1 k hk
    · unfold thrB
      exact bS.2 fun p hp=>decide_eq_true (h2 t (by omega) p hp)
theorem oU:mvOk ps xs out m=true↔mvIn ps m∧0≤mvG ps out m∧hasI xs m.fr=false:=by
 unfold mvOk
 simp only [Bool.and_eq_true,decide_eq_true_eq,Bool.not_eq_true']
structure MvF (P:Nat) (ps:List Psg) (out:Int) (m:Mv) (i e:Nat):Prop where
 i_lt:i<ps.length
 pas:m.pas=(i:Int)
 e01:e=0∨e=1
 fr:m.fr=endI (ps.getD i aJj) e
 to:mvO ps m=endI (ps.getD i aJj) (1-e)
 g:1≤mvG ps out m∧mvG ps out m≤20
 frP:0≤m.fr∧m.fr<P
 toP:0≤mvO ps m∧mvO ps m<P
theorem xW (V:StV P ps xs) (h1:0≤m.pas∧m.pas<ps.length) (h2:0≤mvG ps out m):∃ i e,MvF P ps out m i e:=by
  obtain ⟨i,hi⟩:=Int.eq_ofNat_of_zero_le h1.1;have hil:i<ps.length:=by omega
  have hp:=bW.1 (V.pas i hil)
  have hP:mvP ps m=ps.getD i aJj:=by unfold mvP;rw [hi];rfl
  unfold mvG at h2
  rw [hP] at h2
  have hg:goneI out (ps.getD i aJj) m.fr≤20∧1≤goneI out (ps.getD i aJj) m.fr:=by
    unfold goneI at h2 ⊢
    split
    · rename_i h;rw [if_pos h] at h2;omega
    · rename_i h
      rw [if_neg h] at h2;split
      · omega
      · rename_i h3
        rw [if_neg h3] at h2;split
        · rename_i h4;rw [if_pos h4] at h2;omega
        · omega
  have ho:¬ othr (ps.getD i aJj) m.fr<0:=fun h=>by unfold goneI at h2;rw [if_pos (.inl h)] at h2;omega
  by_cases ha:(ps.getD i aJj).a=m.fr
  · refine ⟨i,0,hil,hi,.inl rfl,?_,?_,?_,by omega,?_⟩
    · unfold endI;rw [if_pos rfl];exact ha.symm
    · unfold mvO othr endI;rw [hP,if_pos ha,if_neg (by decide)]
    · unfold mvG;rw [hP];exact ⟨hg.2,hg.1⟩
    · unfold mvO othr;rw [hP,if_pos ha];omega
  · by_cases hb:(ps.getD i aJj).b=m.fr
    · refine ⟨i,1,hil,hi,.inr rfl,?_,?_,?_,by omega,?_⟩
      · unfold endI;rw [if_neg (by decide)];exact hb.symm
      · unfold mvO othr endI;rw [hP,if_neg ha,if_pos hb,if_pos rfl]
      · unfold mvG;rw [hP];exact ⟨hg.2,hg.1⟩
      · unfold mvO othr;rw [hP,if_neg ha,if_pos hb];omega
    · exfalso;apply ho;unfold othr;rw [if_neg ha,if_neg hb];omega
def jM (ps:List Psg) (out:Int) (bl:List Int) (m:Mv):Int:=if bl.getD m.fr.toNat 0≤m.at_∧m.at_+mvG ps out m<bl.getD (mvO ps m).toNat 0 then m.many else 0
theorem Ig (V:StV P ps xs) (hb:barOk P T xs bl=true) (hl:∀ k,k<l.length→mvOk ps xs out (l.getD k aJo)=true∧totK l (l.getD k aJo) l.length≤(mvP ps (l.getD k aJo)).wide) :
    sm (fun k=>jM ps out bl (l.getD k aJo)) l.length≤headC (barU bl) T xs out ps:=by
  obtain ⟨hbl,hbk⟩:=Es hb;let kt:Nat→Nat→Nat→Nat→Int:=fun k t i e=>if ((l.getD k aJo).pas=(i:Int)∧(l.getD k aJo).fr=endI (ps.getD i aJj) e)∧(l.getD k aJo).at_=(t:Int) then jM ps out bl (l.getD k aJo) else 0
  have hc0:∀ k,k<l.length→0≤jM ps out bl (l.getD k aJo):=fun k hk=>by
    have:=((oU.1 (hl k hk).1).1).2.2
    unfold jM;split <;> omega
  have hk0:∀ k,k<l.length→∀ t i e,0≤kt k t i e:=fun k hk t i e=>by
    show 0≤ite _ _ _
    split
    · exact hc0 k hk
    · omega
  have h1 : sm (fun k=>jM ps out bl (l.getD k aJo)) l.length≤sm (fun k=>sm (fun t=>sm (fun i=>kt k t i 0+kt k t i 1) ps.length) (T+1)) l.length:=by
    refine wI fun k hk=>?_
    by_cases hz:jM ps out bl (l.getD k aJo)=0
    · rw [hz]
      exact dC fun t _=>dC fun i _=>by have:=hk0 k hk t i 0;have:=hk0 k hk t i 1;omega
    · obtain ⟨⟨hpas,hat,hmany⟩,hg,hx⟩:=oU.1 (hl k hk).1
      obtain ⟨i,e,F⟩:=xW V hpas hg;obtain ⟨t,ht⟩:=Int.eq_ofNat_of_zero_le hat.1
      have htT:t<T+1:=by
        unfold jM at hz
        by_cases hc:bl.getD (l.getD k aJo).fr.toNat 0≤(l.getD k aJo).at_∧(l.getD k aJo).at_+mvG ps out (l.getD k aJo)<bl.getD (mvO ps (l.getD k aJo)).toNat 0
        · have h9:=hbk (mvO ps (l.getD k aJo)).toNat (by have:=F.toP;omega)
          have:=F.g
          omega
        · rw [if_neg hc] at hz;exact absurd rfl hz
      have hke:kt k t i e=jM ps out bl (l.getD k aJo):=if_pos ⟨⟨F.pas,F.fr⟩,ht⟩
      have h2:jM ps out bl (l.getD k aJo)≤kt k t i 0+kt k t i 1:=by
        have h3:=hk0 k hk t i 0
        have h4:=hk0 k hk t i 1
        rcases F.e01 with rfl|rfl <;> omega
      have h5:=oE (f:=fun i=>kt k t i 0+kt k t i 1) (n:=ps.length) (p:=i) (fun i _=>by have:=hk0 k hk t i 0;have:=hk0 k hk t i 1;omega) F.i_lt
      have h6:=oE (f:=fun t=>sm (fun i=>kt k t i 0+kt k t i 1) ps.length) (n:=T+1) (p:=t) (fun t _=>dC fun i _=>by have:=hk0 k hk t i 0;have:=hk0 k hk t i 1;omega) htT
      omega
  refine Int.le_trans h1 ?_
  rw [sC];unfold headC;refine wI fun t ht=>?_
  rw [sC];refine wI fun i hi=>?_
  rw [tE]
  have key:∀ e,e=0∨e=1→sm (fun k=>kt k t i e) l.length≤pC (barU bl) T xs out (ps.getD i aJj) t e:=by
    intro e he;have hpn:=aHu (T:=T) (out:=out) (U:=barU bl) V hi (t:=t) (k:=e);by_cases hx:∃ k,k<l.length∧kt k t i e≠0
    · obtain ⟨k,hk,hne⟩:=hx
      have hkey:((l.getD k aJo).pas=(i:Int)∧(l.getD k aJo).fr=endI (ps.getD i aJj) e)∧(l.getD k aJo).at_=(t:Int):=by
        refine Classical.byContradiction fun hno=>hne ?_
        show ite _ _ _=_
        rw [if_neg hno]
      have hcr:bl.getD (l.getD k aJo).fr.toNat 0≤(l.getD k aJo).at_∧(l.getD k aJo).at_+mvG ps out (l.getD k aJo)<bl.getD (mvO ps (l.getD k aJo)).toNat 0:=by
        refine Classical.byContradiction fun hno=>hne ?_
        show ite _ _ _=_
        rw [if_pos hkey];unfold jM;rw [if_neg hno]
      obtain ⟨⟨hpas,hat,hmany⟩,hg,hxf⟩:=oU.1 (hl k hk).1;obtain ⟨i',e',F⟩:=xW V hpas hg;have hii:i'=i:=by have:=F.pas;have:=hkey.1.1;omega
      subst hii
      have hee:e'=e:=by
        have h7:=F.fr
        have h8:=hkey.1.2
        have hp:=bW.1 (V.pas i' hi)
        unfold endI at h7 h8
        rcases F.e01 with rfl|rfl <;> rcases he with rfl|rfl
        · rfl
        · exfalso;rw [if_pos rfl] at h7;rw [if_neg (by decide)] at h8;omega
        · exfalso;rw [if_neg (by decide)] at h7;rw [if_pos rfl] at h8;omega
        · rfl
      subst hee
      have hwide:sm (fun k=>kt k t i' e') l.length≤totK l (l.getD k aJo) l.length:=by
        refine wI fun q hq=>?_
        have hq1:=((oU.1 (hl q hq).1).1).2.2
        show (ite _ _ _:Int)≤ite _ _ _
        by_cases hs:((l.getD q aJo).pas=(i':Int)∧(l.getD q aJo).fr=endI (ps.getD i' aJj) e')∧(l.getD q aJo).at_=(t:Int)
        · rw [if_pos hs,if_pos]
          · unfold jM;split <;> omega
          · unfold sameK
            rw [hkey.1.1,hkey.1.2,hkey.2,decide_eq_true hs.1.1,decide_eq_true hs.1.2,decide_eq_true hs.2];rfl
        · rw [if_neg hs];split <;> omega
      have hP:mvP ps (l.getD k aJo)=ps.getD i' aJj:=by unfold mvP;rw [F.pas];rfl
      have h9:=(hl k hk).2
      rw [hP] at h9;refine Int.le_trans hwide (Int.le_trans h9 (Int.le_of_eq ?_));rw [aEp V (fun p hp hx=>(hbk p (by omega)).2 hx) hi (by omega),if_pos];have hG:mvG ps out (l.getD k aJo)=goneI out (ps.getD i' aJj) (endI (ps.getD i' aJj) e'):=by unfold mvG;rw [hP,←F.fr]
      have h7:=hbk (mvO ps (l.getD k aJo)).toNat (by have:=F.toP;omega)
      have hg1:=F.g
      rw [←hG,←F.fr,←F.to,←hkey.2];exact ⟨⟨⟨by omega,hcr.1⟩,by omega⟩,hcr.2⟩
    · rw [eQ (fun k hk=>Classical.byContradiction fun hno=>hx ⟨k,hk,hno⟩)]
      exact hpn
  have h0:=key 0 (.inl rfl)
  have h1:=key 1 (.inr rfl)
  omega
theorem Tt (V:StV P ps xs) (hT:T≤60) (hl:planB ps xs out pe l P=true) (hb:barOk P T xs bl=true):outN ps xs out pe l P T≤bndV P T ps xs out pe bl:=by
  obtain ⟨hk,ht⟩:=Nr.1 hl;obtain ⟨hbl,hbk⟩:=Es hb;have hcross:=Ig (out:=out) V hb hk;let A:Nat→Nat→Int:=fun p k=>if (l.getD k aJo).at_+mvG ps out (l.getD k aJo)<bl.getD p 0∧mvO ps (l.getD k aJo)=(p:Int) then (l.getD k aJo).many else 0
  let D:Nat→Nat→Int:=fun p k=>if (l.getD k aJo).at_<bl.getD p 0∧(l.getD k aJo).fr=(p:Int) then (l.getD k aJo).many else 0
  let w:Nat→Int:=fun p=>(if barU bl p 0=false then pe.getD p 0 else 0)+sm (fun k=>A p k-D p k) l.length
  have hkf:∀ k,k<l.length→(0≤(l.getD k aJo).at_∧1≤(l.getD k aJo).many∧1≤mvG ps out (l.getD k aJo))∧(0≤(l.getD k aJo).fr∧(l.getD k aJo).fr<P)∧(0≤mvO ps (l.getD k aJo)∧mvO ps (l.getD k aJo)<P)∧hasI xs (l.getD k aJo).fr=false:=fun k hq=>by
    obtain ⟨⟨hpas,hat,hmany⟩,hg,hx⟩:=oU.1 (hk k hq).1;obtain ⟨i,e,F⟩:=xW V hpas hg;exact ⟨⟨hat.1,hmany.1,F.g.1⟩,F.frP,F.toP,hx⟩
  have hw:∀ p,p<P→w p=if 0<bl.getD p 0 then thr ps out pe l (bl.getD p 0-1) p l.length else 0:=fun p hp=>by
    show (if barU bl p 0=false then pe.getD p 0 else 0)+sm (fun k=>A p k-D p k) l.length=_
    by_cases h0:0<bl.getD p 0
    · rw [if_pos h0,if_pos (show barU bl p 0=false from decide_eq_false (by omega))]
      unfold thr
      congr 1
      refine dW fun k _=>?_
      show (ite _ _ _:Int)-ite _ _ _=ite _ _ _-ite _ _ _
      have e1:∀ z:Int,z<bl.getD p 0↔z≤bl.getD p 0-1:=fun z=>by omega
      simp only [e1]
    · rw [if_neg h0,if_neg (show ¬ barU bl p 0=false from fun h=>by have:=of_decide_eq_false h;omega),eQ]
      · rfl
      · intro k hq
        have h1:=hkf k hq
        show (ite _ _ _:Int)-ite _ _ _=0
        rw [if_neg (fun h=>by have:=h.1;omega),if_neg (fun h=>by have:=h.1;omega)];rfl
  have hw0:∀ p,p<P→0≤w p:=fun p hp=>by
    rw [hw p hp];split
    · rename_i h0
      have h1:=(hbk p (by omega)).1
      have h2:=ht (bl.getD p 0-1).toNat (by omega) p hp
      rw [Int.toNat_of_nonneg (by omega)] at h2;exact h2
    · exact Int.le_refl 0
  have hsum:sm w P=begC (barU bl) pe P+sm (fun k=>sm (fun p=>A p k) P-sm (fun p=>D p k) P) l.length:=by
    show sm (fun p=>(if barU bl p 0=false then pe.getD p 0 else 0)+sm (fun k=>A p k-D p k) l.length) P=_
    rw [tE,sC];unfold begC;congr 1;refine dW fun k _=>?_
    have:sm (fun p=>A p k-D p k) P+sm (fun p=>D p k) P=sm (fun p=>A p k) P:=by
      rw [←tE];exact dW fun p _=>by omega
    omega
  have hA:∀ k,k<l.length→sm (fun p=>A p k) P=if (l.getD k aJo).at_+mvG ps out (l.getD k aJo)<bl.getD (mvO ps (l.getD k aJo)).toNat 0 then (l.getD k aJo).many else 0:=fun k hq=>by
    have h1:=(hkf k hq).2.2.1
    rw [tF (p:=(mvO ps (l.getD k aJo)).toNat) (by omega) (fun p _ hne=>if_neg fun h=>by have:=h.2;omega)];show (ite _ _ _:Int)=_;by_cases hc:(l.getD k aJo).at_+mvG ps out (l.getD k aJo)<bl.getD (mvO ps (l.getD k aJo)).toNat 0
    · rw [if_pos hc,if_pos ⟨hc,by omega⟩]
    · rw [if_neg hc,if_neg (fun h=>hc h.1)]
  have hD:∀ k,k<l.length→sm (fun p=>D p k) P=if (l.getD k aJo).at_<bl.getD (l.getD k aJo).fr.toNat 0 then (l.getD k aJo).many else 0:=fun k hq=>by
    have h1:=(hkf k hq).2.1
    rw [tF (p:=(l.getD k aJo).fr.toNat) (by omega) (fun p _ hne=>if_neg fun h=>by have:=h.2;omega)];show (ite _ _ _:Int)=_;by_cases hc:(l.getD k aJo).at_<bl.getD (l.getD k aJo).fr.toNat 0
    · rw [if_pos hc,if_pos ⟨hc,by omega⟩]
    · rw [if_neg hc,if_neg (fun h=>hc h.1)]
  have hle:sm (fun k=>sm (fun p=>A p k) P-sm (fun p=>D p k) P) l.length≤sm (fun k=>jM ps out bl (l.getD k aJo)) l.length:=by
    refine wI fun k hq=>?_
    have h1:=(hkf k hq).1
    rw [hA k hq,hD k hq];unfold jM;by_cases h2:(l.getD k aJo).at_+mvG ps out (l.getD k aJo)<bl.getD (mvO ps (l.getD k aJo)).toNat 0
    · rw [if_pos h2]
      by_cases h3:(l.getD k aJo).at_<bl.getD (l.getD k aJo).fr.toNat 0
      · rw [if_pos h3,if_neg (fun h=>by have:=h.1;omega)];omega
      · rw [if_neg h3,if_pos ⟨by omega,h2⟩];omega
    · rw [if_neg h2,if_neg (c:=bl.getD (l.getD k aJo).fr.toNat 0≤(l.getD k aJo).at_∧_) (fun h=>h2 h.2)]
      split <;> omega
  have hout:outN ps xs out pe l P T≤sm w P:=by
    let B:Nat→Nat→Int:=fun p k=>if hasI xs p=true∧((l.getD k aJo).at_+mvG ps out (l.getD k aJo)≤T∧mvO ps (l.getD k aJo)=(p:Int)) then (l.getD k aJo).many else 0
    have e1:outN ps xs out pe l P T=sm (fun p=>(if hasI xs p=true then pe.getD p 0 else 0)+sm (fun k=>B p k) l.length) P:=by
      rw [tE,sC];unfold outN exitN;congr 1;refine dW fun k hq=>?_
      have h1:=(hkf k hq).2.2.1
      rw [tF (p:=(mvO ps (l.getD k aJo)).toNat) (by omega) (fun p _ hne=>if_neg fun h=>by have:=h.2.2;omega)];unfold outA;show (ite _ _ _:Int)=ite _ _ _;rw [Int.toNat_of_nonneg h1.1];by_cases hc:hasI xs (mvO ps (l.getD k aJo))=true∧(l.getD k aJo).at_+mvG ps out (l.getD k aJo)≤T
      · rw [if_pos hc,if_pos ⟨hc.1,hc.2,rfl⟩]
      · rw [if_neg hc,if_neg (fun h=>hc ⟨h.1,h.2.1⟩)]
    rw [e1];refine wI fun p hp=>?_
    by_cases hx:hasI xs p=true
    · have h1:=hbk p (by omega)
      have h2:=h1.2 hx
      show _≤(if barU bl p 0=false then pe.getD p 0 else 0)+sm (fun k=>A p k-D p k) l.length
      rw [if_pos hx,if_pos (show barU bl p 0=false from decide_eq_false (by omega))]
      have h3:sm (fun k=>B p k) l.length≤sm (fun k=>A p k-D p k) l.length:=by
        refine wI fun k hq=>?_
        have h4:=(hkf k hq).2.2.2
        show (ite _ _ _:Int)≤ite _ _ _-ite _ _ _
        rw [if_neg (c:=(l.getD k aJo).at_<bl.getD p 0∧(l.getD k aJo).fr=(p:Int)) (fun h=>by rw [h.2,hx] at h4;cases h4)];have h5:=(hkf k hq).1;by_cases hc:hasI xs p=true∧((l.getD k aJo).at_+mvG ps out (l.getD k aJo)≤T∧mvO ps (l.getD k aJo)=(p:Int))
        · rw [if_pos hc,if_pos ⟨by omega,hc.2.2⟩];omega
        · rw [if_neg hc];split <;> omega
      omega
    · have h1:=hw0 p hp
      rw [if_neg hx,eQ (fun k _=>if_neg fun h=>hx h.1)];exact h1
  unfold bndV
  omega
theorem Ks (V:StV P ps xs) (ho:0≤out) (hpe:PeOk pe) (hT:T≤60) (hl:planB ps xs out pe l P=true):outN ps xs out pe l P T≤mfv P T pe xs (hds out xs ps):=by
 obtain ⟨h1,h2⟩:=Zu (T:=T) V ho hpe;have:=Tt V hT hl h1;omega
end
end
section
def enc2 (k:Int×Int):Value := .agg #[.int .i64 k.1,.int .i64 k.2]
section
variable {P:Program} {w:World} {kt e:TypeId}
theorem mO (h1:One P e) {cs:Array Value} {i:Nat} {v:Value} (h:cs[i]?=some v):(part e cs i).run P w = .ok v w:=by
 have:(isAgg e).run P w = .ok false w:=by
  unfold One lP at h1
  unfold isAgg
  cases hu:P.underlying e with
  | none=>rw [hu] at h1;simp at h1
  | some d=>rw [hu] at h1;simp only [Sem.run_bind,cL hu,Result.andThen_ok];cases d <;> simp_all
 simp [part,this,h]
theorem Tu (hs:Sz P e 1):(sizeOf e).run P w = .ok 1 w:=by
 unfold Sz at hs
 cases hi:P.info? e with
 | none=>rw [hi] at hs;simp at hs
 | some i=>rw [hi] at hs;simp at hs;simp [sizeOf,typeInfo,hi,hs]
theorem Kt (he:P.underlying e=some (.int .i64)) (d:Nat) (a b:Int):(Op.equalIn (d+1) e (.int .i64 a) (.int .i64 b)).run P w = .ok (a == b) w:=by
 simp [Op.equalIn,cL he]
theorem Zv (hk:P.underlying kt=some (.array 2 e)) (he:P.underlying e=some (.int .i64)) (h1:One P e) (hs:Sz P e 1) (d:Nat) (k k':Int×Int):(Op.equalIn (d+2) kt (enc2 k) (enc2 k')).run P w = .ok (decide (k=k')) w:=by
 obtain ⟨a,b⟩:=k;obtain ⟨a',b'⟩:=k';have p0:∀ x y:Int,(part e #[.int .i64 x,.int .i64 y] 0).run P w = .ok (.int .i64 x) w:=fun x y=>mO h1 rfl
 have p1:∀ x y:Int,(part e #[.int .i64 x,.int .i64 y] 1).run P w = .ok (.int .i64 y) w:=fun x y=>mO h1 rfl
 unfold enc2
 rw [Op.equalIn];simp [cL hk,Tu hs,p0,p1,Kt he,Std.Legacy.Range.forIn_eq_forIn_range',Std.Legacy.Range.size,List.range'];by_cases h:a=a' <;> by_cases h2:b=b' <;> simp [h,h2]
theorem Ku (he:P.underlying e=some (.int .i64)) (m:Bool) (n:Nat) (a:Int):(Instr.checkKey m (n+1) e (.int .i64 a)).run P w = .ok () w:=by
 rw [Instr.checkKey];simp only [Sem.run_bind,cL he,Result.andThen_ok];rfl
theorem Zw (hk:P.underlying kt=some (.array 2 e)) (he:P.underlying e=some (.int .i64)) (h1:One P e) (hs:Sz P e 1) (m:Bool) (n:Nat) (k:Int×Int):(Instr.checkKey m (n+2) kt (enc2 k)).run P w = .ok () w:=by
 have p0:∀ x y:Int,(part e #[.int .i64 x,.int .i64 y] 0).run P w = .ok (.int .i64 x) w:=fun x y=>mO h1 rfl
 have p1:∀ x y:Int,(part e #[.int .i64 x,.int .i64 y] 1).run P w = .ok (.int .i64 y) w:=fun x y=>mO h1 rfl
 unfold enc2
 rw [Instr.checkKey];simp [cL hk,Tu hs,p0,p1,Ku he,Std.Legacy.Range.forIn_eq_forIn_range',Std.Legacy.Range.size,List.range']
theorem Kv {κ:Type} [DecidableEq κ] {enc:κ→Value} (heq:∀ (k k':κ) (w:World),(Op.equal kt (enc k) (enc k')).run P w = .ok (decide (k=k')) w) (k:κ):∀ (l:List (κ×Value)) (es:List MapEntry) (i:Nat),es.map (fun e=>(e.key,e.val))=l.map (fun p=>(enc p.1,p.2))→(Instr.findAsking kt (enc k) es i).run P w = .ok (findL k l i) w:=by
  intro l;induction l with
  | nil=>
    intro es i he;have:es=[]:=by simpa using he
    subst this;rfl
  | cons p l ih=>
    intro es i he;cases es with
    | nil=>simp at he
    | cons x es=>
      simp only [List.map_cons,List.cons.injEq,Prod.mk.injEq] at he
      obtain ⟨⟨g1,g2⟩,g3⟩:=he;rw [Instr.findAsking,g1];simp only [Sem.run_bind,heq,Result.andThen_ok,findL];by_cases hk:k=p.1
      · rw [if_pos hk,decide_eq_true hk,g2];rfl
      · rw [if_neg hk,decide_eq_false hk]
        exact ih es (i+1) g3
theorem Ns {κ:Type} [DecidableEq κ] {enc:κ→Value} {n:Nat} (hk:P.underlying kt=some (.array n e)) (heq:∀ (k k':κ) (w:World),(Op.equal kt (enc k) (enc k')).run P w = .ok (decide (k=k')) w)
  (hck:∀ (m:Bool) (k:κ) (w:World),(Instr.checkKey m 10000 kt (enc k)).run P w = .ok () w) (hb:∀ k:κ,Instr.sameBits 10000 (enc k) (enc k)=true):KeyOk P kt enc:=by
 refine ⟨fun l k es w he=>?_,hck,hb⟩
 rw [run_findKey_eq w (by rw [hk])];exact Kv heq k l es 0 he
theorem Ih (hk:P.underlying kt=some (.array 2 e)) (he:P.underlying e=some (.int .i64)) (h1:One P e) (hs:Sz P e 1):KeyOk P kt enc2:=
 Ns hk (fun k k' w=>by unfold Op.equal;rw [show Op.maxDepth=9998+2 from rfl];exact Zv hk he h1 hs 9998 k k') (fun m k w=>by rw [show (10000:Nat)=9998+2 from rfl];exact Zw hk he h1 hs m 9998 k) (fun k=>by rw [show (10000:Nat)=9998+2 from rfl];simp [enc2,Instr.sameBits])
end
theorem aEr {κ:Type} {enc:κ→Value} {es:List MapEntry} {l:List (κ×Value)} {j:Nat} {k:κ} {v:Value} (he:es.map (fun e=>(e.key,e.val))=l.map (fun p=>(enc p.1,p.2))) (h:l[j]?=some (k,v)):∃ e,es[j]?=some e∧e.key=enc k∧e.val=v:=by
 have h1:(es.map (fun e=>(e.key,e.val)))[j]?=(l.map (fun p=>(enc p.1,p.2)))[j]?:=by rw [he]
 rw [List.getElem?_map,List.getElem?_map,h] at h1;cases h2:es[j]? with
 | none=>rw [h2] at h1;simp at h1
 | some e=>rw [h2] at h1;simp at h1;exact ⟨e,rfl,h1.1,h1.2⟩
def mapK {κ:Type} [DecidableEq κ] (enc:κ→Value) (b:Nat) (Φ:(κ→Option Value)→Prop):Mem where
 fp:=fun k=>k=b
 holds:=fun w=>∃ (es:Array MapEntry) (ck:Nat) (l:List (κ×Value)),w.heap[b]?=some (.map es ck)∧es.toList.map (fun e=>(e.key,e.val))=l.map (fun p=>(enc p.1,p.2))∧(∀ x ∈ es.toList,x.born<ck)∧(es.toList.map MapEntry.born).Nodup∧Φ (getL l)
 stable:=fun _ _ h ⟨es,ck,l,h1,h2⟩=>⟨es,ck,l,(h b rfl).trans h1,h2⟩
section
variable {P:Program} {ops:Array Oper} {w w0:World} {F0:Nat→Prop} {R:List Mem} {Q:Exit→Act→World→Prop} {rest:List Oper} {N:FN} {L:List (Nat×Value)} {a:Act} {ty:TypeId} {pos:String} {af:Array Edge}
variable {κ:Type} [DecidableEq κ] {enc:κ→Value} {Φ Φ':(κ→Option Value)→Prop}
theorem iB {d t:Nat} (enc:κ→Value) (Φ:(κ→Option Value)→Prop) (hΦ:Φ (fun _=>none)) (H:Fr N L a) (hd:Nat.blt d N.n=true) (S:St w0 F0 R w)
  (k:∀ b w' a',w0.heap.size≤b→St w0 F0 (mapK enc b Φ::R) w'→Fr N ((d,.map (some b))::L) a'→wpList P ops Q rest a' w') :
  wpList P ops Q (⟨some d,.makeMap t none,ty,pos,af,none⟩::rest) a w:=by
 refine wpList_plain rfl fun K hK=>?_
 unfold Oper.wp
 have e:(execOp a.eval ⟨some d,.makeMap t none,ty,pos,af,none⟩).run P w = .ok (.value (.map (some w.heap.size))) (w.alloc (.map #[] 0)):=by
  simp [execOp,Instr.makeMap,newObj,Sem.run]
 rw [e];refine hK _ _ (k w.heap.size _ _ S.size (S.new (Keeps.alloc w _ _) ⟨#[],0,[],heap_alloc_new w _,rfl,fun x hx=>by simp at hx,by simp,hΦ⟩ ?_) (H.put _ hd));intro q hq;rw [show q=w.heap.size from hq];simp
theorem nM {x y:Operand} {t kt et b i:Nat} {d:Option Nat} {g:Option (Nat×Bool)} {z v:Value} {k:κ} (S:St w0 F0 R w) (hi:R[i]?=some (mapK enc b Φ)) (ht:MapT P t kt et) (hk:KeyOk P kt enc) (hz:ZeroV P et z) (hx:ev L x=some (.map (some b))) (hy:ev L y=some (enc k)) (hv:∀ h,Φ h→(h k).getD z=v) :
  Does P L ⟨d,.lookup t x y false,ty,pos,af,g⟩ w v:=fun ρ hρ=>by
 obtain ⟨es,ck,l,hb,he,_,_,hΦ⟩:=S.holds hi;have:=qD (k:=k) ht hk hz (⟨es,ck,hb,he⟩:(mapM enc b l).holds w) false;simp [execOp,hρ _ _ hx,hρ _ _ hy,this,hv _ hΦ]
theorem fU {x y:Operand} {t kt et b i:Nat} {d:Option Nat} {g:Option (Nat×Bool)} {z v:Value} {s:Bool} {k:κ} (S:St w0 F0 R w) (hi:R[i]?=some (mapK enc b Φ)) (ht:MapT P t kt et) (hk:KeyOk P kt enc) (hz:ZeroV P et z) (hx:ev L x=some (.map (some b))) (hy:ev L y=some (enc k)) (hv:∀ h,Φ h→(h k).getD z=v∧(h k).isSome=s) :
  Does P L ⟨d,.lookup t x y true,ty,pos,af,g⟩ w (.tuple #[v,.bool s]):=fun ρ hρ=>by
 obtain ⟨es,ck,l,hb,he,_,_,hΦ⟩:=S.holds hi;have:=qD (k:=k) ht hk hz (⟨es,ck,hb,he⟩:(mapM enc b l).holds w) true;obtain ⟨h1,h2⟩:=hv _ hΦ;simp [execOp,hρ _ _ hx,hρ _ _ hy,this,h1,h2]
theorem Tv {l:List (κ×Value)} {k:κ} {v:Value} (h:findL k l 0=none):setL l k v=l++[(k,v)]:=by unfold setL;rw [h]
theorem Tw {l:List (κ×Value)} {k:κ} {v v0:Value} {j:Nat} (h:findL k l 0=some (j,v0)):setL l k v=l.modify j fun p=>(p.1,v):=by unfold setL;rw [h]
theorem Nt {l:List (κ×Value)} {k:κ} {v:Value}:getL (setL l k v)=fun k'=>if k'=k then some v else getL l k':=funext fun k'=>Dc v k k' l
theorem Eu (f:MapEntry→MapEntry) (hf:∀ e,(f e).born=e.born):∀ (l:List MapEntry) (i:Nat),(l.modify i f).map MapEntry.born=l.map MapEntry.born:=by
  intro l;induction l with
  | nil=>intro i;simp
  | cons e l ih=>
    intro i;cases i with
    | zero=>simp [hf]
    | succ i=>simp [List.modify_succ_cons,ih]
theorem Zx {l l':List MapEntry} {ck:Nat} (h:l'.map MapEntry.born=l.map MapEntry.born) (hl:∀ x ∈ l,x.born<ck):∀ x ∈ l',x.born<ck:=fun x hx=>by
 have h1:x.born ∈ l'.map MapEntry.born:=List.mem_map.2 ⟨x,hx,rfl⟩
 rw [h] at h1;obtain ⟨y,hy,e⟩:=List.mem_map.1 h1;have:=hl y hy;omega
theorem Tx {l:List MapEntry} {e:MapEntry} {ck:Nat} (he:e.born=ck) (hl:∀ x ∈ l,x.born<ck) (hn:(l.map MapEntry.born).Nodup):(∀ x ∈ l++[e],x.born<ck+1)∧((l++[e]).map MapEntry.born).Nodup:=by
  constructor
  · intro x hx
    rcases List.mem_append.1 hx with hx|hx
    · have:=hl x hx;omega
    · rw [List.mem_singleton.1 hx];omega
  · rw [List.map_append,List.nodup_append]
    refine ⟨hn,by simp,fun p hp q hq e1=>?_⟩
    obtain ⟨x,hx,rfl⟩:=List.mem_map.1 hp;simp only [List.map_cons,List.map_nil,List.mem_singleton] at hq;have:=hl x hx;omega
theorem fJ {x y u:Operand} {t kt et b i:Nat} {k:κ} {v:Value} (Φ':(κ→Option Value)→Prop) (H:Fr N L a) (S:St w0 F0 R w) (hi:R[i]?=some (mapK enc b Φ)) (ht:MapT P t kt et) (hk:KeyOk P kt enc) (hx:ev L x=some (.map (some b))) (hy:ev L y=some (enc k)) (hu:ev L u=some v)
    (hΦ':∀ h,Φ h→Φ' (fun k'=>if k'=k then some v else h k'))
    (kk:∀ w' a',St w0 F0 (R.set i (mapK enc b Φ')) w'→Fr N L a'→wpList P ops Q rest a' w') :
    wpList P ops Q (⟨none,.mapUpdate t x y u,ty,pos,af,none⟩::rest) a w:=by
  refine wpList_plain rfl fun K hK=>?_
  obtain ⟨es,ck,l,hb,he,hlt,hnd,hΦ⟩:=S.holds hi;have hf:=hk.find l k es.toList w he;have hg:(getObj b).run P w = .ok (.map es ck) w:=by simp [getObj,Sem.run,hb]
  have hs:∀ o,(setObj b o).run P w = .ok () (w.putObj b o):=fun o=>by simp [setObj,Sem.run,hb,World.putObj]
  have hkeeps:∀ o,Keeps w (w.putObj b o) (fun k=>k=b):=fun o=>⟨rfl,rfl,rfl,by simp [World.putObj],fun q _ hq=>World.putObj_heap_other (fun e=>hq e)⟩
  have hΦ2:Φ' (getL (setL l k v)):=by rw [Nt];exact hΦ' _ hΦ
  unfold MapT at ht
  unfold Oper.wp
  cases hfl:findL k l 0 with
  | none=>
    rw [hfl] at hf
    have e1:(execOp a.eval ⟨none,.mapUpdate t x y u,ty,pos,af,none⟩).run P w = .ok .skip (w.putObj b (.map (es.push { key:=enc k,val:=v,born:=ck }) (ck+1))):=by
      simp [execOp,H.eval hx,H.eval hy,H.eval hu,Instr.mapUpdate,cL ht,hg,hk.check,hf,hs]
    rw [e1];have hb2:=Tx (e:={ key:=enc k,val:=v,born:=ck }) rfl hlt hnd;refine hK _ _ (kk _ _ (S.updSame hi (hkeeps _) ⟨_,_,setL l k v,World.putObj_heap_same (eW hb),?_,?_,?_,hΦ2⟩ (fun _ h=>h)) (H.put_none _))
    · rw [Tv hfl];simp [he]
    · rw [Array.toList_push];exact hb2.1
    · rw [Array.toList_push];exact hb2.2
  | some q=>
    obtain ⟨j,v0⟩:=q;rw [hfl] at hf;have hat:=Dd hfl;obtain ⟨e0,h1,h2,h3⟩:=aEr he hat;have hej:(es[j]?).map (·.key)=some (enc k):=by rw [←Array.getElem?_toList,h1,←h2];rfl
    have hst:(Instr.keyThatStays (enc k) (enc k)).run P w = .ok (enc k) w:=by simp [Instr.keyThatStays,hk.bits k]
    have e1:(execOp a.eval ⟨none,.mapUpdate t x y u,ty,pos,af,none⟩).run P w = .ok .skip (w.putObj b (.map (es.modify j fun e=>{ e with key:=enc k,val:=v }) ck)):=by
      simp [execOp,H.eval hx,H.eval hy,H.eval hu,Instr.mapUpdate,cL ht,hg,hk.check,hf,hs,hej,hst]
    rw [e1];have hbm:=Eu (fun e=>{ e with key:=enc k,val:=v }) (fun _=>rfl) es.toList j;refine hK _ _ (kk _ _ (S.updSame hi (hkeeps _) ⟨_,_,setL l k v,World.putObj_heap_same (eW hb),?_,?_,?_,hΦ2⟩ (fun _ h=>h)) (H.put_none _))
    · rw [Tw hfl,Array.toList_modify]
      refine wG _ _ _ _ es.toList l j he fun e p g1 g2 g3=>?_
      rw [hat] at g3;injection g3 with g3;subst g3;rfl
    · rw [Array.toList_modify];exact Zx hbm hlt
    · rw [Array.toList_modify,hbm];exact hnd
end
def ints (xs:List Int):Value := .agg (xs.map fun x=>Value.int .i64 x).toArray
structure IntsK (P:Program) (t:TypeId) (n D:Nat):Prop where
 agg:Agg P t
 sz:Sz P t n
 eq:∀ (d:Nat) (xs ys:List Int) (w:World),xs.length=n→ys.length=n→(Op.equalIn (d+D) t (ints xs) (ints ys)).run P w = .ok (decide (xs=ys)) w
 ck:∀ (m:Bool) (d:Nat) (xs:List Int) (w:World),xs.length=n→(Instr.checkKey m (d+D) t (ints xs)).run P w = .ok () w
section
variable {P:Program} {w:World} {kt e:TypeId} {n D:Nat}
theorem zX {n:Nat} (ha:Agg P e) (hs:Sz P e n) (cs:Array Value) (i:Nat):(part e cs i).run P w = .ok (.agg (cs.extract i (i+n))) w:=by
 have h1:(isAgg e).run P w = .ok true w:=by
  unfold Agg lP at ha
  unfold isAgg
  cases hu:P.underlying e with
  | none=>rw [hu] at ha;simp at ha
  | some d=>rw [hu] at ha;simp only [Sem.run_bind,cL hu,Result.andThen_ok];cases d <;> simp_all
 have h2:(sizeOf e).run P w = .ok n w:=by
  unfold Sz at hs
  cases hi:P.info? e with
  | none=>rw [hi] at hs;simp at hs
  | some i=>rw [hi] at hs;simp at hs;simp [sizeOf,typeInfo,hi,hs]
 simp [part,h1,h2]
theorem zY {n:Nat} (hs:Sz P e n):(sizeOf e).run P w = .ok n w:=by
 unfold Sz at hs
 cases hi:P.info? e with
 | none=>rw [hi] at hs;simp at hs
 | some i=>rw [hi] at hs;simp at hs;simp [sizeOf,typeInfo,hi,hs]
theorem Ev (xs:List Int) (i n:Nat):((xs.map fun x=>Value.int .i64 x).toArray).extract i (i+n)=(((xs.drop i).take n).map fun x=>Value.int .i64 x).toArray:=by
 rw [List.extract_toArray,List.extract_eq_take_drop,Nat.add_sub_cancel_left,List.map_take,List.map_drop]
theorem Zy {xs:List Int} {i:Nat} (h:i<xs.length):((xs.map fun x=>Value.int .i64 x).toArray)[i]?=some (.int .i64 (xs.getD i 0)):=by
 simp [List.getD_eq_getElem?_getD,h]
theorem Ty {α:Type} {f:α→Sem Bool} {b:α→Bool} {w:World} (l:List α) (h:∀ i ∈ l,(f i).run P w = .ok (b i) w) :
    (do let r ←forIn (m:=Sem) l ((none,()):Option Bool×PUnit) fun i r=>do
          let x ←f i
          if !x then pure (ForInStep.done (some false,())) else pure (ForInStep.yield (none,()))
        match r.fst with
        | some a=>pure a
        | none=>pure true:Sem Bool).run P w = .ok (l.all b) w:=by
  have key:∀ l:List α,(∀ i ∈ l,(f i).run P w = .ok (b i) w)→(forIn (m:=Sem) l ((none,()):Option Bool×PUnit) fun i r=>do
          let x ←f i
          if !x then pure (ForInStep.done (some false,())) else pure (ForInStep.yield (none,()))).run P w = .ok ((if l.all b=true then none else some false,())) w:=by
    intro l;induction l with
    | nil=>intro _;simp
    | cons a l ih=>
      intro h;have h1:=h a (by simp);have h2:=ih fun i hi=>h i (by simp [hi])
      rw [List.forIn_cons];cases hb:b a with
      | true=>
        rw [hb] at h1;have e:(a::l).all b=l.all b:=by simp [hb]
        rw [e];simp only [Sem.run_bind,h1,Result.andThen_ok];simpa using h2
      | false=>
        rw [hb] at h1;simp [h1,hb]
  simp only [Sem.run_bind,key l h,Result.andThen_ok]
  by_cases hl:l.all b=true
  · simp [hl]
  · simp [hl]
theorem Nu {α:Type} {f:α→Sem Unit} {w:World} (l:List α) (h:∀ i ∈ l,(f i).run P w = .ok () w) :
    (forIn (m:=Sem) l () fun i r=>do f i;pure (ForInStep.yield ())).run P w = .ok () w:=by
  induction l with
  | nil=>simp
  | cons a l ih=>
    have h1:=h a (by simp)
    have h2:=ih fun i hi=>h i (by simp [hi])
    rw [List.forIn_cons];simp only [Sem.run_bind,h1,Result.andThen_ok];simpa using h2
def seg (xs:List Int) (off n:Nat):List Int:=(xs.drop off).take n
theorem sG {xs:List Int} {off n:Nat} (h:off+n≤xs.length):(seg xs off n).length=n:=by simp [seg];omega
structure PartK (P:Program) (t:TypeId) (n D:Nat):Prop where
 eq:∀ (d:Nat) (xs ys:List Int) (off:Nat) (w:World),off+n≤xs.length→off+n≤ys.length →
  (do let a ←part t (xs.map fun x=>Value.int .i64 x).toArray off;let b ←part t (ys.map fun x=>Value.int .i64 x).toArray off;Op.equalIn (d+D) t a b:Sem Bool).run P w = .ok (decide (seg xs off n=seg ys off n)) w
 ck:∀ (m:Bool) (d:Nat) (xs:List Int) (off:Nat) (w:World),off+n≤xs.length→(do let a ←part t (xs.map fun x=>Value.int .i64 x).toArray off;Instr.checkKey m (d+D) t a:Sem Unit).run P w = .ok () w
theorem PartK.of (h:IntsK P kt n D):PartK P kt n D:=by
  refine ⟨fun d xs ys off w hx hy=>?_,fun m d xs off w hx=>?_⟩
  · simp only [Sem.run_bind,zX h.agg h.sz,Result.andThen_ok,Ev]
    exact h.eq d _ _ w (sG hx) (sG hy)
  · simp only [Sem.run_bind,zX h.agg h.sz,Result.andThen_ok,Ev]
    exact h.ck m d _ w (sG hx)
theorem Kw {xs:List Int} {i:Nat} (h:i<xs.length):seg xs i 1=[xs.getD i 0]:=by
 rw [seg,List.drop_eq_getElem_cons h,List.take_succ_cons,List.take_zero,List.getD_eq_getElem?_getD,List.getElem?_eq_getElem h];rfl
theorem PartK.int (he:P.underlying e=some (.int .i64)) (h1:One P e):PartK P e 1 1:=by
  have hp:∀ (zs:List Int) (i:Nat),i<zs.length→∀ w,(part e (zs.map fun x=>Value.int .i64 x).toArray i).run P w = .ok (.int .i64 (zs.getD i 0)) w:=fun zs i hi w=>mO h1 (Zy hi)
  refine ⟨fun d xs ys off w hx hy=>?_,fun m d xs off w hx=>?_⟩
  · simp only [Sem.run_bind,hp xs off (by omega),hp ys off (by omega),Result.andThen_ok,Kt he]
    rw [Kw (by omega),Kw (by omega)];rw [show decide ([xs.getD off 0]=[ys.getD off 0])=decide (xs.getD off 0=ys.getD off 0) by simp];rfl
  · simp only [Sem.run_bind,hp xs off (by omega),Result.andThen_ok,Ku he]
theorem PartK.mono {n D:Nat} (h:PartK P e n D):PartK P e n (D+1):=
 ⟨fun d xs ys off w hx hy=>by have:=h.eq (d+1) xs ys off w hx hy;rw [Nat.add_assoc,Nat.add_comm 1 D] at this;exact this,fun m d xs off w hx=>by have:=h.ck m (d+1) xs off w hx;rw [Nat.add_assoc,Nat.add_comm 1 D] at this;exact this⟩
theorem PartK.int2 (he:P.underlying e=some (.int .i64)) (h1:One P e):PartK P e 1 2:=(PartK.int he h1).mono
theorem Kx {xs ys:List Int} {off n m:Nat} (hx:off+n+m≤xs.length) (hy:off+n+m≤ys.length):seg xs off (n+m)=seg ys off (n+m)↔seg xs off n=seg ys off n∧seg xs (off+n) m=seg ys (off+n) m:=by
 have e:∀ zs:List Int,seg zs off (n+m)=seg zs off n++seg zs (off+n) m:=fun zs=>by
  unfold seg;rw [List.take_add,List.drop_drop]
 rw [e,e];exact ⟨fun h=>List.append_inj h (by rw [sG (by omega),sG (by omega)]),fun h=>by rw [h.1,h.2]⟩
theorem vI {xs:List Int} {n:Nat} (h:xs.length=n):seg xs 0 n=xs:=by unfold seg;rw [List.drop_zero,List.take_of_length_le (by omega)]
theorem aEs {xs ys:List Int} {m:Nat}:∀ len,len*m≤xs.length→len*m≤ys.length→((List.range len).all fun i=>decide (seg xs (i*m) m=seg ys (i*m) m))=decide (seg xs 0 (len*m)=seg ys 0 (len*m)):=by
  intro len;induction len with
  | zero=>intro _ _;simp [seg]
  | succ len ih=>
    intro hx hy;rw [Nat.add_mul] at hx hy;rw [List.range_succ,List.all_append,ih (by omega) (by omega),Bool.eq_iff_iff,Nat.add_mul,Nat.one_mul,decide_eq_true_eq,Kx (by omega) (by omega),Nat.zero_add];simp
theorem Ew {len m D:Nat} (hk:P.underlying kt=some (.array len e)) (hs:Sz P kt (len*m)) (he:PartK P e m D) (hse:Sz P e m):IntsK P kt (len*m) (D+1):=by
  refine ⟨by unfold Agg lP;rw [hk],hs,fun d xs ys w hx hy=>?_,fun b d xs w hx=>?_⟩
  · have hq:∀ i ∈ List.range len,(do let a ←part e (xs.map fun x=>Value.int .i64 x).toArray (i*m);let b ←part e (ys.map fun x=>Value.int .i64 x).toArray (i*m);Op.equalIn (d+D) e a b:Sem Bool).run P w = .ok (decide (seg xs (i*m) m=seg ys (i*m) m)) w:=fun i hi=>by
      have hi':=List.mem_range.1 hi
      have:(i+1)*m≤len*m:=Nat.mul_le_mul_right _ (by omega)
      rw [Nat.add_mul] at this;exact he.eq d xs ys (i*m) w (by omega) (by omega)
    have hr:=Ty (P:=P) (w:=w) (List.range len) hq
    rw [aEs len (by omega) (by omega),vI hx,vI hy] at hr;unfold ints;rw [show d+(D+1)=(d+D)+1 from rfl,Op.equalIn];simp only [Sem.run_bind,cL hk,zY hse,Result.andThen_ok,Std.Legacy.Range.forIn_eq_forIn_range',Std.Legacy.Range.size];rw [List.range_eq_range'] at hr;simp at hr ⊢;rw [←hr];congr 1;funext a w';cases a with|mk x y=>cases x <;> rfl
  · have hz:(sizeOf e).run P w = .ok m w:=zY hse
    have hq:∀ i ∈ List.range len,(do let s ←sizeOf e;let a ←part e (xs.map fun x=>Value.int .i64 x).toArray (i*s);Instr.checkKey b (d+D) e a:Sem Unit).run P w = .ok () w:=fun i hi=>by
      have hi':=List.mem_range.1 hi
      have:(i+1)*m≤len*m:=Nat.mul_le_mul_right _ (by omega)
      rw [Nat.add_mul] at this;have h9:=he.ck b d xs (i*m) w (by omega);rw [Sem.run_bind,hz,Result.andThen_ok];exact h9
    have hr:=Nu (P:=P) (w:=w) (List.range len) hq
    unfold ints
    rw [show d+(D+1)=(d+D)+1 from rfl,Instr.checkKey];simp only [Sem.run_bind,cL hk,Result.andThen_ok,Std.Legacy.Range.forIn_eq_forIn_range',Std.Legacy.Range.size];rw [List.range_eq_range'] at hr;simp at hr ⊢;exact congrArg (fun r:Result Unit=>r.andThen fun _ w'=>Result.ok () w') hr
inductive FieldsK (P:Program) (D:Nat):Nat→List Field→Nat→Prop
 | nil (off:Nat):FieldsK P D off [] off
 | cons {off n E : Nat} {f : Field} {fs : List Field} (h1 : f.name ≠ "_") (h2 : f.offset = off) (h3 : PartK P f.type n D) (h4 : FieldsK P D (off + n) fs E) : FieldsK P D off (f :: fs) E
theorem FieldsK.le {fs:List Field} {off E:Nat} (h:FieldsK P D off fs E):off≤E:=by
 induction h with
 | nil=>exact Nat.le_refl _
 | cons _ _ _ _ ih=>omega
theorem FieldsK.eqs {fs:List Field} {off E:Nat} (h:FieldsK P D off fs E) (xs ys:List Int) (d:Nat) (hx:E≤xs.length) (hy:E≤ys.length) :
    (forIn (m := Sem) fs ((none, ()) : Option Bool × PUnit) fun f r => if f.name ≠ "_" then do
          let c ←(do let a ←part f.type (xs.map fun x=>Value.int .i64 x).toArray f.offset;let b ←part f.type (ys.map fun x=>Value.int .i64 x).toArray f.offset;Op.equalIn (d+D) f.type a b:Sem Bool)
          if !c then pure (ForInStep.done (some false,())) else pure (ForInStep.yield (none,()))
        else pure (ForInStep.yield (none,()))).run P w = .ok ((if seg xs off (E-off)=seg ys off (E-off) then none else some false,())) w:=by
  induction h with
  | nil off=>simp [seg]
  | @cons off n E f fs h1 h2 h3 h4 ih=>
    have hle:=h4.le
    have h5:=h3.eq d xs ys off w (by omega) (by omega)
    have h6:=ih hx hy
    have h7:=Kx (xs:=xs) (ys:=ys) (off:=off) (n:=n) (m:=E-(off+n)) (by omega) (by omega)
    rw [show n+(E-(off+n))=E-off by omega] at h7;rw [List.forIn_cons,if_pos h1,h2];by_cases hs:seg xs off n=seg ys off n
    · rw [decide_eq_true hs] at h5
      rw [Sem.run_bind,Sem.run_bind,h5,Result.andThen_ok];simp only [Bool.not_true,Bool.false_eq_true,if_false,Sem.run_pure,Result.andThen_ok];rw [h6];by_cases ht:seg xs (off+n) (E-(off+n))=seg ys (off+n) (E-(off+n))
      · rw [if_pos ht,if_pos (h7.2 ⟨hs,ht⟩)]
      · rw [if_neg ht,if_neg (fun h=>ht (h7.1 h).2)]
    · rw [decide_eq_false hs] at h5
      rw [Sem.run_bind,Sem.run_bind,h5,Result.andThen_ok];simp only [Bool.not_false,if_true,Sem.run_pure,Result.andThen_ok];rw [if_neg (fun h=>hs (h7.1 h).1)]
theorem FieldsK.cks {fs:List Field} {off E:Nat} (h:FieldsK P D off fs E) (xs:List Int) (m:Bool) (d:Nat) (hx:E≤xs.length) :
    (forIn (m := Sem) fs () fun f r => if f.name ≠ "_" then do
          (do let a ←part f.type (xs.map fun x=>Value.int .i64 x).toArray f.offset;Instr.checkKey m (d+D) f.type a:Sem Unit)
          pure (ForInStep.yield ())
        else pure (ForInStep.yield ())).run P w = .ok () w:=by
  induction h with
  | nil off=>simp
  | @cons off n E f fs h1 h2 h3 h4 ih=>
    have hle:=h4.le
    have h5:=h3.ck m d xs off w (by omega)
    have h6:=ih hx
    rw [List.forIn_cons,if_pos h1,h2];rw [Sem.run_bind,Sem.run_bind,h5,Result.andThen_ok];simp only [Sem.run_pure,Result.andThen_ok];exact h6
theorem Ex {fs:Array Field} {n:Nat} (hk:P.underlying kt=some (.struct fs)) (hs:Sz P kt n) (hf:FieldsK P D 0 fs.toList n) (hst:P.stoodInHeld kt=false):IntsK P kt n (D+1):=by
  refine ⟨by unfold Agg lP;rw [hk],hs,fun d xs ys w hx hy=>?_,fun b d xs w hx=>?_⟩
  · have hr:=hf.eqs (w:=w) xs ys d (by omega) (by omega)
    rw [Nat.sub_zero,vI hx,vI hy] at hr;have hpg:(program:Sem Program).run P w = .ok P w:=rfl;unfold ints;rw [show d+(D+1)=(d+D)+1 from rfl,Op.equalIn];simp only [Sem.run_bind,cL hk,hpg,hst,Result.andThen_ok];simp at hr ⊢;have hr2:=congrArg (fun r:Result (Option Bool×PUnit)=>r.andThen fun a w'=>Sem.run P (match a.fst with|some r=>pure r|none=>pure true) w') hr;refine Eq.trans ?_ (hr2.trans (by by_cases h:xs=ys <;> simp [h]));refine congrArg _ ?_;funext a w';cases a with|mk x y=>cases x <;> rfl
  · have hr:=hf.cks (w:=w) xs b d (by omega)
    unfold ints
    rw [show d+(D+1)=(d+D)+1 from rfl,Instr.checkKey];simp only [Sem.run_bind,cL hk,Result.andThen_ok];simp at hr ⊢;exact congrArg (fun r:Result Unit=>r.andThen fun _ w'=>Result.ok () w') hr
def KeyN (n:Nat):Type:={ l:List Int // l.length=n }
instance {n:Nat}:DecidableEq (KeyN n):=fun a b=>if h:a.1=b.1 then .isTrue (Subtype.ext h) else .isFalse fun e=>h (congrArg Subtype.val e)
def encN {n:Nat} (k:KeyN n):Value:=ints k.1
theorem Nv (xs:List Int) (d:Nat):Instr.sameBits (d+1) (ints xs) (ints xs)=true:=by
 unfold ints
 rw [Instr.sameBits];simp only [beq_self_eq_true,Bool.true_and];rw [List.all_eq_true];rintro ⟨x,y⟩ h;rw [List.zip_eq_zipWith] at h;simp only [List.zipWith_self,List.mem_map] at h;obtain ⟨v,hv,e⟩:=h;cases e;have hv':x ∈ xs.map fun x=>Value.int .i64 x:=by simpa using hv
 obtain ⟨q,_,rfl⟩:=List.mem_map.1 hv';simp [Instr.sameBits]
theorem Ky {n:Nat} (h:IntsK P kt n D) (hD:D≤100) (hwide:(match P.underlying kt with|some (.array _ _)|some (.struct _)=>true|_=>false)=true):KeyOk P kt (encN (n:=n)):=by
  have heq:∀ (k k':KeyN n) (w:World),(Op.equal kt (encN k) (encN k')).run P w = .ok (decide (k=k')) w:=fun k k' w=>by
    have:=h.eq (10000-D) k.1 k'.1 w k.2 k'.2
    rw [Nat.sub_add_cancel (by omega)] at this;unfold Op.equal Op.maxDepth encN;rw [this];congr 1;exact decide_eq_decide.2 ⟨fun h=>Subtype.ext h,fun h=>congrArg Subtype.val h⟩
  refine ⟨fun l k es w he=>?_,fun m k w=>?_,fun k=>Nv _ _⟩
  · rw [run_findKey_eq w hwide]
    exact Kv heq k l es 0 he
  · have:=h.ck m (10000-D) k.1 w k.2
    rw [Nat.sub_add_cancel (by omega)] at this;exact this
end
structure Unt where
 mach:Int
 every:Int
 seen:Int
 rates:List (Int×Int)
 RA:Option Addr
 rc:Nat
 worn:Int
 turns:Int
 age:Int
 uses:List Use
 UA:Option Addr
 uc:Nat
 old:Int
 tn:Int
 cl:Int
 kind:Int
def aJk:Unt:=⟨0,0,0,[],none,0,0,0,0,[],none,0,0,0,0,0⟩
def Unt.cell (u:Unt):Nat→Value
 | 0 => .int .i64 u.mach
 | 1 => .int .i64 u.every
 | 2 => .int .i64 u.seen
 | 3 => .slice u.RA u.rates.length u.rc
 | 4 => .int .i64 u.worn
 | 5 => .int .i64 u.turns
 | 6 => .int .i64 u.age
 | 7 => .slice u.UA u.uses.length u.uc
 | 8 => .int .i64 u.old
 | 9 => .int .i64 u.tn
 | 10 => .int .i64 u.cl
 | _ => .int .i64 u.kind
def vcell (l:List Unt) (k j:Nat):Value:=(l.getD k aJk).cell j
def Unt.part (u:Unt):Part:=⟨u.rates,u.worn,u.turns,u.age⟩
def Unt.same (u v:Unt):Prop:=v={ u with RA:=v.RA,rc:=v.rc,UA:=v.UA,uc:=v.uc }
structure Spr where
 day:Int
 kind:Int
 many:Int
def aJs:Spr:=⟨0,0,0⟩
def Spr.cell (s:Spr):Nat→Value
 | 0 => .int .i64 s.day
 | 1 => .int .i64 s.kind
 | _ => .int .i64 s.many
def lB (l:List Spr) (k j:Nat):Value:=(l.getD k aJs).cell j
structure Tsk where
 day:Int
 unit:Int
 kind:Int
deriving instance DecidableEq for Tsk
def aJl:Tsk:=⟨0,0,0⟩
def Tsk.cell (t:Tsk):Nat→Value
 | 0 => .int .i64 t.day
 | 1 => .int .i64 t.unit
 | _ => .int .i64 t.kind
def aZ (l:List Tsk) (k j:Nat):Value:=(l.getD k aJl).cell j
structure Yr where
 days:Int
 pl:Int
 ps:List Psg
 PA:Option Addr
 pc:Nat
 xs:List Int
 XA:Option Addr
 xc:Nat
 pe:List Int
 BA:Option Addr
 bc:Nat
 limit:Int
 help:Bool
 prs:List Prm
 QA:Option Addr
 qc:Nat
 us:List Unt
 VA:Option Addr
 vc:Nat
 crew:Int
 sps:List Spr
 SA:Option Addr
 sc:Nat
def Yr.cells (y:Yr):List Value:=[.int .i64 y.days,.int .i64 y.pl,.slice y.PA y.ps.length y.pc,.slice y.XA y.xs.length y.xc,.slice y.BA y.pe.length y.bc,.int .i64 y.limit,.bool y.help,.slice y.QA y.prs.length y.qc,.slice y.VA y.us.length y.vc,.int .i64 y.crew,.slice y.SA y.sps.length y.sc]
abbrev Yr.st (y:Yr):Value := .agg [.int .i64 y.pl,.slice y.PA y.ps.length y.pc,.slice y.XA y.xs.length y.xc].toArray
abbrev Yr.u (y:Yr) (k:Nat):Unt:=y.us.getD k aJk
structure YIn (w:World) (F:Nat→Prop) (y:Yr):Prop where
 ps:InS w F 7 y.PA y.ps.length (pcell y.ps)
 xs:InS w F 1 y.XA y.xs.length (icl y.xs)
 pe:InS w F 1 y.BA y.pe.length (icl y.pe)
 prs:InS w F 5 y.QA y.prs.length (dM y.prs)
 us:InS w F 12 y.VA y.us.length (vcell y.us)
 sps:InS w F 3 y.SA y.sps.length (lB y.sps)
 rt:∀ k,k<y.us.length→InS w F 2 (y.us.getD k aJk).RA (y.us.getD k aJk).rates.length (scell (y.us.getD k aJk).rates)
 ul:∀ k,k<y.us.length→InS w F 6 (y.us.getD k aJk).UA (y.us.getD k aJk).uses.length (ucell (y.us.getD k aJk).uses)
structure YBd (y:Yr):Prop where
 ps:y.ps.length*56≤140737488351232
 xs:y.xs.length*8≤140737488351232
 pe:y.pe.length*8≤140737488351232
 prs:y.prs.length*40≤140737488351232
 us:y.us.length*120≤140737488351232
 sps:y.sps.length*24≤140737488351232
 rt:∀ k,k<y.us.length→(y.us.getD k aJk).rates.length*16≤140737488351232
 ul:∀ k,k<y.us.length→(y.us.getD k aJk).uses.length*48≤140737488351232
 cap:∀ k,k<y.us.length→(y.us.getD k aJk).uses.length≤(y.us.getD k aJk).uc
section
variable {w w0:World} {F F0:Nat→Prop} {R:List Mem} {y:Yr}
theorem YIn.now (h:YIn w0 F0 y) (S:St w0 F0 R w):YIn w noF y:=
 ⟨h.ps.now S,h.xs.now S,h.pe.now S,h.prs.now S,h.us.now S,h.sps.now S,fun k hk=>(h.rt k hk).now S,fun k hk=>(h.ul k hk).now S⟩
theorem YBd.psn (h:YBd y):y.ps.length≤9223372036854775807:=by have:=h.ps;omega
theorem YBd.xsn (h:YBd y):y.xs.length≤9223372036854775807:=by have:=h.xs;omega
theorem YBd.pen (h:YBd y):y.pe.length≤9223372036854775807:=by have:=h.pe;omega
theorem YBd.prn (h:YBd y):y.prs.length≤9223372036854775807:=by have:=h.prs;omega
theorem YBd.usn (h:YBd y):y.us.length≤9223372036854775807:=by have:=h.us;omega
theorem YBd.spn (h:YBd y):y.sps.length≤9223372036854775807:=by have:=h.sps;omega
theorem YBd.rtn (h:YBd y) {k:Nat} (hk:k<y.us.length):(y.us.getD k aJk).rates.length≤9223372036854775807:=by have:=h.rt k hk;omega
theorem YBd.uln (h:YBd y) {k:Nat} (hk:k<y.us.length):(y.us.getD k aJk).uses.length≤9223372036854775807:=by have:=h.ul k hk;omega
end
def untI (u:Unt):Prop:=(1≤u.every∧u.every≤20)∧(-20≤u.seen∧u.seen≤0)∧(0≤u.kind∧u.kind≤3)∧u.uses.length≤20∧(prevD u.uses u.uses.length≤u.old∧u.old≤99980)∧(0≤u.tn∧u.tn≤1000000)∧(0≤u.cl∧u.cl≤(u.rates.length:Int)-1)
instance (u:Unt):Decidable (untI u):=by unfold untI;exact inferInstance
def freeN (ps:List Psg) (us:List Unt) (n i:Nat) (m:Int):Bool:=!allN (fun k=>!(decide (0≤(ps.getD k aJj).mach)&&decide ((ps.getD k aJj).mach=m))) n&&allN (fun k=>!decide ((us.getD k aJk).mach=m)) i
def freeM (ps:List Psg) (us:List Unt) (i:Nat) (m:Int):Bool:=freeN ps us ps.length i m
noncomputable def untU (ps:List Psg) (us:List Unt) (i:Nat) (u:Unt):Bool:=freeM ps us i u.mach&&(decide (untI u)&&decide (wearE u.part u.uses=0))
noncomputable def untB (ps:List Psg) (us:List Unt) (i:Nat):Bool:=untU ps us i (us.getD i aJk)
def sprB (days:Int) (s:Spr):Bool:=decide ((0≤s.day∧s.day≤days-1)∧(0≤s.kind∧s.kind≤3)∧(1≤s.many∧s.many≤8))
def yrI (y:Yr):Prop:=(1≤y.days∧y.days≤20)∧((y.pe.length:Int)=y.pl∧∀ k,k<y.pe.length→0≤y.pe.getD k 0∧y.pe.getD k 0≤1000)∧(0≤y.limit∧y.limit≤60)∧(0≤y.crew∧y.crew≤8)∧y.sps.length≤20∧∀ k,k<y.sps.length→sprB y.days (y.sps.getD k aJs)=true
open Classical in
noncomputable def yearE (y:Yr):Int:=if keptE y.pl y.ps y.xs [] y.prs≠0 then keptE y.pl y.ps y.xs [] y.prs else if ¬ yrI y then 120 else if 6<y.us.length then 2 else if allN (untB y.ps y.us) y.us.length=true then 0 else 121
def befB (a b:Tsk):Bool:=if a.day≠b.day then decide (a.day<b.day) else if a.unit≠b.unit then decide (a.unit<b.unit) else decide (a.kind<b.kind)
def tskB (y:Yr) (l:List Tsk) (i:Nat):Bool:=decide ((0≤(l.getD i aJl).day∧(l.getD i aJl).day≤y.days-1)∧(0≤(l.getD i aJl).unit∧(l.getD i aJl).unit≤(y.us.length:Int)-1)∧(1≤(l.getD i aJl).kind∧(l.getD i aJl).kind≤2))&&(decide (i=0)||befB (l.getD (i-1) aJl) (l.getD i aJl))
noncomputable def taskE (y:Yr) (l:List Tsk):Int:=if yearE y≠0 then yearE y else if 60<l.length then 2 else if allN (tskB y l) l.length=true then 0 else 122
structure YOk (y:Yr):Prop where
 kept:keptE y.pl y.ps y.xs [] y.prs=0
 yr:yrI y
 many:y.us.length≤6
 un:∀ k,k<y.us.length→untB y.ps y.us k=true
section
variable {y:Yr} {l:List Tsk} {i k:Nat} {ps:List Psg} {us:List Unt}
theorem qU (h:keptE y.pl y.ps y.xs [] y.prs≠0):yearE y=keptE y.pl y.ps y.xs [] y.prs:=by unfold yearE;rw [if_pos h]
theorem sH (h:keptE y.pl y.ps y.xs [] y.prs=0) (h1:¬ yrI y):yearE y=120:=by unfold yearE;rw [if_neg (by omega),if_pos h1]
theorem xX (h:keptE y.pl y.ps y.xs [] y.prs=0) (h1:yrI y) (h2:6<y.us.length):yearE y=2:=by unfold yearE;rw [if_neg (by omega),if_neg (fun h=>h h1),if_pos h2]
theorem xY (h:keptE y.pl y.ps y.xs [] y.prs=0) (h1:yrI y) (h2:¬ 6<y.us.length) (hk:k<y.us.length) (h3:untB y.ps y.us k=false):yearE y=121:=by
 unfold yearE;rw [if_neg (by omega),if_neg (fun h=>h h1),if_neg h2,if_neg]
 rw [bS];intro h4;rw [h4 k hk] at h3;cases h3
theorem xZ (h:keptE y.pl y.ps y.xs [] y.prs=0) (h1:yrI y) (h2:¬ 6<y.us.length) (h3:allN (untB y.ps y.us) y.us.length=true):yearE y=0:=by
 unfold yearE;rw [if_neg (by omega),if_neg (fun h=>h h1),if_neg h2,if_pos h3]
theorem nN (h:yearE y=0):YOk y:=by
  unfold yearE at h
  split at h
  · omega
  · split at h
    · cases h
    · split at h
      · cases h
      · split at h
        · rename_i h1 h2 h3 h4
          exact ⟨by omega,Classical.not_not.1 h2,by omega,bS.1 h4⟩
        · cases h
theorem yA (h:yearE y≠0):taskE y l=yearE y:=by unfold taskE;rw [if_pos h]
theorem yB (h:yearE y=0) (h1:60<l.length):taskE y l=2:=by unfold taskE;rw [if_neg (by omega),if_pos h1]
theorem iK (h:yearE y=0) (h1:¬ 60<l.length) (hi:i<l.length) (h2:tskB y l i=false):taskE y l=122:=by
 unfold taskE;rw [if_neg (by omega),if_neg h1,if_neg]
 rw [bS];intro h4;rw [h4 i hi] at h2;cases h2
theorem mP (h:yearE y=0) (h1:¬ 60<l.length) (h2:allN (tskB y l) l.length=true):taskE y l=0:=by unfold taskE;rw [if_neg (by omega),if_neg h1,if_pos h2]
theorem pN (h:taskE y l=0):yearE y=0∧l.length≤60∧∀ k,k<l.length→tskB y l k=true:=by
  unfold taskE at h
  split at h
  · omega
  · split at h
    · cases h
    · split at h
      · rename_i h1 h2 h3
        exact ⟨by omega,by omega,bS.1 h3⟩
      · cases h
theorem yC (h:tskB y l i=true):(0≤(l.getD i aJl).day∧(l.getD i aJl).day≤y.days-1)∧(0≤(l.getD i aJl).unit∧(l.getD i aJl).unit≤(y.us.length:Int)-1)∧(1≤(l.getD i aJl).kind∧(l.getD i aJl).kind≤2):=by
 unfold tskB at h
 rw [Bool.and_eq_true] at h;exact of_decide_eq_true h.1
theorem Kz (h:tskB y l i=true) (hi:0<i):befB (l.getD (i-1) aJl) (l.getD i aJl)=true:=by
 unfold tskB at h
 rw [Bool.and_eq_true,Bool.or_eq_true] at h;rcases h.2 with h|h
 ·have:=of_decide_eq_true h;omega
 ·exact h
theorem tP {m:Int}:freeM ps us i m=true↔(∃ k,k<ps.length∧0≤(ps.getD k aJj).mach∧(ps.getD k aJj).mach=m)∧∀ k,k<i→(us.getD k aJk).mach≠m:=by
  unfold freeM freeN
  rw [Bool.and_eq_true,Bool.not_eq_true',←Bool.not_eq_true,bS,bS];constructor
  · rintro ⟨h1,h2⟩
    refine ⟨Classical.byContradiction fun h3=>h1 fun k hk=>?_,fun k hk=>?_⟩
    · rw [Bool.not_eq_true',←Bool.not_eq_true,Bool.and_eq_true,decide_eq_true_eq,decide_eq_true_eq]
      exact fun h4=>h3 ⟨k,hk,h4⟩
    · have:=h2 k hk
      rw [Bool.not_eq_true'] at this;exact of_decide_eq_false this
  · rintro ⟨⟨k,hk,h1⟩,h2⟩
    refine ⟨fun h3=>?_,fun k hk=>by rw [decide_eq_false (h2 k hk)];rfl⟩
    have:=h3 k hk
    rw [decide_eq_true h1.1,decide_eq_true h1.2] at this;cases this
structure UntOk (ps:List Psg) (us:List Unt) (u:Unt) (i:Nat):Prop where
 free:freeM ps us i u.mach=true
 i:untI u
 wear:wearE u.part u.uses=0
theorem yD {u:Unt}:untU ps us i u=true↔UntOk ps us u i:=by
 unfold untU
 rw [Bool.and_eq_true,Bool.and_eq_true,decide_eq_true_eq,decide_eq_true_eq];exact ⟨fun h=>⟨h.1,h.2.1,h.2.2⟩,fun h=>⟨h.free,h.i,h.wear⟩⟩
theorem jY:untB ps us i=true↔UntOk ps us (us.getD i aJk) i:=yD
theorem Ey {u:Unt} (h:¬ UntOk ps us u i):untU ps us i u=false:=by rw [←Bool.not_eq_true,yD];exact h
def macP (ps:List Psg) (us:List Unt) (n i:Nat) (h:Int→Option Value):Prop:=∀ m,(h m).getD (.bool false) = .bool (freeN ps us n i m)
theorem Nw:macP ps us 0 0 (fun _=>none):=fun m=>rfl
theorem Ez {n:Nat} {m:Int}:freeN ps us (n+1) 0 m=(freeN ps us n 0 m||(decide (0≤(ps.getD n aJj).mach)&&decide ((ps.getD n aJj).mach=m))):=by
 unfold freeN
 simp only [allN,Bool.and_true,Bool.not_and,Bool.not_not,Bool.not_or]
theorem Zz {n:Nat} (hd:∀ j,j<n→0≤(ps.getD n aJj).mach→(ps.getD j aJj).mach≠(ps.getD n aJj).mach) (hn:∀ j,j<n→(ps.getD n aJj).mach<0→(ps.getD j aJj).mach=(ps.getD n aJj).mach→(ps.getD j aJj).mach<0) :
    ∀ h,macP ps us n 0 h→macP ps us (n+1) 0 (fun k'=>if k'=(ps.getD n aJj).mach then some (.bool (decide (0≤(ps.getD n aJj).mach))) else h k'):=fun h hh m=>by
  dsimp only;rw [Ez];by_cases e:m=(ps.getD n aJj).mach
  · subst e
    rw [if_pos rfl,decide_eq_true (p:=(ps.getD n aJj).mach=(ps.getD n aJj).mach) rfl,Bool.and_true];by_cases h0:0≤(ps.getD n aJj).mach
    · rw [decide_eq_true h0,Bool.or_true];rfl
    · rw [decide_eq_false h0,Bool.or_false]
      have:freeN ps us n 0 (ps.getD n aJj).mach=false:=by
        unfold freeN
        rw [Bool.and_eq_false_iff];left;rw [Bool.not_eq_false',bS];intro k hk;rw [Bool.not_eq_true',Bool.and_eq_false_iff,decide_eq_false_iff_not,decide_eq_false_iff_not];by_cases e2:(ps.getD k aJj).mach=(ps.getD n aJj).mach
        · left;omega
        · exact .inr e2
      rw [this];rfl
  · rw [if_neg e,decide_eq_false (p:=(ps.getD n aJj).mach=m) (fun h=>e h.symm),Bool.and_false,Bool.or_false]
    exact hh m
theorem aAa {i:Nat}:∀ h,macP ps us ps.length i h→macP ps us ps.length (i+1) (fun k'=>if k'=(us.getD i aJk).mach then some (.bool false) else h k'):=fun h hh m=>by
  dsimp only
  have e0:freeN ps us ps.length (i+1) m=(freeN ps us ps.length i m&&!decide ((us.getD i aJk).mach=m)):=by
    unfold freeN
    show (_&&(allN _ i&&_))=_
    rw [Bool.and_assoc]
  rw [e0];by_cases e:m=(us.getD i aJk).mach
  · subst e
    rw [if_pos rfl,decide_eq_true rfl,Bool.not_true,Bool.and_false];rfl
  · rw [if_neg e,decide_eq_false (fun h=>e h.symm),Bool.not_false,Bool.and_true]
    exact hh m
theorem Fa (h:¬ UntOk ps us (us.getD i aJk) i):untB ps us i=false:=by rw [←Bool.not_eq_true,jY];exact h
end
def bsum (f:Nat→Bool):Nat→Int
 | 0=>0
 | n+1=>bsum f n+if f n=true then 2^n else 0
theorem sJ (n:Nat):(0:Int)<2^n:=Int.pow_pos (by decide)
theorem vJ (f:Nat→Bool):∀ n,0≤bsum f n∧bsum f n<2^n:=by
  intro n;induction n with
  | zero=>exact ⟨Int.le_refl 0,(by decide:(0:Int)<2^0)⟩
  | succ n ih=>
    have h:=sJ n
    rw [bsum,Int.pow_succ];split <;> omega
theorem aAb {x:Int} {n:Nat} (h0:0≤x) (h1:x<2^n):x/2^n%2=0∧(x+2^n)/2^n%2=1:=by
 have hp:=sJ n
 have e1:x/2^n=0:=Int.ediv_eq_zero_of_lt h0 h1
 refine ⟨by rw [e1];rfl,?_⟩
 have e2:(x+2^n)/2^n=x/2^n+1:=by
  have:=Int.add_mul_ediv_right x 1 (show (2:Int)^n≠0 by omega)
  rw [Int.one_mul] at this;exact this
 rw [e2,e1];rfl
theorem aAc {x:Int} {n d:Nat} (hd:d<n):(x+2^n)/2^d%2=x/2^d%2:=by
 have hp:=sJ d
 have e:(2:Int)^n=(2^(n-d-1)*2)*2^d:=by
  rw [←Int.pow_succ,←Int.pow_add];congr 1;omega
 rw [e,Int.add_mul_ediv_right _ _ (by omega)];omega
theorem yE {f:Nat→Bool}:∀ {n d:Nat},d<n→bsum f n/2^d%2=if f d=true then 1 else 0:=by
  intro n;induction n with
  | zero=>intro d h;omega
  | succ n ih=>
    intro d hd;have hb:=vJ f n;rw [bsum];by_cases e:d=n
    · subst e
      have h:=aAb hb.1 hb.2
      split
      · exact h.2
      · rw [Int.add_zero];exact h.1
    · split
      · rw [aAc (by omega)];exact ih (by omega)
      · rw [Int.add_zero];exact ih (by omega)
theorem La {f:Nat→Bool} {n d:Nat} (h:n≤d):bsum f n/2^d%2=0:=by
 have hb:=vJ f n
 have hp:(2:Int)^n≤2^d:=by
  have h1:2^n≤2^d:=Nat.pow_le_pow_right (by decide) h
  exact_mod_cast h1
 rw [Int.ediv_eq_zero_of_lt hb.1 (by omega)];rfl
theorem zZ (f:Nat→Bool) {n:Nat} (h:n≤39):0≤bsum f n∧bsum f n<2^40:=by
 have hb:=vJ f n
 have hp:(2:Int)^n≤2^39:=by
  have h1:2^n≤2^39:=Nat.pow_le_pow_right (by decide) h
  exact_mod_cast h1
 omega
theorem Ii {d:Nat} (h:d≤39):i64ok (1*2^((d:Nat):Int).toNat):=by
 have hp:(2:Int)^d≤2^39:=by
  have h1:2^d≤2^39:=Nat.pow_le_pow_right (by decide) h
  exact_mod_cast h1
 have h0:=sJ d
 rw [Int.toNat_natCast];unfold i64ok;omega
theorem Tz {f:Nat→Bool} {n:Nat} (h:f n=true):bsum f n+2^((n:Nat):Int).toNat=bsum f (n+1):=by rw [bsum,if_pos h];rfl
theorem Ua {f:Nat→Bool} {n:Nat} (h:f n=false):bsum f n=bsum f (n+1):=by rw [bsum,if_neg (by rw [h];simp),Int.add_zero]
theorem qV {f g:Nat→Bool}:∀ {n:Nat},(∀ i,i<n→f i=g i)→bsum f n=bsum g n:=by
 intro n;induction n with
 | zero=>intro _;rfl
 | succ n ih=>intro h;rw [bsum,bsum,ih fun i hi=>h i (by omega),h n (by omega)]
theorem aAd {m k:Nat} (hm:m<2^40) (hk:k<40) (h:m/2^k%2=0):IntKind.i64.wrap ((BitVec.ofInt 64 (m:Int) ||| BitVec.ofInt 64 ((2^k:Nat):Int)).toNat:Int)=((m+2^k:Nat):Int):=by
 have hp:2^k≤2^39:=Nat.pow_le_pow_right (by omega) (by omega)
 have e:((BitVec.ofInt 64 (m:Int) ||| BitVec.ofInt 64 ((2^k:Nat):Int)).toNat)=m+2^k:=by
  rw [BitVec.toNat_or,BitVec.ofInt_natCast,BitVec.ofInt_natCast,BitVec.toNat_ofNat,BitVec.toNat_ofNat,Nat.mod_eq_of_lt (by omega),Nat.mod_eq_of_lt (by omega)];exact aDs h
 rw [e];exact i64ok.eq ⟨by omega,by omega⟩
section
variable {P:Program} {L:List (Nat×Value)} {w:World} {d:Option Nat} {ty:TypeId} {pos:String} {af:Array Edge} {g:Option (Nat×Bool)}
theorem yF {x y:Operand} {xt yt:TypeId} {m k:Int} (hx:ev L x=some (.int .i64 m)) (hy:ev L y=some (.int .i64 (1*2^k.toNat))) (hm:0≤m∧m<2^40) (hk:0≤k∧k<40) (h:m/2^k.toNat%2=0) :
  Does P L ⟨d,.binOp .or xt x y yt,ty,pos,af,g⟩ w (.int .i64 (m+2^k.toNat)):=fun ρ hρ=>by
 obtain ⟨m,rfl⟩:∃ n:Nat,m=n:=⟨m.toNat,by omega⟩;have e1:(1:Int)*2^k.toNat=((2^k.toNat:Nat):Int):=by push_cast;omega
 have h1:m/2^k.toNat%2=0:=by
  have h2:((m/2^k.toNat%2:Nat):Int)=0:=by push_cast;exact h
  omega
 have e2:(m:Int)+2^k.toNat=((m+2^k.toNat:Nat):Int):=by push_cast;rfl
 have e:Op.intBits .or .i64 (m:Int) (1*2^k.toNat)=pure (.int .i64 ((m:Int)+2^k.toNat)):=by
  rw [e1,e2];exact congrArg (fun z=>(pure (Value.int .i64 z):Sem Value)) (aAd (by have:=hm.2;omega) (by omega) h1)
 rw [Int.one_mul] at e;simp [execOp,hρ _ _ hx,hρ _ _ hy,eqGuard,binOp,e]
end
structure LSt where
 uses:List Use
 born:Int
 seen:Int
def insp (j:Int):Bool:=decide (j/2^(1:Int).toNat%2=1)
def renw (j:Int):Bool:=decide (j/2^(2:Int).toNat%2=1)
def useAt (u:Unt) (d born:Int):Use:=⟨d-born,u.tn,u.cl,false,0,0⟩
noncomputable def bydB (p:Part) (l:List Use):Bool:=!decide ((bM p l Prod.snd).2=0)||decide (0≤(bM p l Prod.snd).1)
def seenN (s:LSt) (j:Int) (d:Nat):Int:=if insp j=true then (d:Int) else s.seen
def certN (u:Unt) (s:LSt) (j:Int) (d:Nat):Bool:=decide ((d:Int)-seenN s j d≤u.every)
noncomputable def runN (u:Unt) (s:LSt) (j:Int) (d:Nat):Bool:=(decide (j=0)&&certN u s j d)&&!bydB u.part (s.uses++[useAt u d s.born])
noncomputable def stepL (u:Unt) (s:LSt) (j:Int) (d:Nat):LSt:=⟨if renw j=true then [] else if runN u s j d=true then s.uses++[useAt u d s.born] else s.uses,if renw j=true then (d:Int) else s.born,seenN s j d⟩
noncomputable def lifeS (u:Unt) (J:Nat→Int):Nat→LSt
 | 0=>⟨u.uses,-u.old,u.seen⟩
 | d+1=>stepL u (lifeS u J d) (J d) d
noncomputable def certB (u:Unt) (J:Nat→Int) (d:Nat):Bool:=certN u (lifeS u J d) (J d) d
noncomputable def runB' (u:Unt) (J:Nat→Int) (d:Nat):Bool:=runN u (lifeS u J d) (J d) d
section
variable {u:Unt} {J J':Nat→Int} {d n:Nat}
theorem Aa:∀ d,(lifeS u J d).uses.length≤u.uses.length+d:=by
  intro d;induction d with
  | zero=>exact Nat.le_refl _
  | succ d ih=>
    show (stepL u (lifeS u J d) (J d) d).uses.length≤_
    unfold stepL
    dsimp only;split
    · simp
    · split
      · rw [List.length_append];show _+1≤_;omega
      · omega
theorem yG (ho:0≤u.old∧u.old≤99980):∀ d,-99980≤(lifeS u J d).born∧(lifeS u J d).born≤d:=by
  intro d;induction d with
  | zero=>exact ⟨by show -99980 ≤ -u.old;omega,by show -u.old≤((0:Nat):Int);omega⟩
  | succ d ih=>
    show -99980≤(stepL u (lifeS u J d) (J d) d).born∧(stepL u (lifeS u J d) (J d) d).born≤((d+1:Nat):Int)
    unfold stepL
    dsimp only;split <;> omega
theorem Fb {s:LSt} {j:Int} (h : -20≤s.seen∧s.seen≤d) : -20≤seenN s j d∧seenN s j d≤d:=by
 unfold seenN
 split <;> omega
theorem Ij (ho : -20≤u.seen∧u.seen≤0):∀ d:Nat,-20≤(lifeS u J d).seen∧(lifeS u J d).seen≤d:=by
  intro d;induction d with
  | zero=>exact ⟨ho.1,ho.2⟩
  | succ d ih=>
    have h:=Fb (j:=J d) ih
    show -20≤seenN (lifeS u J d) (J d) d∧seenN (lifeS u J d) (J d) d≤((d+1:Nat):Int)
    omega
theorem uL:∀ d,(∀ i,i<d→J i=J' i)→lifeS u J d=lifeS u J' d:=by
 intro d;induction d with
 | zero=>intro _;rfl
 | succ d ih=>intro h;rw [lifeS,lifeS,ih fun i hi=>h i (by omega),h d (by omega)]
theorem yH (h:∀ i,i≤d→J i=J' i):runB' u J d=runB' u J' d:=by unfold runB';rw [uL d fun i hi=>h i (by omega),h d (Nat.le_refl d)]
theorem Fc (h:∀ i,i≤d→J i=J' i):certB u J d=certB u J' d:=by unfold certB;rw [uL d fun i hi=>h i (by omega),h d (Nat.le_refl d)]
end
theorem aAe {w w0:World} {F0:Nat→Prop} {R:List Mem} {i b ty n:Nat} {f:Nat→Value} (S:St w0 F0 R w) (hi:R[i]?=some (boxM b ty ((List.range n).map f))) (hn:n≤maxLen):St w0 F0 (R.set i (ownM ty 1 (some ⟨b,0,none⟩) n n (fun k _=>f k))) w:=by
 refine S.imp hi (fun h => .inr ⟨b,_,rfl,h,Nat.le_refl _,hn,by simp,fun k j hk hj=>?_⟩) (fun k hk=>by obtain ⟨a,e,h⟩:=hk;cases e;exact h.symm)
 have:j=0:=by omega
 subst this;simp [hk]
theorem Lb (u:Unt) (J:Nat→Int) (d:Nat) (x:Int) (h:x=seenN (lifeS u J d) (J d) d):((decide (J d=0)&&decide ((d:Int)-x≤u.every))&&!bydB u.part ((lifeS u J d).uses++[⟨(d:Int)-(lifeS u J d).born,u.tn,u.cl,false,0,0⟩]))=runB' u J d:=by subst h;rfl
theorem Fd (u:Unt) (J:Nat→Int) (d:Nat) (x:Int) (h:x=seenN (lifeS u J d) (J d) d):decide ((d:Int)-x≤u.every)=certB u J d:=by subst h;rfl
noncomputable def usesN (u:Unt) (J:Nat→Int) (d:Nat):List Use:=if runB' u J d=true then (lifeS u J d).uses++[useAt u d (lifeS u J d).born] else (lifeS u J d).uses
theorem Ub {u:Unt} {J:Nat→Int} {d:Nat} {x:Int} (h:renw (J d)=true) (hx:x=seenN (lifeS u J d) (J d) d):(⟨[],(d:Int),x⟩:LSt)=lifeS u J (d+1):=by
 subst hx;show _=stepL u (lifeS u J d) (J d) d;unfold stepL;simp only [h,if_true]
theorem Uc {u:Unt} {J:Nat→Int} {d:Nat} {x:Int} (h:renw (J d)=false) (hx:x=seenN (lifeS u J d) (J d) d):(⟨usesN u J d,(lifeS u J d).born,x⟩:LSt)=lifeS u J (d+1):=by
 subst hx;show _=stepL u (lifeS u J d) (J d) d;unfold stepL usesN;simp only [h,Bool.false_eq_true,if_false];rfl
theorem vK {u:Unt} {J:Nat→Int} {d:Nat} (h:runB' u J d=true):usesN u J d=(lifeS u J d).uses++[useAt u d (lifeS u J d).born]:=if_pos h
theorem vL {u:Unt} {J:Nat→Int} {d:Nat} (h:runB' u J d=false):usesN u J d=(lifeS u J d).uses:=if_neg (by rw [h];simp)
def hasT (l:List Tsk) (d u k:Int):Bool:=l.any fun t=>decide (t.day=d∧t.unit=u∧t.kind=k)
def jobV (l:List Tsk) (u d:Int):Int:=(if hasT l d u 1=true then 2 else 0)+(if hasT l d u 2=true then 4 else 0)
theorem Ab {l:List Tsk} {u d:Int}:insp (jobV l u d)=hasT l d u 1:=by
 unfold insp jobV
 cases hasT l d u 1 <;> cases hasT l d u 2 <;> decide
theorem jobV_renw {l:List Tsk} {u d:Int}:renw (jobV l u d)=hasT l d u 2:=by
 unfold renw jobV
 cases hasT l d u 1 <;> cases hasT l d u 2 <;> decide
theorem Nx {l:List Tsk} {u d:Int}:decide (jobV l u d=0)=(!hasT l d u 1&&!hasT l d u 2):=by
 unfold jobV
 cases hasT l d u 1 <;> cases hasT l d u 2 <;> decide
theorem aAf (l:List Tsk) (u d:Int):0≤jobV l u d∧jobV l u d≤6:=by
 unfold jobV
 cases hasT l d u 1 <;> cases hasT l d u 2 <;> decide
theorem Fe (l m:List Tsk) (d u k:Int):hasT (l++m) d u k=(hasT l d u k||hasT m d u k):=by unfold hasT;rw [List.any_append]
def jobF (l:List Tsk) (u:Nat):Nat→Int:=fun d=>jobV l u d
noncomputable def runsY (y:Yr) (l:List Tsk) (i d:Nat):Bool:=runB' (y.us.getD i aJk) (jobF l i) d
noncomputable def certY (y:Yr) (l:List Tsk) (i d:Nat):Bool:=certB (y.us.getD i aJk) (jobF l i) d
noncomputable def outY (y:Yr) (l:List Tsk) (d:Nat):Nat→Int
 | 0=>0
 | i+1=>outY y l d i+if runsY y l i d=true then 0 else 2^(y.us.getD i aJk).mach.toNat
def frzM (B:Nat→Prop) (wz:World):Mem where
 fp:=B
 holds:=fun w=>∀ k,B k→w.heap[k]?=wz.heap[k]?
 stable:=fun _ _ h h' k hk=>(h k hk).trans (h' k hk)
def RdF (w0:World) (F0 B:Nat→Prop) (wz:World) (sz:Nat) (A:Option Addr) (n:Nat) (cell:Nat→Nat→Value):Prop:=
 0<n→∃ b o,A=some ⟨b,o,none⟩∧((b<w0.heap.size∧¬ F0 b∧∀ k j,k<n→j<sz→w0.cell? ⟨b,o+k*sz+j,none⟩=some (cell k j))∨(B b∧b<wz.heap.size∧∀ k j,k<n→j<sz→wz.cell? ⟨b,o+k*sz+j,none⟩=some (cell k j)))
section
variable {w w0 wz:World} {F0 B:Nat→Prop} {R:List Mem} {sz n c i:Nat} {A:Option Addr} {cell:Nat→Nat→Value} {e:TypeId}
theorem RdF.base (h:InS w0 F0 sz A n cell):RdF w0 F0 B wz sz A n cell:=fun hn=>by
 obtain ⟨b,o,e,h1,h2,h3⟩:=h hn;exact ⟨b,o,e,.inl ⟨h1,h2,h3⟩⟩
theorem RdF.nil:RdF w0 F0 B wz sz A 0 cell:=fun hn=>absurd hn (Nat.lt_irrefl 0)
theorem RdF.now (h:RdF w0 F0 B wz sz A n cell) (S:St w0 F0 R w) (hi:R[i]?=some (frzM B wz)):InS w noF sz A n cell:=fun hn=>by
  obtain ⟨b,o,e,h⟩:=h hn;rcases h with ⟨h1,h2,h3⟩|⟨h1,h2,h3⟩
  · refine ⟨b,o,e,Nat.lt_of_lt_of_le h1 S.size,fun h=>h,fun k j hk hj=>?_⟩
    rw [←h3 k j hk hj];exact World.cell?_of_block (w:=w0) (S.ro b h1 h2)
  · refine ⟨b,o,e,(S.inn _ (List.mem_of_getElem? hi) b h1).1,fun h=>h,fun k j hk hj=>?_⟩
    rw [←h3 k j hk hj];exact World.cell?_of_block (w:=wz) (S.holds hi b h1)
theorem St.frz0 (S:St w0 F0 R w):St w0 F0 (frzM noF w::R) w:=S.new (Keeps.refl _ _) (fun _ h=>h.elim) (fun _ h=>h.elim)
theorem RdF.grow {B':Nat→Prop} (h:RdF w0 F0 B wz sz A n cell) (S:St w0 F0 R w) (hi:R[i]?=some (frzM B wz)) (hB:∀ k,B k→B' k):RdF w0 F0 B' w sz A n cell:=fun hn=>by
  obtain ⟨b,o,e,h⟩:=h hn;rcases h with h|⟨h1,h2,h3⟩
  · exact ⟨b,o,e,.inl h⟩
  · refine ⟨b,o,e,.inr ⟨hB b h1,(S.inn _ (List.mem_of_getElem? hi) b h1).1,fun k j hk hj=>?_⟩⟩
    rw [←h3 k j hk hj];exact World.cell?_of_block (w:=wz) (S.holds hi b h1)
theorem St.freeze (S:St w0 F0 (ownM e sz A n c cell::R) w) (hi:R[i]?=some (frzM B wz)) :
    ∃ B',St w0 F0 (R.set i (frzM B' w)) w∧RdF w0 F0 B' w sz A n cell∧∀ sz' A' n' cell',RdF w0 F0 B wz sz' A' n' cell'→RdF w0 F0 B' w sz' A' n' cell':=by
  refine ⟨fun k=>B k∨(ownM e sz A n c cell).fp k,S.merge (i:=i) hi (fun _ _=>rfl) (fun k h=>h.symm),fun hn=>?_,fun sz' A' n' cell' h=>h.grow S (i:=i+1) (by simpa using hi) fun _ h => .inl h⟩
  have hown:=S.holds (i:=0) rfl
  rcases hown with ⟨_,h,_⟩|⟨b,cs,rfl,hb,h1,h2,h3,h4⟩
  · omega
  · refine ⟨b,0,rfl,.inr ⟨.inr ⟨_,rfl,rfl⟩,eW hb,fun k j hk hj=>?_⟩⟩
    rw [←h4 k j hk hj,Nat.zero_add];exact cell_of_row w b (k*sz+j) cs e (0,0) hb
end
section
variable {P:Program} {ops:Array Oper} {w w0:World} {F0:Nat→Prop} {R:List Mem} {Q:Exit→Act→World→Prop} {rest:List Oper} {N:FN} {L:List (Nat×Value)} {a:Act} {ty:TypeId} {pos:String} {af:Array Edge}
theorem sK {d t e sz by_ n c m c':Nat} {x y:Operand} {zs:List Value} {A B:Option Addr} {cell cell':Nat→Nat→Value} (H:Fr N L a) (hd:Nat.blt d N.n=true) (S:St w0 F0 R w) (ht:SlT P t e) (hs:Sz P e sz) (hz:Zero P e zs) (hby:Bytes P e by_) (hzs:Nat.beq zs.length sz=true) (hpos:Nat.blt 0 sz=true)
    (hx:ev L x=some (.slice A n c)) (hy:ev L y=some (.slice B m c')) (hA:InS w noF sz A n cell) (hn:A=none→n=0∧c=0) (hfull:c<n+m) (hm:0<m) (hB:InS w noF sz B m cell') (hone:∀ k j,k<m→j<sz→(cell' k j).oneCell'=true)
    (hlen:(n+m)*by_≤140737488355328) (hlen2:n+m≤9223372036854775807)
    (k:∀ A' c1 w' a',St w0 F0 (ownM e sz A' (n+m) c1 (capp n cell cell')::R) w'→Fr N ((d,.slice A' (n+m) c1)::L) a'→wpList P ops Q rest a' w') :
    wpList P ops Q (⟨some d,.call ⟨.builtin .append,#[x,y],#[t,t]⟩,ty,pos,af,none⟩::rest) a w:=by
  have hpos':0<sz:=by simpa using hpos
  have hzs':zs.length=sz:=Nat.eq_of_beq_eq_true hzs
  have hflat:∀ (q:Nat) (C:Option Addr) (cl:Nat→Nat→Value),InS w noF sz C q cl→∀ b,C=some b→∀ (j:Nat) u,(flat sz q cl)[j]?=some u→w.cell? (b.add j)=some u:=by
    intro q C cl h b hb j u hu
    have hjl:j<q*sz:=by
      have:=(List.getElem?_eq_some_iff.1 hu).1
      simpa [flat] using this
    have hq0:0<q:=by
      rcases Nat.eq_zero_or_pos q with h0|h0
      · subst h0;omega
      · exact h0
    obtain ⟨b',o,hC,_,_,hc⟩:=h hq0;rw [hb] at hC;injection hC with hC;subst hC;rw [gK];have hk:j/sz<q:=(Nat.div_lt_iff_lt_mul hpos').2 hjl;have hj:j%sz<sz:=Nat.mod_lt _ hpos';have he:j/sz*sz+j%sz=j:=by rw [Nat.mul_comm];exact Nat.div_add_mod j sz
    have h1:=hc _ _ hk hj
    have h2:=kQ (cell:=cl) hk hj
    rw [he,hu,Option.some.injEq] at h2;rw [Nat.add_assoc,he] at h1;rw [h1,h2]
  unfold Zero at hz
  unfold Sz at hs
  unfold Bytes at hby
  cases hi:P.info? e with
  | none=>rw [hi] at hz;simp at hz
  | some i=>
    rw [hi] at hz hs hby;simp at hz hs hby;obtain ⟨z,hz1,hz2⟩:=hz;have hzsz:z.cells.size=sz:=by rw [←hzs',←hz2];simp
    obtain ⟨bb,bo,hBe,_⟩:=hB hm
    have hone':∀ u ∈ flat sz m cell',u.oneCell'=true:=by
      intro u hu;simp only [flat,List.mem_map,List.mem_range] at hu;obtain ⟨q,hq,rfl⟩:=hu;exact hone _ _ ((Nat.div_lt_iff_lt_mul hpos').2 hq) (Nat.mod_lt _ hpos')
    refine wpList_append_grows (w:=w) rfl x y t rfl e i z sz by_ ht hi hz1 hs hby hzsz hpos' A n c (flat sz n cell) (H.eval hx) hn (by simp [flat]) (hflat n A cell hA) ⟨bb,bo,none⟩ m c' (flat sz m cell') (by rw [H.eval hy,hBe]) (by simp [flat]) (fun j u hu=>hflat m B cell' hB ⟨bb,bo,none⟩ hBe j u hu) hone' hfull (by simp only [maxLen];omega) hlen ?_;intro v' w' hown hgrow
    have hfl:∀ k j,k<n+m→j<sz→(flat sz n cell++flat sz m cell')[k*sz+j]?=some (capp n cell cell' k j):=by
      intro k j hk hj;have hl:(flat sz n cell).length=n*sz:=by simp [flat]
      unfold capp
      by_cases hkn:k<n
      · rw [if_pos hkn]
        have hlt:k*sz+j<n*sz:=by
          have:(k+1)*sz≤n*sz:=Nat.mul_le_mul_right _ (by omega)
          rw [Nat.add_mul] at this;omega
        rw [List.getElem?_append_left (by omega)];exact kQ hkn hj
      · rw [if_neg hkn]
        have hge:n*sz≤k*sz:=Nat.mul_le_mul_right _ (by omega)
        rw [List.getElem?_append_right (by omega),hl];have:k*sz+j-n*sz=(k-n)*sz+j:=by rw [Nat.sub_mul];omega
        rw [this];exact kQ (by omega) hj
    have hown0:w'.ownsRow 0 e sz v' (n+m) (flat sz n cell++flat sz m cell'):=⟨hown.1,hown.2.imp (fun h=>h) fun ⟨g,cap,cur,h1,h2,h3⟩=>⟨g,cap,cur,h1,Nat.zero_le _,h3⟩⟩
    obtain ⟨A',c1,rfl,h6,h7⟩:=Aw (cell:=capp n cell cell') hown0 hfl;refine k A' c1 w' _ (S.new ((Keeps.of_grown hgrow).mono fun k hk=>by cases hk) h6 ?_) (H.put _ hd);rintro q ⟨aa,rfl,rfl⟩;rcases hown.2 with ⟨h,_⟩|⟨g,cap,cur,h,h1,h2,_⟩
    · cases h
    · injection h with h _ _
      injection h with h
      subst h;exact ⟨h1,eW h2⟩
end
theorem uM {P:Program} {L:List (Nat×Value)} {w:World} {d:Option Nat} {ty:TypeId} {pos:String} {af:Array Edge} {g:Option (Nat×Bool)} {t e sz:Nat} {x y z:Operand} {A:Option Addr} {n c hi:Nat} {k1 k2:IntKind} (ht:SlT P t e) (hs:Sz P e sz) (hx:ev L x=some (.slice A n c)) (hy:ev L y=some (.int k1 (hi:Int))) (hz:ev L z=some (.int k2 (hi:Int))) (h:hi≤c) :
    Does P L ⟨d,.slice t x none (some y) (some z),ty,pos,af,g⟩ w (.slice A hi hi):=fun ρ hρ=>by
  have hb:(Instr.sliceBounds true n c none (some (.int k1 (hi:Int))) (some (.int k2 (hi:Int)))).run P w = .ok (0,hi,hi) w:=by
    simp [Instr.sliceBounds,Instr.sliceBound,asIntOf,h]
  have e1:(Instr.sliceAt t (.slice A n c) none (some (.int k1 (hi:Int))) (some (.int k2 (hi:Int)))).run P w = .ok (.slice A hi hi) w:=by
    unfold Instr.sliceAt
    simp only [Sem.run_bind,cL ht,Result.andThen_ok,Instr.slice,hb,hs.run,Sem.run_pure]
    have e0:(if hi=0 then A else A.map (·.add (0*sz)))=A:=by
      split
      · rfl
      · cases A with
        | none=>rfl
        | some ad=>simp [Addr.add]
    rw [e0];rfl
  simp [execOp,hρ _ _ hx,hρ _ _ hy,hρ _ _ hz,e1]
section
variable {w w0:World} {F0:Nat→Prop} {R:List Mem} {i b:Nat} {κ:Type} [DecidableEq κ] {enc:κ→Value} {Φ Φ':(κ→Option Value)→Prop}
theorem aJa (S:St w0 F0 R w) (hi:R[i]?=some (mapK enc b Φ)):∃ h0,Φ h0∧St w0 F0 (R.set i (mapK enc b (fun h=>h=h0))) w:=by
 obtain ⟨es,ck,l,h1,h2,h3,h4,h5⟩:=S.holds hi;exact ⟨getL l,h5,S.imp hi (fun _=>⟨es,ck,l,h1,h2,h3,h4,rfl⟩) (fun _ h=>h)⟩
theorem aIu (S:St w0 F0 R w) (hi:R[i]?=some (mapK enc b Φ)) (h:∀ g,Φ g→Φ' g):St w0 F0 (R.set i (mapK enc b Φ')) w:=
 S.imp hi (fun ⟨es,ck,l,h1,h2,h3,h4,h5⟩=>⟨es,ck,l,h1,h2,h3,h4,h _ h5⟩) (fun _ h=>h)
theorem Ff {ty:TypeId} {cs:List Value} (S:St w0 F0 R w) (hi:R[i]?=some (boxM b ty cs)) (hn:cs.length≤maxLen):St w0 F0 (R.set i (ownM ty 1 (some ⟨b,0,none⟩) cs.length cs.length (fun k _=>cs.getD k undef))) w:=by
 refine S.imp hi (fun h => .inr ⟨b,_,rfl,h,Nat.le_refl _,hn,by simp,fun k j hk hj=>?_⟩) (fun k hk=>by obtain ⟨a,e,h⟩:=hk;cases e;exact h.symm)
 have:j=0:=by omega
 subst this;simp [hk]
theorem aAg {ty:TypeId} {n:Nat} {cell:Nat→Nat→Value} (S:St w0 F0 R w) (hi:R[i]?=some (ownM ty 1 (some ⟨b,0,none⟩) n n cell)):St w0 F0 (R.set i (boxM b ty ((List.range n).map fun k=>cell k 0))) w:=by
  refine S.imp hi (fun h=>?_) (fun k hk=>⟨_,rfl,hk.symm⟩)
  rcases h with ⟨h,_⟩|⟨b',cs,hA,hb,h1,h2,h3,h4⟩
  · cases h
  · injection hA with hA
    injection hA with hA
    subst hA;show w.heap[b]?=_;rw [hb]
    have e:cs=((List.range n).map fun k=>cell k 0).toArray:=by
      apply Array.ext
      · simp;omega
      · intro k hk1 hk2
        have hk:k<n:=by simpa using hk2
        have:=h4 k 0 hk (by omega)
        rw [Nat.mul_one,Nat.add_zero,Array.getElem?_eq_getElem hk1,Option.some.injEq] at this;rw [this];simp
    rw [e]
end
def orJ (j k:Int):Int:=if k=1 then (if j/2%2=1 then j else j+2) else (if j/4%2=1 then j else j+4)
theorem Ud {P:Program} {L:List (Nat×Value)} {w:World} {d:Option Nat} {ty:TypeId} {pos:String} {af:Array Edge} {g:Option (Nat×Bool)} {x y:Operand} {xt yt:TypeId} {j k:Int} (hx:ev L x=some (.int .i64 j)) (hy:ev L y=some (.int .i64 (1*2^k.toNat))) (hj:j=0∨j=2∨j=4∨j=6) (hk:1≤k∧k≤2) :
  Does P L ⟨d,.binOp .or xt x y yt,ty,pos,af,g⟩ w (.int .i64 (orJ j k)):=fun ρ hρ=>by
 have hk':k=1∨k=2:=by omega
 have e:Op.intBits .or .i64 j (1*2^k.toNat)=pure (.int .i64 (orJ j k)):=by
  rcases hk' with rfl|rfl <;> rcases hj with rfl|rfl|rfl|rfl <;> rfl
 simp only [execOp,hρ _ _ hx,hρ _ _ hy]
 rw [Int.one_mul] at e;simp [eqGuard,binOp,e]
theorem Ny (l:List Tsk) (u d:Int):jobV l u d=0∨jobV l u d=2∨jobV l u d=4∨jobV l u d=6:=by
 unfold jobV
 cases hasT l d u 1 <;> cases hasT l d u 2 <;> decide
theorem Ue (t:Tsk) (d u k:Int):hasT [t] d u k=decide (t.day=d∧t.unit=u∧t.kind=k):=by
 unfold hasT;simp
theorem yI {l:List Tsk} {t:Tsk} {u d:Int} (hk:1≤t.kind∧t.kind≤2):jobV (l++[t]) u d=if t.unit=u∧t.day=d then orJ (jobV l u d) t.kind else jobV l u d:=by
  have h1:=Fe l [t] d u 1
  have h2:=Fe l [t] d u 2
  rw [Ue] at h1 h2;by_cases h:t.unit=u∧t.day=d
  · rw [if_pos h]
    have hk':t.kind=1∨t.kind=2:=by omega
    unfold jobV
    rw [h1,h2];rcases hk' with e|e
    · rw [e,decide_eq_true (show t.day=d∧t.unit=u∧(1:Int)=1 from ⟨h.2,h.1,rfl⟩),decide_eq_false (show ¬ (t.day=d∧t.unit=u∧(1:Int)=2) from fun h=>by omega)]
      cases hasT l d u 1 <;> cases hasT l d u 2 <;> decide
    · rw [e,decide_eq_false (show ¬ (t.day=d∧t.unit=u∧(2:Int)=1) from fun h=>by omega),decide_eq_true (show t.day=d∧t.unit=u∧(2:Int)=2 from ⟨h.2,h.1,rfl⟩)]
      cases hasT l d u 1 <;> cases hasT l d u 2 <;> decide
  · rw [if_neg h]
    unfold jobV
    rw [h1,h2,decide_eq_false (fun h9=>h ⟨h9.2.1,h9.1⟩),decide_eq_false (fun h9=>h ⟨h9.2.1,h9.1⟩),Bool.or_false,Bool.or_false]
theorem pO {l:List Tsk} {k:Nat} (hk:k<l.length):l.take (k+1)=l.take k++[l.getD k aJl]:=by
 rw [List.take_succ_eq_append_getElem hk,List.getD_eq_getElem?_getD,List.getElem?_eq_getElem hk];rfl
def kcl (i:Nat) (J:Nat→Int) (k _j:Nat):Value:=if k=0 then .int .i64 i else .int .i64 (J (k-1))
def jobP (l:List Tsk) (n i:Nat):Nat→Int:=fun d=>jobV (l.take n) i d
theorem Uf (l:List Tsk) (i:Nat):jobP l l.length i=jobF l i:=by
 funext d;unfold jobP jobF;rw [List.take_length]
theorem Nz (l:List Tsk) (i:Nat):jobP l 0 i=fun _=>0:=by funext d;rfl
theorem Ug {l:List Tsk} {i k j:Nat} (hk:k<21) (hj:j<1):(([.int .i64 (i:Int),.int .i64 0,.int .i64 0,.int .i64 0,.int .i64 0,.int .i64 0,.int .i64 0,.int .i64 0,.int .i64 0,.int .i64 0,.int .i64 0,.int .i64 0,.int .i64 0,.int .i64 0,.int .i64 0,.int .i64 0,.int .i64 0,.int .i64 0,.int .i64 0,.int .i64 0,.int .i64 0]:List Value).getD k undef)=kcl i (jobP l 0 i) k j:=by
  rw [Nz];unfold kcl;rcases Nat.eq_zero_or_pos k with e|e
  · subst e;rfl
  · rw [if_neg (by omega)]
    obtain ⟨q,rfl⟩:∃ q,k=q+1:=⟨k-1,by omega⟩;have hq:q<20:=by omega
    show ((List.replicate 20 (Value.int .i64 0)).getD q undef)=_
    rw [List.getD_eq_getElem?_getD,List.getElem?_replicate,if_pos hq];rfl
theorem aAh {k:Int} (h:1≤k∧k≤2):i64ok (1*2^k.toNat):=by
 have hk':k=1∨k=2:=by omega
 rcases hk' with rfl|rfl <;> (unfold i64ok;decide)
theorem aAi {l:List Tsk} {n i:Nat} (hn:n<l.length) (hk:1≤(l.getD n aJl).kind∧(l.getD n aJl).kind≤2) (h:¬ (l.getD n aJl).unit=(i:Int)):jobP l (n+1) i=jobP l n i:=by
 funext d
 unfold jobP
 rw [pO hn,yI hk,if_neg (fun h9=>h h9.1)]
theorem aAj {l:List Tsk} {n i d:Nat} (hn:n<l.length) (hk:1≤(l.getD n aJl).kind∧(l.getD n aJl).kind≤2) (h:(l.getD n aJl).unit=(i:Int)) (hd:(l.getD n aJl).day=(d:Int)) :
    ∀ k j,j<1→cput (kcl i (jobP l n i)) (d+1) 0 (.int .i64 (orJ (jobP l n i d) (l.getD n aJl).kind)) k j=kcl i (jobP l (n+1) i) k j:=by
  intro k j hj;have hj0:j=0:=by omega
  subst hj0;unfold cput kcl jobP;rw [pO hn];by_cases e:k=d+1
  · subst e
    rw [if_pos ⟨rfl,rfl⟩,if_neg (by omega),Nat.add_sub_cancel,yI hk,if_pos ⟨h,hd⟩]
  · rw [if_neg (fun h9=>e h9.1)]
    by_cases e0:k=0
    · rw [if_pos e0,if_pos e0]
    · rw [if_neg e0,if_neg e0,yI hk,if_neg (fun h9=>by omega)]
def keyOf (i:Nat) (J:Nat→Int):KeyN 21:=⟨(i:Int)::(List.range 20).map J,by simp⟩
noncomputable def lifeV (u:Unt) (J:Nat→Int) (n:Nat):Value := .agg [.int .i64 (bsum (runB' u J) n),.int .i64 (bsum (certB u J) n)].toArray
theorem Fg {u:Unt} {J J':Nat→Int} {n:Nat} (h:∀ d,d<n→J d=J' d):lifeV u J n=lifeV u J' n:=by
 unfold lifeV
 rw [qV (f:=runB' u J) (g:=runB' u J') fun d hd=>yH fun i hi=>h i (by omega),qV (f:=certB u J) (g:=certB u J') fun d hd=>Fc fun i hi=>h i (by omega)]
theorem Oa {i i':Nat} {J J':Nat→Int} (h:keyOf i J=keyOf i' J'):i=i'∧∀ d,d<20→J d=J' d:=by
 have h1:(i:Int)::(List.range 20).map J=(i':Int)::(List.range 20).map J':=congrArg Subtype.val h
 injection h1 with h2 h3
 refine ⟨by omega,fun d hd=>?_⟩
 have h4:=congrArg (fun l=>l[d]?) h3
 simp only [List.getElem?_map,List.getElem?_range hd,Option.map_some,Option.some.injEq] at h4
 exact h4
def livP (y:Yr) (h:KeyN 21→Option Value):Prop:=∀ i J v,i<y.us.length→h (keyOf i J)=some v→v=lifeV (y.us.getD i aJk) J y.days.toNat
theorem Ob {y:Yr}:livP y (fun _=>none):=fun _ _ _ _ h=>by cases h
theorem Uh {y:Yr} {i:Nat} {J:Nat→Int} {v:Value} (hd:y.days.toNat≤20) (hv:v=lifeV (y.us.getD i aJk) J y.days.toNat):∀ h,livP y h→livP y (fun k'=>if k'=keyOf i J then some v else h k'):=fun h hh i' J' v' hi' hv'=>by
  dsimp only at hv';split at hv'
  · rename_i e
    obtain ⟨e1,e2⟩:=Oa e;subst e1;rw [Option.some.injEq] at hv';rw [←hv',hv];exact Fg fun d hd'=>(e2 d (by omega)).symm
  · exact hh i' J' v' hi' hv'
noncomputable def leavB (y:Yr) (out:Int):Bool:=decide (mfv y.pl.toNat y.limit.toNat y.pe y.xs (hds out y.xs y.ps)=sumI y.pe y.pe.length)
def safP (y:Yr) (h:Int→Option Value):Prop:=∀ o v,(0≤o∧o≤4095)→h o=some v→v = .bool (leavB y o)
theorem Oc {y:Yr}:safP y (fun _=>none):=fun _ _ _ h=>by cases h
theorem Ui {y:Yr} {o:Int} {v:Value} (hv:v = .bool (leavB y o)):∀ h,safP y h→safP y (fun k'=>if k'=o then some v else h k'):=fun h hh o' v' ho' hv'=>by
 dsimp only at hv';split at hv'
 ·rename_i e;subst e;rw [Option.some.injEq] at hv';rw [←hv',hv]
 ·exact hh o' v' ho' hv'
noncomputable def prmB (y:Yr) (d out:Int) (k:Nat):Bool:=!(decide ((y.prs.getD k aJn).first≤d)&&decide (d≤(y.prs.getD k aJn).last))||decide (0≤dst y.pl.toNat y.ps out (y.help&&(y.prs.getD k aJn).helped) (y.prs.getD k aJn).to.toNat (y.prs.getD k aJn).fr.toNat)
noncomputable def keepB (y:Yr) (d out:Int):Bool:=allN (prmB y d out) y.prs.length
def kepP (y:Yr) (h:Int×Int→Option Value):Prop:=∀ d o v,(0≤o∧o≤4095)→h (d,o)=some v→v = .bool (keepB y d o)
theorem Od {y:Yr}:kepP y (fun _=>none):=fun _ _ _ _ h=>by cases h
theorem Uj {y:Yr} {d o:Int} {v:Value} (hv:v = .bool (keepB y d o)):∀ h,kepP y h→kepP y (fun k'=>if k'=(d,o) then some v else h k'):=fun h hh d' o' v' ho' hv'=>by
 dsimp only at hv';split at hv'
 ·rename_i e;cases e;rw [Option.some.injEq] at hv';rw [←hv',hv]
 ·exact hh d' o' v' ho' hv'
theorem Uk {f g:Nat→Bool} {n:Nat} (h1:f n=false) (h2:g n=true) (h3:∀ i,i≠n→g i=f i):∀ N,bsum g N=bsum f N+if n<N then 2^n else 0:=by
  intro N;induction N with
  | zero=>rw [if_neg (by omega)];rfl
  | succ N ih=>
    rw [bsum,bsum,ih];by_cases e:N=n
    · subst e
      rw [h1,h2,if_neg (Nat.lt_irrefl N),if_pos (c:=N<N+1) (by omega)];simp
    · rw [h3 N e]
      generalize (if f N=true then (2:Int)^N else 0)=z
      by_cases h4:n<N
      · rw [if_pos h4,if_pos (c:=n<N+1) (by omega)];omega
      · rw [if_neg h4,if_neg (c:=n<N+1) (by omega)];omega
noncomputable def outM (y:Yr) (l:List Tsk) (d k m:Nat):Bool:=!allN (fun i=>!(decide ((y.us.getD i aJk).mach=(m:Int))&&!runsY y l i d)) k
section
variable {y:Yr} {l:List Tsk} {d k m:Nat}
theorem tQ:outM y l d (k+1) m=(outM y l d k m||(decide ((y.us.getD k aJk).mach=(m:Int))&&!runsY y l k d)):=by
 unfold outM
 simp only [allN,Bool.not_and,Bool.not_not,Bool.not_or]
theorem Ul:outM y l d k m=true↔∃ i,i<k∧(y.us.getD i aJk).mach=(m:Int)∧runsY y l i d=false:=by
  unfold outM
  rw [Bool.not_eq_true',←Bool.not_eq_true,bS];constructor
  · intro h
    refine Classical.byContradiction fun h2=>h fun i hi=>?_
    rw [Bool.not_eq_true',←Bool.not_eq_true,Bool.and_eq_true,decide_eq_true_eq,Bool.not_eq_true'];exact fun h3=>h2 ⟨i,hi,h3⟩
  · rintro ⟨i,hi,h1,h2⟩ h
    have:=h i hi
    rw [h1,h2] at this;simp at this
theorem mQ {ps:List Psg} {us:List Unt} {P:Int} {xs:List Int} (V:StV P ps xs) {u:Unt} {i:Nat} (h:UntOk ps us u i):(0≤u.mach∧u.mach≤11)∧∀ j,j<i→(us.getD j aJk).mach≠u.mach:=by
 obtain ⟨⟨k,hk,h1,h2⟩,h3⟩:=tP.1 h.free;have h4:=bW.1 (V.pas k hk);exact ⟨by omega,h3⟩
theorem YOk.V (h:YOk y):StV y.pl y.ps y.xs:=gR (rW (rX h.kept).1).1
theorem yJ (h:YOk y) (hk:k<y.us.length):outM y l d k (y.us.getD k aJk).mach.toNat=false:=by
 have h1:=mQ h.V (jY.1 (h.un k hk))
 rw [←Bool.not_eq_true,Ul];rintro ⟨i,hi,h2,_⟩;have:=h1.2 i hi;omega
theorem Ac (h:YOk y):∀ k,k≤y.us.length→outY y l d k=bsum (outM y l d k) 12:=by
  intro k;induction k with
  | zero=>
    intro _
    have:∀ N,bsum (outM y l d 0) N=0:=fun N=>by
      induction N with
      | zero=>rfl
      | succ N ih=>rw [bsum,ih];rfl
    rw [this];rfl
  | succ k ih=>
    intro hk;have h1:=mQ h.V (jY.1 (h.un k (by omega)));have hf:=yJ (l:=l) (d:=d) h (show k<y.us.length by omega);rw [outY,ih (by omega)];by_cases hr:runsY y l k d=true
    · rw [if_pos hr,Int.add_zero]
      refine qV fun i _=>?_
      rw [tQ,hr];simp
    · rw [if_neg hr]
      rw [Bool.not_eq_true] at hr;rw [Uk (g:=outM y l d (k+1)) (n:=(y.us.getD k aJk).mach.toNat) hf (by rw [tQ,hr,decide_eq_true (by omega)];simp) (fun i hi=>by rw [tQ,decide_eq_false (by omega)];simp),if_pos (by omega)]
theorem sM (h:YOk y) (hk:k≤y.us.length):0≤outY y l d k∧outY y l d k≤4095:=by
 rw [Ac h k hk];have:=vJ (outM y l d k) 12;have e:(2:Int)^12=4096:=by decide
 omega
theorem Um (h:YOk y) (hk:k≤y.us.length) (hm:m<12):outY y l d k/2^m%2=if outM y l d k m=true then 1 else 0:=by
 rw [Ac h k hk];exact yE hm
theorem Ik (h:YOk y) (hk:k<y.us.length):outY y l d k/2^(y.us.getD k aJk).mach.toNat%2=0:=by
 have h1:=mQ h.V (jY.1 (h.un k hk))
 rw [Um h (by omega) (by omega),yJ h hk];rfl
theorem Un (hr:runsY y l k d=true):outY y l d (k+1)=outY y l d k:=by rw [outY,if_pos hr,Int.add_zero]
theorem Uo (hr:runsY y l k d=false):outY y l d (k+1)=outY y l d k+2^(y.us.getD k aJk).mach.toNat:=by rw [outY,if_neg (by rw [hr];simp)]
noncomputable def setsQ (y:Yr) (l:List Tsk) (k q:Nat) (d _j:Nat):Value := .int .i64 (if d<q then outY y l d (k+1) else outY y l d k)
noncomputable def setsV (y:Yr) (l:List Tsk) (k:Nat) (d _j:Nat):Value := .int .i64 (outY y l d k)
theorem yK:setsQ y l k 0=setsV y l k:=by
 funext d j;unfold setsQ setsV;rw [if_neg (by omega)]
theorem Ae {n:Nat}:∀ d j,d<n→j<1→setsQ y l k n d j=setsV y l (k+1) d j:=fun d j hd _=>by
 unfold setsQ setsV;rw [if_pos hd]
theorem Ag {q:Nat} (hr:runsY y l k q=true):setsQ y l k q=setsQ y l k (q+1):=by
  funext d j
  unfold setsQ
  by_cases e:d=q
  · subst e;rw [if_neg (by omega),if_pos (by omega),Un hr]
  · by_cases h:d<q
    · rw [if_pos h,if_pos (by omega)]
    · rw [if_neg h,if_neg (by omega)]
theorem Ah {q:Nat} {v:Int} (hr:runsY y l k q=false) (hv:v=outY y l q k+2^(y.us.getD k aJk).mach.toNat):∀ d j,j<1→cput (setsQ y l k q) q 0 (.int .i64 v) d j=setsQ y l k (q+1) d j:=fun d j hj=>by
  subst hv;have:j=0:=by omega
  subst this;unfold cput setsQ;by_cases e:d=q
  · subst e;rw [if_pos ⟨rfl,rfl⟩,if_pos (by omega),Uo hr]
  · rw [if_neg (fun h=>e h.1)]
    by_cases h:d<q
    · rw [if_pos h,if_pos (by omega)]
    · rw [if_neg h,if_neg (by omega)]
theorem aHv {n q:Nat} (hq:q<n) (h:bsum (runB' (y.us.getD k aJk) (jobF l k)) n/2^((q:Nat):Int).toNat%2=0):runsY y l k q=false:=by
 rw [Int.toNat_natCast,yE hq] at h;rw [←Bool.not_eq_true];intro h2;have h3:runB' (y.us.getD k aJk) (jobF l k) q=true:=h2;rw [if_pos h3] at h;cases h
theorem aHw {n q:Nat} (hq:q<n) (h:¬ bsum (runB' (y.us.getD k aJk) (jobF l k)) n/2^((q:Nat):Int).toNat%2=0):runsY y l k q=true:=by
 rw [Int.toNat_natCast,yE hq] at h;refine Classical.byContradiction fun h2=>h ?_
 rw [if_neg (show ¬ runB' (y.us.getD k aJk) (jobF l k) q=true from h2)]
theorem YOk.leave (h:YOk y) {out:Int} (ho:0≤out∧out≤4095):dY y.pl y.ps y.xs out y.pe y.limit=0:=by
 have h1:=(rW (rX h.kept).1).1
 have h2:=h.yr
 unfold yrI at h2
 unfold dY
 rw [if_neg (by omega),if_pos];have h4:fQ y.pl y.pe=true:=by unfold fQ;rw [decide_eq_true h2.2.1.1,Bool.and_true,bS];exact fun k hk=>decide_eq_true (h2.2.1.2 k hk)
 rw [h4,decide_eq_true ho,decide_eq_true h2.2.2.1];rfl
end
def spS (y:Yr) (d k:Nat):Nat→Int
 | 0=>0
 | n+1=>spS y d k n+if (y.sps.getD n aJs).day=(d:Int)∧(y.sps.getD n aJs).kind=(k:Int) then (y.sps.getD n aJs).many else 0
def tkK (y:Yr) (l:List Tsk) (n:Nat):Int:=(y.us.getD (l.getD n aJl).unit.toNat aJk).kind
def ovS (y:Yr) (l:List Tsk) (d k:Nat):Nat→Int
 | 0=>0
 | n+1=>ovS y l d k n+if ((l.getD n aJl).day=(d:Int)∧(l.getD n aJl).kind=2)∧tkK y l n=(k:Int) then 1 else 0
def stk (y:Yr) (l:List Tsk) (k:Nat):Nat→Int
 | 0=>0
 | d+1=>stk y l k d+spS y d k y.sps.length-ovS y l d k l.length
def jbS (l:List Tsk) (d:Nat):Nat→Int
 | 0=>0
 | n+1=>jbS l d n+if (l.getD n aJl).day=(d:Int) then 1 else 0
def shS (y:Yr) (l:List Tsk) (d:Nat):Nat→Bool
 | 0=>false
 | n+1=>shS y l d n||(decide ((l.getD n aJl).day=(d:Int)∧(l.getD n aJl).kind=2)&&decide (stk y l (tkK y l n).toNat d+spS y d (tkK y l n).toNat y.sps.length-ovS y l d (tkK y l n).toNat (n+1)<0))
noncomputable def faultD (y:Yr) (l:List Tsk) (d:Nat):Int:=if y.crew<jbS l d l.length then 1 else if shS y l d l.length=true then 2 else if keepB y d (outY y l d y.us.length)=false then 3 else if leavB y (outY y l d y.us.length)=false then 4 else 0
noncomputable def qW (y:Yr) (l:List Tsk):Nat:=fstB (fun d=>decide (faultD y l d≠0)) y.days.toNat
noncomputable def cS (y:Yr) (l:List Tsk):Int×Int:=if qW y l<y.days.toNat then ((qW y l:Int),faultD y l (qW y l)) else (0,0)
section
variable {y:Yr} {l:List Tsk} {d k n m:Nat}
theorem mR (hd:d<y.days.toNat) (h:∀ q,q<d→faultD y l q=0) (hf:faultD y l d≠0):cS y l=((d:Int),faultD y l d):=by
 have e:qW y l=d:=Bm (f:=fun d=>decide (faultD y l d≠0)) (fun q hq=>decide_eq_false (fun h9=>h9 (h q hq))) (decide_eq_true hf) hd
 unfold cS
 rw [e,if_pos hd]
theorem qX (h:∀ q,q<y.days.toNat→faultD y l q=0):cS y l=(0,0):=by
 have e:qW y l=y.days.toNat:=kY (fun q hq=>decide_eq_false (fun h9=>h9 (h q hq)))
 unfold cS
 rw [e,if_neg (Nat.lt_irrefl _)]
theorem nO (h:YOk y):∀ n,n≤y.sps.length→0≤spS y d k n∧spS y d k n≤8*(n:Int):=by
  intro n;induction n with
  | zero=>intro _;exact ⟨Int.le_refl 0,Int.le_refl 0⟩
  | succ n ih=>
    intro hn;have h1:=ih (by omega);have h2:=h.yr.2.2.2.2.2 n (by omega);unfold sprB at h2;have h3:=of_decide_eq_true h2;rw [spS];split <;> omega
theorem Cf:∀ n,0≤ovS y l d k n∧ovS y l d k n≤n:=by
 intro n;induction n with
 | zero=>exact ⟨Int.le_refl 0,Int.le_refl 0⟩
 | succ n ih=>rw [ovS];split <;> omega
theorem Il:∀ n,0≤jbS l d n∧jbS l d n≤n:=by
 intro n;induction n with
 | zero=>exact ⟨Int.le_refl 0,Int.le_refl 0⟩
 | succ n ih=>rw [jbS];split <;> omega
theorem Up (h:YOk y) (hl:l.length≤1000):∀ d:Nat,-1000*(d:Int)≤stk y l k d∧stk y l k d≤160*d:=by
  intro d;induction d with
  | zero=>exact ⟨Int.le_refl 0,Int.le_refl 0⟩
  | succ d ih=>
    have h1:=nO (d:=d) (k:=k) h y.sps.length (Nat.le_refl _)
    have h2:=Cf (y:=y) (l:=l) (d:=d) (k:=k) l.length
    have h3:=h.yr.2.2.2.2.1
    rw [stk];omega
def stkC (y:Yr) (l:List Tsk) (d n m k _j:Nat):Value := .int .i64 (stk y l k d+spS y d k n-ovS y l d k m)
theorem Oe:stkC y l d y.sps.length l.length=stkC y l (d+1) 0 0:=by
 funext k j;unfold stkC;rw [stk];simp [spS,ovS]
theorem aAk {x:Int} {q:Nat} (hd:(y.sps.getD n aJs).day=(d:Int)) (hq:(y.sps.getD n aJs).kind=(q:Int)) (hx:x=stk y l q d+spS y d q n-ovS y l d q 0+(y.sps.getD n aJs).many):∀ k j,j<1→cput (stkC y l d n 0) q 0 (.int .i64 x) k j=stkC y l d (n+1) 0 k j:=fun k j hj=>by
 subst hx;have:j=0:=by omega
 subst this;unfold cput stkC;by_cases e:k=q
 ·subst e;rw [if_pos ⟨rfl,rfl⟩,spS,if_pos ⟨hd,hq⟩];congr 1;omega
 ·rw [if_neg (fun h=>e h.1),spS,if_neg (fun h=>e (by omega))];congr 1;omega
theorem aAl (hd:¬ (y.sps.getD n aJs).day=(d:Int)):stkC y l d n 0=stkC y l d (n+1) 0:=by
 funext k j;unfold stkC;rw [spS,if_neg (fun h=>hd h.1)];congr 1;omega
theorem aAm {x:Int} {q:Nat} (hd:(l.getD m aJl).day=(d:Int)∧(l.getD m aJl).kind=2) (hq:tkK y l m=(q:Int)) (hx:x=stk y l q d+spS y d q n-ovS y l d q m-1):∀ k j,j<1→cput (stkC y l d n m) q 0 (.int .i64 x) k j=stkC y l d n (m+1) k j:=fun k j hj=>by
 subst hx;have:j=0:=by omega
 subst this;unfold cput stkC;by_cases e:k=q
 ·subst e;rw [if_pos ⟨rfl,rfl⟩,ovS,if_pos ⟨hd,hq⟩];congr 1;omega
 ·rw [if_neg (fun h=>e h.1),ovS,if_neg (fun h=>e (by omega))];congr 1;omega
theorem Fh (hd:¬ ((l.getD m aJl).day=(d:Int)∧(l.getD m aJl).kind=2)):stkC y l d n m=stkC y l d n (m+1):=by
 funext k j;unfold stkC;rw [ovS,if_neg (fun h=>hd h.1)];congr 1;omega
theorem aDm {b:Int} (hb:b=jbS l d m) (hd:¬ (l.getD m aJl).day=(d:Int)):b=jbS l d (m+1):=by rw [jbS,if_neg hd,hb];omega
theorem yL {b:Int} (hb:b=jbS l d m) (hd:(l.getD m aJl).day=(d:Int)):b+1=jbS l d (m+1):=by rw [jbS,if_pos hd,hb]
theorem Uq {s:Bool} (hs:s=shS y l d m) (hd:¬ ((l.getD m aJl).day=(d:Int)∧(l.getD m aJl).kind=2)):s=shS y l d (m+1):=by
 rw [shS,decide_eq_false hd,Bool.false_and,Bool.or_false,hs]
theorem Ur {s:Bool} {q:Nat} {x:Int} (hs:s=shS y l d m) (hd:(l.getD m aJl).day=(d:Int)∧(l.getD m aJl).kind=2) (hq:tkK y l m=(q:Int)) (hx:x=stk y l q d+spS y d q y.sps.length-ovS y l d q (m+1)):(s||decide (x<0))=shS y l d (m+1):=by
 subst hx;rw [shS,decide_eq_true hd,Bool.true_and,hs,show (tkK y l m).toNat=q by omega]
theorem nP (h:y.crew<jbS l d l.length):faultD y l d=1:=by unfold faultD;rw [if_pos h]
theorem pP (h:¬ y.crew<jbS l d l.length) (h2:shS y l d l.length=true):faultD y l d=2:=by unfold faultD;rw [if_neg h,if_pos h2]
theorem sN (h:¬ y.crew<jbS l d l.length) (h2:shS y l d l.length=false) (h3:keepB y d (outY y l d y.us.length)=false):faultD y l d=3:=by unfold faultD;rw [if_neg h,if_neg (by rw [h2];simp),if_pos h3]
theorem vM (h:¬ y.crew<jbS l d l.length) (h2:shS y l d l.length=false) (h3:keepB y d (outY y l d y.us.length)=true) (h4:leavB y (outY y l d y.us.length)=false):faultD y l d=4:=by unfold faultD;rw [if_neg h,if_neg (by rw [h2];simp),if_neg (by rw [h3];simp),if_pos h4]
theorem vN (h:¬ y.crew<jbS l d l.length) (h2:shS y l d l.length=false) (h3:keepB y d (outY y l d y.us.length)=true) (h4:leavB y (outY y l d y.us.length)=true):faultD y l d=0:=by unfold faultD;rw [if_neg h,if_neg (by rw [h2];simp),if_neg (by rw [h3];simp),if_neg (by rw [h4];simp)]
theorem Fi (h:∀ q,q<d→faultD y l q=0) (h2:faultD y l d=0):∀ q,q<d+1→faultD y l q=0:=fun q hq=>by
 by_cases e:q=d
 ·subst e;exact h2
 ·exact h q (by omega)
end
section
variable {y:Yr} {l:List Tsk} {u:Int} {f:Nat→Bool} {n:Nat}
end
section
variable {y:Yr} {l:List Tsk} {i d k:Nat} {f:Nat→Bool}
theorem aAn {g:Nat→Bool}:∀ {n q},q<fstB g n→g q=false:=by
  intro n;induction n with
  | zero=>intro q hq;exact absurd hq (Nat.not_lt_zero q)
  | succ n ih=>
    intro q hq;rw [fstB] at hq;split at hq
    · exact ih hq
    · rename_i h1
      have h2:=Bl (f:=g) n
      split at hq
      · exact ih (by omega)
      · rename_i h3
        by_cases e:q=n
        · subst e;simpa using h3
        · exact ih (by omega)
theorem aAo {g:Nat→Bool}:∀ {n},fstB g n<n→g (fstB g n)=true:=by
  intro n;induction n with
  | zero=>intro h;exact absurd h (Nat.not_lt_zero _)
  | succ n ih=>
    intro h;rw [fstB] at h ⊢;split
    · rename_i h1;exact ih h1
    · rename_i h1
      rw [if_neg h1] at h;split
      · rename_i h2;exact h2
      · rename_i h2;rw [if_neg h2] at h;omega
end
end
end Go.Proofs.YtopmadlgolnmfaaGreat
