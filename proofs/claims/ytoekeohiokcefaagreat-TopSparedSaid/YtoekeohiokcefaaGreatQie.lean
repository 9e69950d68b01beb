/- Part 5 of the proof. -/
import Derived.Test.YtoekeohiokcefaaGreatQid
namespace Go.Proofs.YtoekeohiokcefaaGreat
open Go.RowKit
set_option linter.unusedVariables false
set_option linter.unusedSimpArgs false
set_option maxRecDepth 100000
set_option maxHeartbeats 4000000
section
section
variable {hz:Int} {sw:List Int} {ws:List Wr} {al:List Int} {a q n n2:Nat} {b:Int}
theorem zF (h:pairB hz sw ws al (a:Int) b=true) (hb:b=(a:Int)+1+(q:Int)) (hn:n2=n+pcIn hz sw ws al a q):n2+1=n+pcIn hz sw ws al a (q+1):=by
  subst hb;rw [pcIn,if_pos h];omega
theorem has3:∀ x y:Bool,x=true∨(x=false∧y=true)∨(x=false∧y=false):=by decide
theorem zG (hA:hasC al (a:Int)=true):¬ pairB hz sw ws al (a:Int) b=true:=by unfold pairB;rw [hA];simp
theorem zH (hA:hasC al b=true):¬ pairB hz sw ws al (a:Int) b=true:=by unfold pairB;rw [hA];simp
theorem iX (hA:hasC al (a:Int)=false) (hB:hasC al b=false):pairB hz sw ws al (a:Int) b=decide (0<(wkN hz sw ws (lorI (1*2^(a:Int).toNat) (1*2^b.toNat)) hz.toNat).length):=by unfold pairB;rw [hA,hB];rfl
theorem iZ (h:¬ pairB hz sw ws al (a:Int) b=true) (hb:b=(a:Int)+1+(q:Int)) (hn:n2=n+pcIn hz sw ws al a q):n2=n+pcIn hz sw ws al a (q+1):=by
  subst hb;rw [pcIn,if_neg h];exact hn
end
theorem dZ (hz:Int) (sw:List Int) (SA:Option Addr) (sc:Nat) (ws:List Wr) (QA:Option Addr) (qc:Nat) (OA:Nat→Option Addr) (oc:Nat→Nat) (w:World) (hsw:InS w noF 1 SA sw.length (icl sw)) (hws:InS w noF 2 QA ws.length (gG ws OA oc)) (hof:∀ k,k<ws.length→InS w noF 1 (OA k) (ws.getD k Wr.zero).of.length (icl (ws.getD k Wr.zero).of)) (hE:circE hz sw ws=0) :
    Calls Tryz.prog 19 [.agg [.int .i64 hz,.slice SA sw.length sc,.slice QA ws.length qc].toArray].toArray w (Ret (fun u w'=>∃ A' c',u = .tuple #[.slice A' (pcOut hz sw ws (critN hz sw ws sw.length) sw.length) c',.int .i64 0]∧St w noF [] w')):=by
 have V:=vE (Gn hE)
 have hns:=V.nsw
 have hnw:=V.nws
 have hzb:=V.hzb
 have hof9:=Gq V
 have hcl9:=wY (hz:=hz) (sw:=sw) (ws:=ws) sw.length
 refine enter Tryz.func19 rfl Tryz.ntmps19 rfl (fun a H=>?_)
 have S:=St.start w
 refine seq_list fun K1 k1=>?_
 refine aO H rfl S G G ?_;clear H a S;intro b1 _ a hb1 hbw1 S H
 refine ls 2 H<|sr 2 rfl<|sE ?_;clear H a;intro a H
 refine k1 _ _ ?_;clear k1 K1
 replace H:=H.keep [1] rfl
 refine seq_list fun K2 k2=>?_
 refine ls 1 H<|sd ((aC eN dR rfl S (i:=0) G G))<|sE ?_;clear H a;intro a H
 refine aA H G G Tryz.func34 G G (zE hz sw SA sc ws QA qc OA oc _ (hsw.now S) (hws.now S) (fun k hk=>(hof k hk).now S) hE) ?_;clear H a
 rintro _ _ a ⟨A8,c8,rfl,S2⟩ H
 replace S:=S.call S2;clear S2
 refine ls 5 H<|sr 5 rfl<|sE ?_;clear H a;intro a H
 refine k2 _ _ ?_;clear k2 K2
 refine wp_seq_k fun K3 k3=>?_
 refine sS H fun K4 k4=>sr 2 rfl<|sE ?_;clear H a;intro a H
 refine k4 _ ?_;clear k4 K4
 refine condN H rfl (fun hc1=>?_) (fun hc1=>?_)
 ·skip
  replace H:=H.keep [5] rfl
  refine sS H fun K5 k5=>sr 3 rfl<|sE ?_;clear H a;intro a H
  refine k5 _ ?_;clear k5 K5
  refine wp_ret ?_
  refine ret2 (fn:=Tryz.f19) rfl H G G ?_
  exact absurd rfl hc1
 refine wp_skip ?_
 refine k3 _ _ ?_
 refine sS H fun K6 k6=>sr 1 rfl<|sE ?_;clear H a;intro a H
 refine k6 _ ?_;clear k6 K6
 refine wp_seq_k fun K7 k7=>?_
 refine sS H fun K8 k8=>sf kA rfl<|sl S 1 bM G G G<|sL aT rfl<|sr 1 rfl<|sE ?_;clear H a;intro a H
 refine k8 _ ?_;clear k8 K8
 refine wp_block ?_
 replace S:=S.newNil 101 2 (fun _ _=>undef)
 refine loop_st (X:=Nat×Nat×Option Addr×Nat×(Nat→Nat→Value)) (R0:=_) [1,4,19] H rfl (fun ⟨u,n,A9,c9,cl9⟩=>[(6,.slice A9 n c9),(20,.int .i64 (u:Int))]) (fun ⟨u,n,A9,c9,cl9⟩=>[ownM 101 2 A9 n c9 cl9]) (fun g ⟨u,n,A9,c9,cl9⟩=>u≤sw.length∧g+u=sw.length∧n=pcOut hz sw ws (critN hz sw ws sw.length) u) (sw.length) (0,0,none,0,fun _ _=>undef) ?_ (S.sel [0,1,2] G G) (H.keep [6,20,1,4,19] rfl) ?_
 · exact ⟨by omega,by omega,rfl⟩
 clear H S a
 intro g1 x1 a w1 hp S H K9 k9
 obtain ⟨u,n,A9,c9,cl9⟩:=x1
 dsimp only at hp S H
 obtain ⟨hu1,hu2,hn1⟩:=hp
 refine sS H fun K10 k10=>sr 1 rfl<|sE ?_;clear H a;intro a H
 refine k10 _ ?_;clear k10 K10
 refine wp_seq_k fun K11 k11=>?_
 refine condL H rfl (fun hc2=>?_) (fun hc2=>?_)
 ·skip
  refine wp_skip ?_
  refine k11 _ _ ?_
  refine wp_seq_k fun K12 k12=>?_
  refine wp_block ?_
  refine sS H fun K13 k13=>sr 2 rfl<|sE ?_;clear H a;intro a H
  refine k13 _ ?_;clear k13 K13
  refine sS H fun K14 k14=>sr 1 rfl<|sd (aK G G (by unfold i64ok;omega))<|sr 1 rfl<|sE ?_;clear H a;intro a H
  refine k14 _ ?_;clear k14 K14
  refine wp_block ?_
  refine loop_st (X:=Nat×Int×Nat×Option Addr×Nat×(Nat→Nat→Value)) (R0:=_) [1,4,7,19,20] H rfl (fun ⟨q,b,n2,A7,c7,cl7⟩=>[(6,.slice A7 n2 c7),(8,.int .i64 b)]) (fun ⟨q,b,n2,A7,c7,cl7⟩=>[ownM 101 2 A7 n2 c7 cl7]) (fun g ⟨q,b,n2,A7,c7,cl7⟩=>u+1+q≤sw.length∧g+u+1+q=sw.length∧n2=n+pcIn hz sw ws (critN hz sw ws sw.length) u q∧b=(u:Int)+1+(q:Int)) (sw.length-(u+1)) (0,(u:Int)+1,n,A9,c9,cl9) ?_ (S.sel [0,1,2] G G) (H.keep [6,8,1,4,7,19,20] rfl) ?_
  · exact ⟨by omega,by omega,rfl,by omega⟩
  clear H S a
  intro g2 x2 a w2 hp S H K15 k15
  obtain ⟨q,b,n2,A7,c7,cl7⟩:=x2
  dsimp only at hp S H
  obtain ⟨hq1,hq2,hn2,hb2⟩:=hp
  obtain ⟨y,rfl⟩:∃ y:Nat,b=y:=⟨u+1+q,by omega⟩
  refine wp_seq_k fun K16 k16=>?_
  refine sS H fun K17 k17=>sr 1 rfl<|sf kA rfl<|sl S 2 bM G G G<|sL aT rfl<|sr 1 rfl<|sE ?_;clear H a;intro a H
  refine k17 _ ?_;clear k17 K17
  refine condL H rfl (fun hc3=>?_) (fun hc3=>?_)
  ·skip
   refine wp_skip ?_
   refine k16 _ _ ?_
   refine wp_seq_k fun K18 k18=>?_
   refine wp_block ?_
   rcases has3 (hasC (critN hz sw ws sw.length) (u:Int)) (hasC (critN hz sw ws sw.length) (y:Int)) with hA|⟨hA,hB⟩|⟨hA,hB⟩
   ·skip
    have hsh:=pwc (h:=u) (by omega)
    have hsh2:=pwc (h:=y) (by omega)
    have hwl9:=sN (hz:=hz) (sw:=sw) (ws:=ws) (cl:=lorI (1*2^(u:Int).toNat) (1*2^(y:Int).toNat)) hz.toNat
    replace H:=H.keep [1,4,6,7,8,19,20] rfl
    replace S:=S.drew
    refine seq_wq [(0,true),(1,true),(2,false),(3,true),(4,true),(5,true),(6,true),(7,true),(8,true),(9,true),(10,true),(11,true),(12,true),(13,true),(14,true),(15,true),(16,true),(17,true),(18,true),(19,true),(20,true)] (by kernel_rfl) (by kernel_rfl) (S.sel [0,1,2] G G) fun K19 k19=>?_
    refine qF H<|qr 2 rfl<|qK ?_;clear H a;intro a H
    refine aS rfl ?_
    refine aA H G G Tryz.func35 G G (gY (critN hz sw ws sw.length) A8 c8 _ _ (ownM.inS S (i:=1) rfl) (by omega)) ?_;clear H a
    rintro _ _ a ⟨rfl,S2⟩ H
    replace S:=S.call S2;clear S2
    first|rw [hA] at H|rw [hB] at H
    refine wpList_nil (And.intro (S.sel [0,1,2] G G) ?_)
    refine qF H<|qr 2 rfl<|qK ?_;clear H a;intro a H
    refine aJ H G G G G G ?_;clear H a;intro a H
    refine aJ H G G G G G ?_;clear H a;intro a H
    refine aJ H G G G G G ?_;clear H a;intro a H
    refine aJ H G G G G G ?_;clear H a;intro a H
    refine qF H<|qd rfl (fun _ S=>(aR G G G))<|qr 1 rfl<|qK ?_;clear H a;intro a H
    refine aJ H G G G G G ?_;clear H a;intro a H
    refine aJ H G G G G G ?_;clear H a;intro a H
    refine aJ H G G G G G ?_;clear H a;intro a H
    refine aJ H G G G G G ?_;clear H a;intro a H
    refine aJ H G G G G G ?_;clear H a;intro a H
    refine aJ H G G G G G ?_;clear H a;intro a H
    refine aJ H G G G G G ?_;clear H a;intro a H
    refine aJ H G G G G G ?_;clear H a;intro a H
    refine aJ H G G G G G ?_;clear H a;intro a H
    refine qF H<|qd rfl (fun _ S=>(aR G G G))<|qK ?_;clear H a;intro a H
    refine bF ?_
    refine k19 _ _ ?_
    clear k19 K19
    refine cond_ H rfl (fun hc4=>?_) (fun hc4=>?_)
    ·skip
     skip
     cases hc4
    skip
    refine wp_skip ?_
    refine k18 _ _ ?_
    replace H:=H.keep [1,4,6,7,8,19,20] rfl
    refine sO H<|sr 1 rfl<|sd (aK G G (by unfold i64ok;omega))<|sr 1 rfl<|sE ?_;clear H a;intro a H
    exact k15 (g2-1) (q+1,_,_,_,_,_) a _ (by omega) (⟨by omega,by omega,by first|exact zF (by rw [iX hA hB];exact decide_eq_true (by omega)) hb2 hn2|exact iZ (by rw [iX hA hB,decide_eq_true_eq];omega) hb2 hn2|exact iZ (zG hA) hb2 hn2|exact iZ (zH hB) hb2 hn2|exact iZ (by rw [iX hA hB,decide_eq_true_eq];have h9:=hc6.resolve_left (fun h=>h.elim (fun h=>Bool.noConfusion h) (fun h=>Bool.noConfusion h));omega) hb2 hn2,by omega⟩) (S.sel [0,1,2] G G) (H.keep [6,8,1,4,7,19,20] rfl)
   ·skip
    have hsh:=pwc (h:=u) (by omega)
    have hsh2:=pwc (h:=y) (by omega)
    have hwl9:=sN (hz:=hz) (sw:=sw) (ws:=ws) (cl:=lorI (1*2^(u:Int).toNat) (1*2^(y:Int).toNat)) hz.toNat
    replace H:=H.keep [1,4,6,7,8,19,20] rfl
    replace S:=S.drew
    refine seq_wq [(0,true),(1,true),(2,false),(3,true),(4,true),(5,true),(6,true),(7,false),(8,true),(9,true),(10,true),(11,true),(12,true),(13,true),(14,true),(15,true),(16,true),(17,true),(18,true),(19,true),(20,true)] (by kernel_rfl) (by kernel_rfl) (S.sel [0,1,2] G G) fun K21 k21=>?_
    refine qF H<|qr 2 rfl<|qK ?_;clear H a;intro a H
    refine aS rfl ?_
    refine aA H G G Tryz.func35 G G (gY (critN hz sw ws sw.length) A8 c8 _ _ (ownM.inS S (i:=1) rfl) (by omega)) ?_;clear H a
    rintro _ _ a ⟨rfl,S2⟩ H
    replace S:=S.call S2;clear S2
    first|rw [hA] at H|rw [hB] at H
    refine wpList_nil (And.intro (S.sel [0,1,2] G G) ?_)
    refine qF H<|qr 2 rfl<|qK ?_;clear H a;intro a H
    refine aG H G G G G (fun _ S=>aL rfl) ?_;clear H a;intro a H
    refine aG H G G G G (fun _ S=>aL rfl) ?_;clear H a;intro a H
    refine aS rfl ?_
    refine aX H G G ?_
    refine aA H G G Tryz.func35 G G (gY (critN hz sw ws sw.length) A8 c8 _ _ (ownM.inS S (i:=1) rfl) (by omega)) ?_;clear H a
    rintro _ _ a ⟨rfl,S2⟩ H
    replace S:=S.call S2;clear S2
    first|rw [hA] at H|rw [hB] at H
    refine wpList_nil (And.intro (S.sel [0,1,2] G G) ?_)
    refine aG H G G G G (fun _ S=>cL rfl) ?_;clear H a;intro a H
    refine qF H<|qd rfl (fun _ S=>(fD G G G))<|qr 1 rfl<|qK ?_;clear H a;intro a H
    refine aJ H G G G G G ?_;clear H a;intro a H
    refine aJ H G G G G G ?_;clear H a;intro a H
    refine aJ H G G G G G ?_;clear H a;intro a H
    refine aJ H G G G G G ?_;clear H a;intro a H
    refine aJ H G G G G G ?_;clear H a;intro a H
    refine aJ H G G G G G ?_;clear H a;intro a H
    refine aJ H G G G G G ?_;clear H a;intro a H
    refine aJ H G G G G G ?_;clear H a;intro a H
    refine aJ H G G G G G ?_;clear H a;intro a H
    refine qF H<|qd rfl (fun _ S=>(aR G G G))<|qK ?_;clear H a;intro a H
    refine bF ?_
    refine k21 _ _ ?_
    clear k21 K21
    refine cond_ H rfl (fun hc5=>?_) (fun hc5=>?_)
    ·skip
     skip
     cases hc5
    skip
    refine wp_skip ?_
    refine k18 _ _ ?_
    replace H:=H.keep [1,4,6,7,8,19,20] rfl
    refine sO H<|sr 1 rfl<|sd (aK G G (by unfold i64ok;omega))<|sr 1 rfl<|sE ?_;clear H a;intro a H
    exact k15 (g2-1) (q+1,_,_,_,_,_) a _ (by omega) (⟨by omega,by omega,by first|exact zF (by rw [iX hA hB];exact decide_eq_true (by omega)) hb2 hn2|exact iZ (by rw [iX hA hB,decide_eq_true_eq];omega) hb2 hn2|exact iZ (zG hA) hb2 hn2|exact iZ (zH hB) hb2 hn2|exact iZ (by rw [iX hA hB,decide_eq_true_eq];have h9:=hc6.resolve_left (fun h=>h.elim (fun h=>Bool.noConfusion h) (fun h=>Bool.noConfusion h));omega) hb2 hn2,by omega⟩) (S.sel [0,1,2] G G) (H.keep [6,8,1,4,7,19,20] rfl)
   have hsh:=pwc (h:=u) (by omega)
   have hsh2:=pwc (h:=y) (by omega)
   have hwl9:=sN (hz:=hz) (sw:=sw) (ws:=ws) (cl:=lorI (1*2^(u:Int).toNat) (1*2^(y:Int).toNat)) hz.toNat
   replace H:=H.keep [1,4,6,7,8,19,20] rfl
   replace S:=S.drew
   refine seq_wq [(0,true),(1,true),(2,false),(3,true),(4,true),(5,true),(6,true),(7,false),(8,true),(9,true),(10,true),(11,true),(12,true),(13,true),(14,true),(15,true),(16,true),(17,false),(18,true),(19,true),(20,true)] (by kernel_rfl) (by kernel_rfl) (S.sel [0,1,2] G G) fun K23 k23=>?_
   refine qF H<|qr 2 rfl<|qK ?_;clear H a;intro a H
   refine aS rfl ?_
   refine aA H G G Tryz.func35 G G (gY (critN hz sw ws sw.length) A8 c8 _ _ (ownM.inS S (i:=1) rfl) (by omega)) ?_;clear H a
   rintro _ _ a ⟨rfl,S2⟩ H
   replace S:=S.call S2;clear S2
   first|rw [hA] at H|rw [hB] at H
   refine wpList_nil (And.intro (S.sel [0,1,2] G G) ?_)
   refine qF H<|qr 2 rfl<|qK ?_;clear H a;intro a H
   refine aG H G G G G (fun _ S=>aL rfl) ?_;clear H a;intro a H
   refine aG H G G G G (fun _ S=>aL rfl) ?_;clear H a;intro a H
   refine aS rfl ?_
   refine aX H G G ?_
   refine aA H G G Tryz.func35 G G (gY (critN hz sw ws sw.length) A8 c8 _ _ (ownM.inS S (i:=1) rfl) (by omega)) ?_;clear H a
   rintro _ _ a ⟨rfl,S2⟩ H
   replace S:=S.call S2;clear S2
   first|rw [hA] at H|rw [hB] at H
   refine wpList_nil (And.intro (S.sel [0,1,2] G G) ?_)
   refine aG H G G G G (fun _ S=>cL rfl) ?_;clear H a;intro a H
   refine qF H<|qd rfl (fun _ S=>(fD G G G))<|qr 1 rfl<|qK ?_;clear H a;intro a H
   refine aG H G G G G (fun _ S=>(aC eN dR rfl S (i:=2) G G)) ?_;clear H a;intro a H
   refine aG H G G G G (fun _ S=>aL rfl) ?_;clear H a;intro a H
   refine aG H G G G G (fun _ S=>eJ G G (by omega) (by omega) (by unfold i64ok;omega)) ?_;clear H a;intro a H
   refine aG H G G G G (fun _ S=>aL rfl) ?_;clear H a;intro a H
   refine aG H G G G G (fun _ S=>eJ G G (by omega) (by omega) (by unfold i64ok;omega)) ?_;clear H a;intro a H
   refine aG H G G G G (fun _ S=>Qe G G hsh hsh2) ?_;clear H a;intro a H
   refine aS rfl ?_
   refine aX H G G ?_
   refine aA H G G Tryz.func36 G G (Ch hz sw SA sc ws QA qc OA oc (lorI (1*2^(u:Int).toNat) (1*2^(y:Int).toNat)) _ (hsw.now S) (hws.now S) (fun k hk=>(hof k hk).now S) V (Gr hsh hsh2)) ?_;clear H a
   rintro _ _ a ⟨A5,c5,rfl,S2⟩ H
   replace S:=S.call S2;clear S2
   refine wpList_nil (And.intro (S.sel [1,2,3] G G) ?_)
   refine aG H G G G G (fun _ S=>cB aT rfl) ?_;clear H a;intro a H
   refine aG H G G G G (fun _ S=>bV G G) ?_;clear H a;intro a H
   refine qF H<|qd rfl (fun _ S=>(fD G G G))<|qK ?_;clear H a;intro a H
   refine bF ?_
   refine k23 _ _ ?_
   clear k23 K23
   refine cond_ H rfl (fun hc6=>?_) (fun hc6=>?_)
   ·skip
    try simp only [o1,o2,o3,o4,o5,o6,o7,o8,o9,oa] at hc6
    have hno:n≤12*12:=by rw [hn1];exact Nat.le_trans (Qf _) (Nat.mul_le_mul (show u≤12 by omega) (show sw.length≤12 by omega))
    have hpi:=Gs (hz:=hz) (sw:=sw) (ws:=ws) (al:=(critN hz sw ws sw.length)) (a:=u) q
    replace H:=H.keep [1,4,6,7,8,19,20] rfl
    refine one_list ?_
    refine ls 4 H<|sr 3 rfl<|sd (aN yA G G)<|sE ?_;clear H a;intro a H
    refine aZ H rfl S jY Lh Di G G G G G G G G G ?_;clear H a S;intro A1 _ a hA1 S H
    refine bW H rfl S jY Lh Di Vr G G (i:=2) G G G (ownM.inS S (i:=0) rfl) (jS (two G G)) (by omega) (by omega) ?_;clear H a S;intro A2 c2 _ a S H
    refine ls 1 H<|sr 1 rfl<|sE ?_;clear H a;intro a H
    refine k18 _ _ ?_
    replace H:=H.keep [1,4,6,7,8,19,20] rfl
    refine sO H<|sr 1 rfl<|sd (aK G G (by unfold i64ok;omega))<|sr 1 rfl<|sE ?_;clear H a;intro a H
    exact k15 (g2-1) (q+1,_,_,_,_,_) a _ (by omega) (⟨by omega,by omega,by first|exact zF (by rw [iX hA hB];exact decide_eq_true (by omega)) hb2 hn2|exact iZ (by rw [iX hA hB,decide_eq_true_eq];omega) hb2 hn2|exact iZ (zG hA) hb2 hn2|exact iZ (zH hB) hb2 hn2|exact iZ (by rw [iX hA hB,decide_eq_true_eq];have h9:=hc6.resolve_left (fun h=>h.elim (fun h=>Bool.noConfusion h) (fun h=>Bool.noConfusion h));omega) hb2 hn2,by omega⟩) (S.sel [2,3,4] G G) (H.keep [6,8,1,4,7,19,20] rfl)
   try simp only [o1,o2,o3,o4,o5,o6,o7,o8,o9,oa] at hc6
   refine wp_skip ?_
   refine k18 _ _ ?_
   refine sO H<|sr 1 rfl<|sd (aK G G (by unfold i64ok;omega))<|sr 1 rfl<|sE ?_;clear H a;intro a H
   exact k15 (g2-1) (q+1,_,_,_,_,_) a _ (by omega) (⟨by omega,by omega,by first|exact zF (by rw [iX hA hB];exact decide_eq_true (by omega)) hb2 hn2|exact iZ (by rw [iX hA hB,decide_eq_true_eq];omega) hb2 hn2|exact iZ (zG hA) hb2 hn2|exact iZ (zH hB) hb2 hn2|exact iZ (by rw [iX hA hB,decide_eq_true_eq];have h9:=hc6.resolve_left (fun h=>h.elim (fun h=>Bool.noConfusion h) (fun h=>Bool.noConfusion h));omega) hb2 hn2,by omega⟩) (S.sel [1,2,3] G G) (H.keep [6,8,1,4,7,19,20] rfl)
  refine wp_exit ?_
  refine k12 _ _ ?_
  refine sO H<|sd (aK G G (by unfold i64ok;omega))<|sr 1 rfl<|sE ?_;clear H a;intro a H
  exact k9 (g1-1) (u+1,_,_,_,_) a _ (by omega) (⟨by omega,by omega,by rw [pcOut,←hn1,show sw.length-(u+1)=q by omega];exact hn2⟩) (S.sel [0,1,2] G G) (H.keep [6,20,1,4,19] rfl)
 refine wp_exit ?_
 refine k7 _ _ ?_
 replace H:=H.keep [6] rfl
 refine sS H fun K28 k28=>sr 3 rfl<|sE ?_;clear H a;intro a H
 refine k28 _ ?_;clear k28 K28
 refine wp_ret ?_
 refine ret2 (fn:=Tryz.f19) rfl H G G ?_
 obtain rfl:u=sw.length:=by omega
 rw [←hn1]
 exact ⟨_,_,rfl,(S.sel [] G G)⟩
end
section
def exSw:List Int:=[1,1,2,2]
def exWs:List Wr:=[⟨2,[1,2,3,4]⟩,⟨1,[0]⟩,⟨1,[1]⟩,⟨1,[2]⟩,⟨1,[3]⟩]
def exOA (A0 A1 A2 A3 A4:Option Addr) (k:Nat):Option Addr:=[A0,A1,A2,A3,A4].getD k none
def exOc (k:Nat):Nat:=[4,1,1,1,1].getD k 0
theorem exCir:circE 2 exSw exWs=0:=by kernel_rfl
theorem fY:pcOut 2 exSw exWs (critN 2 exSw exWs exSw.length) exSw.length=2:=by kernel_rfl
theorem cN (w:World) :
    Calls Tryz.prog 18 [].toArray w (Ret (fun v w'=>∃ SA A0 A1 A2 A3 A4 QA TA,v = .tuple #[.agg [.int .i64 2,.slice SA 4 4,.slice QA 5 5].toArray,.slice TA 4 4]∧St w noF [ownM 3 1 SA 4 4 (icl exSw),ownM 3 1 A0 4 4 (icl [1,2,3,4]),ownM 3 1 A1 1 1 (icl [0]),ownM 3 1 A2 1 1 (icl [1]),ownM 3 1 A3 1 1 (icl [2]),ownM 3 1 A4 1 1 (icl [3]),ownM 96 2 QA 5 5 (gG exWs (exOA A0 A1 A2 A3 A4) exOc)] w')):=by
 refine enter Tryz.func18 rfl Tryz.ntmps18 rfl (fun a H=>?_)
 have S:=St.start w
 refine seq_list fun K1 k1=>?_
 refine aI H rfl S jP ?_;clear H a S;intro b0 _ a hb0 hbw0 S H
 refine ls 1 H<|sr 1 rfl<|sE ?_;clear H a;intro a H
 refine k1 _ _ ?_;clear k1 K1
 replace H:=H.keep [0] rfl
 refine seq_list fun K2 k2=>?_
 refine aZ H rfl S aT bA fO G G G G G G G G G ?_;clear H a S;intro A1 _ a hA1 S H
 refine aZ H rfl S aT bA fO G G G G G G G G G ?_;clear H a S;intro A2 _ a hA2 S H
 refine ls 1 H<|sd (aN Ak G G)<|sE ?_;clear H a;intro a H
 refine aZ H rfl S aT bA fO G G G G G G G G G ?_;clear H a S;intro A3 _ a hA3 S H
 refine ls 1 H<|sd (aN Ak G G)<|sE ?_;clear H a;intro a H
 refine aZ H rfl S aT bA fO G G G G G G G G G ?_;clear H a S;intro A4 _ a hA4 S H
 refine ls 1 H<|sd (aN Ak G G)<|sE ?_;clear H a;intro a H
 refine aZ H rfl S aT bA fO G G G G G G G G G ?_;clear H a S;intro A5 _ a hA5 S H
 refine ls 1 H<|sd (aN Ak G G)<|sE ?_;clear H a;intro a H
 refine aZ H rfl S aT bA fO G G G G G G G G G ?_;clear H a S;intro A6 _ a hA6 S H
 refine ls 1 H<|sd (aN Ak G G)<|sE ?_;clear H a;intro a H
 refine aZ H rfl S oQ tF Fi G G G G G G G G G ?_;clear H a S;intro A7 _ a hA7 S H
 refine ls 1 H<|sd (aN Yt G G)<|sE ?_;clear H a;intro a H
 refine aI H rfl S jP ?_;clear H a S;intro b2 _ a hb2 hbw2 S H
 refine aF H S (i:=0) G G G G dR G G ?_
 clear H a S;intro _ a S H
 refine k2 _ _ ?_;clear k2 K2
 replace H:=H.keep [0,2] rfl
 refine seq_list fun K3 k3=>?_
 refine ls 5 H<|sd ((aC eN dR rfl S (i:=0) G G))<|sd (aN Fj G G)<|sd (aN Fj G G)<|sd (aN Fj G G)<|sd (aN Fj G G)<|sE ?_;clear H a;intro a H
 refine aZ H rfl S Yo Yn Vd G G G G G G G G G ?_;clear H a S;intro A8 _ a hA8 S H
 refine aF H S (i:=9) G G G G dR G G ?_
 clear H a S;intro _ a S H
 refine ls 1 H<|sr 1 rfl<|sE ?_;clear H a;intro a H
 refine k3 _ _ ?_;clear k3 K3
 refine wp_ret ?_
 refine retA1 (fn:=Tryz.f18) rfl H rfl eN (by exact dR) (dS S (i:=9) rfl) rfl ?_
 replace S:=S.recell (i:=8) rfl (cell':=icl exSw) (fun k j hk hj=>by
   obtain rfl:j=0:=by omega
   rcases k with _|_|_|_|k <;> first|rfl|(exfalso;omega))
 replace S:=S.recell (i:=7) rfl (cell':=icl [1,2,3,4]) (fun k j hk hj=>by
   obtain rfl:j=0:=by omega
   rcases k with _|_|_|_|k <;> first|rfl|(exfalso;omega))
 replace S:=S.recell (i:=6) rfl (cell':=icl [0]) (fun k j hk hj=>by
   obtain rfl:j=0:=by omega
   rcases k with _|_|_|_|k <;> first|rfl|(exfalso;omega))
 replace S:=S.recell (i:=5) rfl (cell':=icl [1]) (fun k j hk hj=>by
   obtain rfl:j=0:=by omega
   rcases k with _|_|_|_|k <;> first|rfl|(exfalso;omega))
 replace S:=S.recell (i:=4) rfl (cell':=icl [2]) (fun k j hk hj=>by
   obtain rfl:j=0:=by omega
   rcases k with _|_|_|_|k <;> first|rfl|(exfalso;omega))
 replace S:=S.recell (i:=3) rfl (cell':=icl [3]) (fun k j hk hj=>by
   obtain rfl:j=0:=by omega
   rcases k with _|_|_|_|k <;> first|rfl|(exfalso;omega))
 refine ⟨A1,A2,A3,A4,A5,A6,A7,A8,rfl,?_⟩
 replace S:=S.recell (i:=2) rfl (cell':=gG exWs (exOA A2 A3 A4 A5 A6) exOc) (fun k j hk hj=>by
   rcases j with _|_|j
   · rcases k with _|_|_|_|_|k <;> first|rfl|(exfalso;omega)
   · rcases k with _|_|_|_|_|k <;> first|rfl|(exfalso;omega)
   · exfalso;omega)
 exact (S.sel [8,7,6,5,4,3,2] G G)
end
section
theorem Xh {sz:Nat} {c d:Nat→Nat→Value} (h0:∀ j,j<sz→c 0 j=d 0 j) (h1:∀ j,j<sz→c 1 j=d 1 j):∀ k j,k<2→j<sz→c k j=d k j:=by
  intro k j hk hj
  have:k=0∨k=1:=by omega
  rcases this with rfl|rfl
  · exact h0 j hj
  · exact h1 j hj
section
variable {P:Program} {w:World} {L:List (Nat×Value)} {ty:TypeId} {pos:String} {af:Array Edge} {dd:Option Nat} {g:Option (Nat×Bool)} {a:Act}
set_option maxRecDepth 100000 in
theorem cF {x y:Operand} {yt:TypeId} {a b c d:Int} (hx:ev L x=some (.agg [.int .i64 a,.int .i64 b].toArray)) (hy:ev L y=some (.agg [.int .i64 c,.int .i64 d].toArray)) :
    Does Tryz.prog L ⟨dd,.binOp .eql 58 x y yt,ty,pos,af,g⟩ w (.bool (decide (a=c)&&decide (b=d))):=fun ρ hρ=>by
  have e:(binOp .eql 58 (.agg #[.int .i64 a,.int .i64 b]) (.agg #[.int .i64 c,.int .i64 d])).run Tryz.prog w = .ok (.bool (decide (a=c)&&decide (b=d))) w:=by
    simp only [binOp]
    simp [Op.equal,Op.maxDepth,Fx]
    by_cases h1:a=c <;> by_cases h2:b=d <;> simp [h1,h2]
  simp only [execOp,hρ _ _ hx,hρ _ _ hy]
  simp [uM,e]
end
end
section
structure Brake where
  force:Int
  delay:Int
deriving DecidableEq
def Brake.zero:Brake:=⟨0,0⟩
def Brake.cell (b:Brake):Nat→Value
  | 0 => .int .i64 b.force
  | _ => .int .i64 b.delay
def bcell (l:List Brake) (k j:Nat):Value:=(l.getD k Brake.zero).cell j
structure Esc where
  up:Bool
  empty:Int
  pull:Int
  drag:Int
  motor:Int
  br:List Brake
structure Stp where
  speed:Int
  lo:Int
  hi:Int
  fail:Int
def gZ (b:Brake):Bool:=decide (0≤b.force∧b.force≤10000000∧0≤b.delay∧b.delay≤20)
def escOk (e:Esc):Bool:=decide (1≤e.empty∧e.empty≤100000∧0≤e.pull∧e.pull≤100∧0≤e.drag∧e.drag≤10000000∧0≤e.motor∧e.motor≤10000000∧e.br.length≤3)&&e.br.all gZ
def stpOk (e:Esc) (s:Stp):Bool:=decide (0≤s.speed∧s.speed≤1000∧0≤s.lo∧s.lo≤s.hi∧s.hi≤100000∧0≤s.fail∧s.fail<2^e.br.length)
def stopE (e:Esc) (s:Stp):Int:=if escOk e=true then (if stpOk e s=true then 0 else 11) else 10
def oG (v g f m:Int):Int:=max 0 (v+(g-f)/m)
def tickI (e:Esc) (v load brakes:Int):Int:=
  let g:=if e.up then -(e.pull*load) else e.pull*load
  if v<0∨v=0∧g<0 then -oG (-v) (-g) (e.drag+brakes) (e.empty+load) else oG v g (e.drag+brakes) (e.empty+load)
def iG (fail t:Int) (l:List Brake):Nat→Int
  | 0=>0
  | k+1=>iG fail t l k+(if fail/2^k%2=0∧(l.getD k Brake.zero).delay≤t then (l.getD k Brake.zero).force else 0)
theorem vH {fail t:Int} {l:List Brake} {k:Nat} (h:fail/2^k%2=0∧(l.getD k Brake.zero).delay≤t):iG fail t l k+(l.getD k Brake.zero).force=iG fail t l (k+1):=by
  conv=>rhs;unfold iG
  rw [if_pos h]
theorem xA {fail t:Int} {l:List Brake} {k:Nat} (h:¬ (fail/2^k%2=0∧(l.getD k Brake.zero).delay≤t)):iG fail t l k=iG fail t l (k+1):=by
  conv=>rhs;unfold iG
  rw [if_neg h,Int.add_zero]
def gripI (e:Esc) (s:Stp) (t:Int):Int:=iG s.fail t e.br e.br.length
def extI (e:Esc) (s:Stp) (most:Bool) (v t:Int):Int:=
  let a:=tickI e v s.lo (gripI e s t);let b:=tickI e v s.hi (gripI e s t)
  if (most=true∧b > a)∨(most=false∧b<a) then b else a
def goI (e:Esc) (s:Stp) (most:Bool):Nat→Int→Int→Int×Bool
  | 0,v,_=>(0,decide (v=0))
  | n+1,v,t=>if v=0 then (0,true) else (extI e s most v t+(goI e s most n (extI e s most v t) (t+1)).1,(goI e s most n (extI e s most v t) (t+1)).2)
theorem zI {fail t:Int} {l:List Brake} (h:l.all gZ=true):∀ k,k≤l.length→0≤iG fail t l k∧iG fail t l k≤10000000*k:=by
  intro k
  induction k with
  | zero=>intro _;unfold iG;omega
  | succ k ih=>
    intro hk
    have h1:=ih (by omega)
    have hb:gZ (l.getD k Brake.zero)=true:=by
      rw [List.getD_eq_getElem?_getD,List.getElem?_eq_getElem (by omega)]
      exact List.all_eq_true.1 h _ (List.getElem_mem _)
    unfold gZ at hb
    simp only [decide_eq_true_eq] at hb
    unfold iG
    split <;> omega
theorem dP {e:Esc} (h:escOk e=true):(1≤e.empty∧e.empty≤100000∧0≤e.pull∧e.pull≤100∧0≤e.drag∧e.drag≤10000000∧0≤e.motor∧e.motor≤10000000∧e.br.length≤3)∧(∀ k,k<e.br.length→gZ (e.br.getD k Brake.zero)=true)∧(2:Int)^((e.br.length:Int)).toNat=2^e.br.length∧1≤(2:Int)^e.br.length∧(2:Int)^e.br.length≤8:=by
  unfold escOk at h
  simp only [Bool.and_eq_true,decide_eq_true_eq] at h
  have h2:=h.1.2.2.2.2.2.2.2.2
  have h3:e.br.length=0∨e.br.length=1∨e.br.length=2∨e.br.length=3:=by omega
  refine ⟨h.1,fun k hk=>?_,by rw [Int.toNat_natCast],?_⟩
  · rw [List.getD_eq_getElem?_getD,List.getElem?_eq_getElem hk]
    exact List.all_eq_true.1 h.2 _ (List.getElem_mem hk)
  · rcases h3 with e|e|e|e <;> rw [e] <;> decide
theorem Ul {e:Esc} {s:Stp} (h:stopE e s=0):escOk e=true∧stpOk e s=true:=by
  unfold stopE at h
  split at h
  · split at h
    · exact ⟨by assumption,by assumption⟩
    · cases h
  · cases h
theorem vI {x m B:Int} (hm:0<m) (h : -B≤x∧x≤B) : -B≤x/m∧x/m≤B:=by
  constructor
  · rw [Int.le_ediv_iff_mul_le hm]
    have:B*1≤B*m:=Int.mul_le_mul_of_nonneg_left (by omega) (by omega)
    rw [Int.neg_mul];omega
  · have:=Int.ediv_le_ediv hm h.2
    have:=Int.ediv_le_self m (show 0≤B by omega)
    omega
theorem Gt {e:Esc} {v x f B:Int} (he:escOk e=true) (hx:0≤x∧x≤100000) (hf:0≤f∧f≤30000000) (hv : -B≤v∧v≤B) : -(B+50000000)≤tickI e v x f∧tickI e v x f≤B+50000000:=by
  obtain ⟨h1,_⟩:=dP he
  have h2:0≤e.pull*x:=Int.mul_nonneg (by omega) (by omega)
  have h3:e.pull*x≤100*100000:=Int.mul_le_mul (by omega) (by omega) (by omega) (by omega)
  unfold tickI oG
  simp only
  generalize hg:(if e.up=true then -(e.pull*x) else e.pull*x)=g
  have h4 : -10000000≤g∧g≤10000000:=by rw [←hg];split <;> omega
  have h5:=vI (x:=g-(e.drag+f)) (B:=50000000) (show 0<e.empty+x by omega) (by omega)
  have h6:=vI (x := -g-(e.drag+f)) (B:=50000000) (show 0<e.empty+x by omega) (by omega)
  split <;> omega
theorem zJ {e:Esc} {s:Stp} {m:Bool} {v t:Int} (h:(m=true∧tickI e v s.hi (gripI e s t) > tickI e v s.lo (gripI e s t))∨(m=false∧tickI e v s.hi (gripI e s t)<tickI e v s.lo (gripI e s t))):extI e s m v t=tickI e v s.hi (gripI e s t):=by
  unfold extI
  exact if_pos h
theorem zK {e:Esc} {s:Stp} {m:Bool} {v t:Int} (h:¬ ((m=true∧tickI e v s.hi (gripI e s t) > tickI e v s.lo (gripI e s t))∨(m=false∧tickI e v s.hi (gripI e s t)<tickI e v s.lo (gripI e s t)))):extI e s m v t=tickI e v s.lo (gripI e s t):=by
  unfold extI
  exact if_neg h
theorem Xi {e:Esc} {s:Stp} {m:Bool} {v t:Int}:extI e s m v t=tickI e v s.lo (gripI e s t)∨extI e s m v t=tickI e v s.hi (gripI e s t):=by
  unfold extI
  simp only
  split
  · exact .inr rfl
  · exact .inl rfl
def distI (e:Esc) (s:Stp):Int×Int×Int:=
  if stopE e s≠0 then (0,0,stopE e s) else if (goI e s true 100 s.speed 0).2=true then ((goI e s false 100 s.speed 0).1,(goI e s true 100 s.speed 0).1,0) else (0,0,12)
end
section
theorem Ex (n lo hi:Int) (w:World) :
    Calls Tryz.prog 59 [.int .i64 n,.agg [.int .i64 lo,.int .i64 hi].toArray].toArray w (Ret (fun v w'=>v = .bool (decide (lo≤n)&&decide (n≤hi))∧St w noF [] w')):=by
 refine enter Tryz.func59 rfl Tryz.ntmps59 rfl (fun a H=>?_)
 have S:=St.start w
 refine seq_list fun K1 k1=>?_
 refine aO H rfl S G G ?_;clear H a S;intro b3 _ a hb3 hbw3 S H
 refine ls 1 H<|sr 1 rfl<|sE ?_;clear H a;intro a H
 refine k1 _ _ ?_;clear k1 K1
 replace H:=H.keep [0,3] rfl
 refine sS H fun K2 k2=>sf bH rfl<|sl S 0 aD G G G<|sr 3 rfl<|sg 4 4 9 13 true G G (fun hg5=>sy hg5<|sr 1 rfl<|sy hg5<|sf bG rfl<|sy hg5<|sl S 0 aD G G G<|sy hg5<|sr 1 rfl<|sz 4 G G G)<|sa G G G<|sr 1 rfl<|sE ?_;clear H a;intro a H
 refine k2 _ ?_;clear k2 K2
 refine wp_ret ?_
 refine ret1 (fn:=Tryz.f59) rfl H rfl ?_
 exact ⟨rfl,(S.sel [] G G)⟩
theorem dX (hi:Int) (w:World) :
    Calls Tryz.prog 60 [.int .i64 hi].toArray w (Ret (fun v w'=>v = .agg [.int .i64 0,.int .i64 hi].toArray∧St w noF [] w')):=by
 refine enter Tryz.func60 rfl Tryz.ntmps60 rfl (fun a H=>?_)
 have S:=St.start w
 refine seq_list fun K1 k1=>?_
 refine aI H rfl S cC ?_;clear H a S;intro b2 _ a hb2 hbw2 S H
 refine k1 _ _ ?_;clear k1 K1
 refine seq_list fun K2 k2=>?_
 refine ls 2 H<|sr 1 rfl<|sd (aN dV G G)<|sE ?_;clear H a;intro a H
 refine aF H S (i:=0) G G G G aQ G G ?_
 clear H a S;intro _ a S H
 refine k2 _ _ ?_;clear k2 K2
 refine wp_ret ?_
 refine retA (fn:=Tryz.f60) rfl H rfl bD (by exact aQ) (dS S (i:=0) rfl) ?_
 exact ⟨rfl,(S.sel [] G G)⟩
theorem cJ {n lo hi:Int} {w:World} (h:lo≤n∧n≤hi):Calls Tryz.prog 59 [.int .i64 n,.agg [.int .i64 lo,.int .i64 hi].toArray].toArray w (Ret fun v w'=>v = .bool true∧St w noF [] w'):=
  eD (Ex n lo hi w) fun v w' h'=>⟨h'.1.trans (congrArg Value.bool (by rw [decide_eq_true h.1,decide_eq_true h.2];rfl)),h'.2⟩
theorem kV {n lo hi:Int} {w:World} (h:n<lo∨hi<n):Calls Tryz.prog 59 [.int .i64 n,.agg [.int .i64 lo,.int .i64 hi].toArray].toArray w (Ret fun v w'=>v = .bool false∧St w noF [] w'):=
  eD (Ex n lo hi w) fun v w' h'=>⟨h'.1.trans (congrArg Value.bool (by rw [Bool.and_eq_false_iff];simp only [decide_eq_false_iff_not];omega)),h'.2⟩
theorem Kl (b:Brake) (w:World) :
    Calls Tryz.prog 89 [.agg [.int .i64 b.force,.int .i64 b.delay].toArray].toArray w (Ret (fun v w'=>v = .bool (gZ b)∧St w noF [] w')):=by
 refine enter Tryz.func89 rfl Tryz.ntmps89 rfl (fun a H=>?_)
 have S:=St.start w
 refine seq_list fun K1 k1=>?_
 refine aO H rfl S G G ?_;clear H a S;intro b1 _ a hb1 hbw1 S H
 refine ls 1 H<|sr 1 rfl<|sE ?_;clear H a;intro a H
 refine k1 _ _ ?_;clear k1 K1
 by_cases hs:0≤b.force∧b.force≤10000000
 ·skip
  replace H:=H.keep [1] rfl
  replace S:=S.drew
  refine seq_wq [(0,true),(1,true),(2,false),(3,false),(4,true),(5,true),(6,true),(7,false),(8,false),(9,true),(10,true)] (by kernel_rfl) (by kernel_rfl) (S.sel [0] G G) fun K2 k2=>?_
  refine qF H<|qd rfl (fun _ S=>(aB xY rfl))<|qd rfl (fun _ S=>aE aD rfl (boxM.rd S (i:=0) G G))<|qK ?_;clear H a;intro a H
  refine aS rfl ?_
  refine aA H G G Tryz.func60 G G (dX _ _) ?_;clear H a
  rintro _ _ a ⟨rfl,S2⟩ H
  replace S:=S.call S2;clear S2
  refine wpList_nil (And.intro (S.sel [0] G G) ?_)
  refine aS rfl ?_
  refine aA H G G Tryz.func59 G G (cJ (by omega)) ?_;clear H a
  rintro _ _ a ⟨rfl,S2⟩ H
  replace S:=S.call S2;clear S2
  refine wpList_nil (And.intro (S.sel [0] G G) ?_)
  refine qF H<|qr 1 rfl<|qK ?_;clear H a;intro a H
  refine aG H G G G G (fun _ S=>(aB Ff rfl)) ?_;clear H a;intro a H
  refine aG H G G G G (fun _ S=>aE aD rfl (boxM.rd S (i:=0) G G)) ?_;clear H a;intro a H
  refine aS rfl ?_
  refine aX H G G ?_
  refine aA H G G Tryz.func60 G G (dX _ _) ?_;clear H a
  rintro _ _ a ⟨rfl,S2⟩ H
  replace S:=S.call S2;clear S2
  refine wpList_nil (And.intro (S.sel [0] G G) ?_)
  refine aS rfl ?_
  refine aX H G G ?_
  refine aA H G G Tryz.func59 G G (Ex _ _ _ _) ?_;clear H a
  rintro _ _ a ⟨rfl,S2⟩ H
  replace S:=S.call S2;clear S2
  refine wpList_nil (And.intro (S.sel [0] G G) ?_)
  refine qF H<|qd rfl (fun _ S=>(fD G G G))<|qr 1 rfl<|qK ?_;clear H a;intro a H
  refine bF ?_
  refine k2 _ _ ?_
  clear k2 K2
  refine wp_ret ?_
  refine ret1 (fn:=Tryz.f89) rfl H rfl ?_
  refine ⟨congrArg Value.bool ?_,(S.sel [] G G)⟩
  unfold gZ
  first|(rw [Bool.eq_iff_iff];simp only [Bool.and_eq_true,decide_eq_true_eq,true_and];omega)|(symm;simp only [decide_eq_false_iff_not];omega)
 replace H:=H.keep [1] rfl
 replace S:=S.drew
 refine seq_wq [(0,true),(1,true),(2,false),(3,false),(4,true),(5,true),(6,true),(7,true),(8,true),(9,true),(10,true)] (by kernel_rfl) (by kernel_rfl) (S.sel [0] G G) fun K3 k3=>?_
 refine qF H<|qd rfl (fun _ S=>(aB xY rfl))<|qd rfl (fun _ S=>aE aD rfl (boxM.rd S (i:=0) G G))<|qK ?_;clear H a;intro a H
 refine aS rfl ?_
 refine aA H G G Tryz.func60 G G (dX _ _) ?_;clear H a
 rintro _ _ a ⟨rfl,S2⟩ H
 replace S:=S.call S2;clear S2
 refine wpList_nil (And.intro (S.sel [0] G G) ?_)
 refine aS rfl ?_
 refine aA H G G Tryz.func59 G G (kV (by omega)) ?_;clear H a
 rintro _ _ a ⟨rfl,S2⟩ H
 replace S:=S.call S2;clear S2
 refine wpList_nil (And.intro (S.sel [0] G G) ?_)
 refine qF H<|qr 1 rfl<|qK ?_;clear H a;intro a H
 refine aJ H G G G G G ?_;clear H a;intro a H
 refine aJ H G G G G G ?_;clear H a;intro a H
 refine aJ H G G G G G ?_;clear H a;intro a H
 refine aJ H G G G G G ?_;clear H a;intro a H
 refine qF H<|qd rfl (fun _ S=>(aR G G G))<|qr 1 rfl<|qK ?_;clear H a;intro a H
 refine bF ?_
 refine k3 _ _ ?_
 clear k3 K3
 refine wp_ret ?_
 refine ret1 (fn:=Tryz.f89) rfl H rfl ?_
 refine ⟨congrArg Value.bool ?_,(S.sel [] G G)⟩
 unfold gZ
 first|(rw [Bool.eq_iff_iff];simp only [Bool.and_eq_true,decide_eq_true_eq,true_and];omega)|(symm;simp only [decide_eq_false_iff_not];omega)
theorem xB (up:Bool) (empty pull drag motor:Int) (br:List Brake) (BA:Option Addr) (bcp:Nat) (w:World) (hb:InS w noF 2 BA br.length (bcell br)) (hbn:br.length≤9223372036854775807) :
    Calls Tryz.prog 58 [.agg [.bool up,.int .i64 empty,.int .i64 pull,.int .i64 drag,.int .i64 motor,.slice BA br.length bcp].toArray].toArray w (Ret (fun v w'=>v = .int .i64 (if escOk (⟨up,empty,pull,drag,motor,br⟩:Esc)=true then 0 else 10)∧St w noF [] w')):=by
 refine enter Tryz.func58 rfl Tryz.ntmps58 rfl (fun a H=>?_)
 have S:=St.start w
 refine seq_list fun K1 k1=>?_
 refine aO H rfl S G G ?_;clear H a S;intro b1 _ a hb1 hbw1 S H
 refine ls 1 H<|sr 1 rfl<|sE ?_;clear H a;intro a H
 refine k1 _ _ ?_;clear k1 K1
 refine sS H fun K2 k2=>sr 1 rfl<|sE ?_;clear H a;intro a H
 refine k2 _ ?_;clear k2 K2
 refine wp_seq_k fun K3 k3=>?_
 rcases (show (empty<1∨(1≤empty∧100000<empty)∨(1≤empty∧empty≤100000∧(pull<0∨100<pull)))∨((1≤empty∧empty≤100000∧0≤pull∧pull≤100)∧((drag<0∨10000000<drag)∨((0≤drag∧drag≤10000000)∧(motor<0∨10000000<motor))∨((0≤drag∧drag≤10000000∧0≤motor∧motor≤10000000)∧3<(br.length:Int))∨((0≤drag∧drag≤10000000∧0≤motor∧motor≤10000000)∧(br.length:Int)≤3))) by omega) with (hs|hs|hs)|⟨hs0,hs|hs|hs|hs⟩
 ·skip
  skip
  replace H:=H.keep [1,3] rfl
  replace S:=S.drew
  refine seq_wq [(0,true),(1,true),(2,true),(3,true),(4,true),(5,true),(6,true),(7,true),(8,true),(9,true),(10,true),(11,true),(12,true),(13,true),(14,true),(15,true),(16,true),(17,true),(18,true),(19,true),(20,true),(21,true),(22,true),(23,true),(24,true),(25,true),(26,true),(27,true),(28,true),(29,true),(30,true),(31,true),(32,true),(33,true),(34,true)] (by kernel_rfl) (by kernel_rfl) (S.sel [0] G G) fun K4 k4=>?_
  refine qF H<|qd rfl (fun _ S=>(aB fC rfl))<|qd rfl (fun _ S=>aE aD rfl (boxM.rd S (i:=0) G G))<|qd rfl (fun _ S=>Does.to (dI G G) (congrArg Value.bool (decide_eq_true (by omega))))<|qr 1 rfl<|qK ?_;clear H a;intro a H
  refine aJ H G G G G G ?_;clear H a;intro a H
  refine aJ H G G G G G ?_;clear H a;intro a H
  refine aJ H G G G G G ?_;clear H a;intro a H
  refine qF H<|qd rfl (fun _ S=>(aR G G G))<|qr 1 rfl<|qK ?_;clear H a;intro a H
  refine aJ H G G G G G ?_;clear H a;intro a H
  refine aJ H G G G G G ?_;clear H a;intro a H
  refine aJ H G G G G G ?_;clear H a;intro a H
  refine aJ H G G G G G ?_;clear H a;intro a H
  refine aJ H G G G G G ?_;clear H a;intro a H
  refine qF H<|qd rfl (fun _ S=>(aR G G G))<|qr 1 rfl<|qK ?_;clear H a;intro a H
  refine aJ H G G G G G ?_;clear H a;intro a H
  refine aJ H G G G G G ?_;clear H a;intro a H
  refine aJ H G G G G G ?_;clear H a;intro a H
  refine aJ H G G G G G ?_;clear H a;intro a H
  refine aJ H G G G G G ?_;clear H a;intro a H
  refine qF H<|qd rfl (fun _ S=>(aR G G G))<|qr 1 rfl<|qK ?_;clear H a;intro a H
  refine aJ H G G G G G ?_;clear H a;intro a H
  refine aJ H G G G G G ?_;clear H a;intro a H
  refine aJ H G G G G G ?_;clear H a;intro a H
  refine aJ H G G G G G ?_;clear H a;intro a H
  refine aJ H G G G G G ?_;clear H a;intro a H
  refine qF H<|qd rfl (fun _ S=>(aR G G G))<|qr 1 rfl<|qK ?_;clear H a;intro a H
  refine aJ H G G G G G ?_;clear H a;intro a H
  refine aJ H G G G G G ?_;clear H a;intro a H
  refine aJ H G G G G G ?_;clear H a;intro a H
  refine aJ H G G G G G ?_;clear H a;intro a H
  refine qF H<|qd rfl (fun _ S=>(aR G G G))<|qK ?_;clear H a;intro a H
  refine bF ?_
  refine k4 _ _ ?_
  clear k4 K4
  refine cond_ H rfl (fun hc1=>?_) (fun hc1=>?_)
  ·skip
   skip
   replace H:=H.keep [] rfl
   refine sS H fun K5 k5=>sr 1 rfl<|sE ?_;clear H a;intro a H
   refine k5 _ ?_;clear k5 K5
   refine wp_ret ?_
   refine ret1 (fn:=Tryz.f58) rfl H rfl ?_
   refine ⟨?_,(S.sel [] rfl rfl)⟩;rw [if_neg (by unfold escOk;simp only [Bool.and_eq_true,decide_eq_true_eq];rintro ⟨h1,_⟩;omega)]
  skip
  exact absurd hc1 (by decide)
 ·skip
  skip
  replace H:=H.keep [1,3] rfl
  replace S:=S.drew
  refine seq_wq [(0,true),(1,true),(2,true),(3,true),(4,true),(5,true),(6,true),(7,true),(8,true),(9,true),(10,true),(11,true),(12,true),(13,true),(14,true),(15,true),(16,true),(17,true),(18,true),(19,true),(20,true),(21,true),(22,true),(23,true),(24,true),(25,true),(26,true),(27,true),(28,true),(29,true),(30,true),(31,true),(32,true),(33,true),(34,true)] (by kernel_rfl) (by kernel_rfl) (S.sel [0] G G) fun K6 k6=>?_
  refine qF H<|qd rfl (fun _ S=>(aB fC rfl))<|qd rfl (fun _ S=>aE aD rfl (boxM.rd S (i:=0) G G))<|qd rfl (fun _ S=>Does.to (dI G G) (congrArg Value.bool (decide_eq_false (by omega))))<|qr 1 rfl<|qK ?_;clear H a;intro a H
  refine aG H G G G G (fun _ S=>(aB fC rfl)) ?_;clear H a;intro a H
  refine aG H G G G G (fun _ S=>aE aD rfl (boxM.rd S (i:=0) G G)) ?_;clear H a;intro a H
  refine aG H G G G G (fun _ S=>Does.to (bV G G) (congrArg Value.bool (decide_eq_true (by omega)))) ?_;clear H a;intro a H
  refine qF H<|qd rfl (fun _ S=>(aY G G G))<|qr 1 rfl<|qK ?_;clear H a;intro a H
  refine aJ H G G G G G ?_;clear H a;intro a H
  refine aJ H G G G G G ?_;clear H a;intro a H
  refine aJ H G G G G G ?_;clear H a;intro a H
  refine aJ H G G G G G ?_;clear H a;intro a H
  refine aJ H G G G G G ?_;clear H a;intro a H
  refine qF H<|qd rfl (fun _ S=>(aR G G G))<|qr 1 rfl<|qK ?_;clear H a;intro a H
  refine aJ H G G G G G ?_;clear H a;intro a H
  refine aJ H G G G G G ?_;clear H a;intro a H
  refine aJ H G G G G G ?_;clear H a;intro a H
  refine aJ H G G G G G ?_;clear H a;intro a H
  refine aJ H G G G G G ?_;clear H a;intro a H
  refine qF H<|qd rfl (fun _ S=>(aR G G G))<|qr 1 rfl<|qK ?_;clear H a;intro a H
  refine aJ H G G G G G ?_;clear H a;intro a H
  refine aJ H G G G G G ?_;clear H a;intro a H
  refine aJ H G G G G G ?_;clear H a;intro a H
  refine aJ H G G G G G ?_;clear H a;intro a H
  refine aJ H G G G G G ?_;clear H a;intro a H
  refine qF H<|qd rfl (fun _ S=>(aR G G G))<|qr 1 rfl<|qK ?_;clear H a;intro a H
  refine aJ H G G G G G ?_;clear H a;intro a H
  refine aJ H G G G G G ?_;clear H a;intro a H
  refine aJ H G G G G G ?_;clear H a;intro a H
  refine aJ H G G G G G ?_;clear H a;intro a H
  refine qF H<|qd rfl (fun _ S=>(aR G G G))<|qK ?_;clear H a;intro a H
  refine bF ?_
  refine k6 _ _ ?_
  clear k6 K6
  refine cond_ H rfl (fun hc2=>?_) (fun hc2=>?_)
  ·skip
   skip
   replace H:=H.keep [] rfl
   refine sS H fun K7 k7=>sr 1 rfl<|sE ?_;clear H a;intro a H
   refine k7 _ ?_;clear k7 K7
   refine wp_ret ?_
   refine ret1 (fn:=Tryz.f58) rfl H rfl ?_
   refine ⟨?_,(S.sel [] rfl rfl)⟩;rw [if_neg (by unfold escOk;simp only [Bool.and_eq_true,decide_eq_true_eq];rintro ⟨h1,_⟩;omega)]
  skip
  exact absurd hc2 (by decide)
 ·skip
  skip
  replace H:=H.keep [1,3] rfl
  replace S:=S.drew
  refine seq_wq [(0,true),(1,true),(2,true),(3,true),(4,true),(5,true),(6,true),(7,true),(8,true),(9,true),(10,true),(11,false),(12,false),(13,true),(14,true),(15,true),(16,true),(17,true),(18,true),(19,true),(20,true),(21,true),(22,true),(23,true),(24,true),(25,true),(26,true),(27,true),(28,true),(29,true),(30,true),(31,true),(32,true),(33,true),(34,true)] (by kernel_rfl) (by kernel_rfl) (S.sel [0] G G) fun K8 k8=>?_
  refine qF H<|qd rfl (fun _ S=>(aB fC rfl))<|qd rfl (fun _ S=>aE aD rfl (boxM.rd S (i:=0) G G))<|qd rfl (fun _ S=>Does.to (dI G G) (congrArg Value.bool (decide_eq_false (by omega))))<|qr 1 rfl<|qK ?_;clear H a;intro a H
  refine aG H G G G G (fun _ S=>(aB fC rfl)) ?_;clear H a;intro a H
  refine aG H G G G G (fun _ S=>aE aD rfl (boxM.rd S (i:=0) G G)) ?_;clear H a;intro a H
  refine aG H G G G G (fun _ S=>Does.to (bV G G) (congrArg Value.bool (decide_eq_false (by omega)))) ?_;clear H a;intro a H
  refine qF H<|qd rfl (fun _ S=>(aY G G G))<|qr 1 rfl<|qK ?_;clear H a;intro a H
  refine aG H G G G G (fun _ S=>(aB mS rfl)) ?_;clear H a;intro a H
  refine aG H G G G G (fun _ S=>aE aD rfl (boxM.rd S (i:=0) G G)) ?_;clear H a;intro a H
  refine aS rfl ?_
  refine aX H G G ?_
  refine aA H G G Tryz.func60 G G (dX _ _) ?_;clear H a
  rintro _ _ a ⟨rfl,S2⟩ H
  replace S:=S.call S2;clear S2
  refine wpList_nil (And.intro (S.sel [0] G G) ?_)
  refine aS rfl ?_
  refine aX H G G ?_
  refine aA H G G Tryz.func59 G G (kV (by omega)) ?_;clear H a
  rintro _ _ a ⟨rfl,S2⟩ H
  replace S:=S.call S2;clear S2
  refine wpList_nil (And.intro (S.sel [0] G G) ?_)
  refine aG H G G G G (fun _ S=>cL rfl) ?_;clear H a;intro a H
  refine qF H<|qd rfl (fun _ S=>(aY G G G))<|qr 1 rfl<|qK ?_;clear H a;intro a H
  refine aJ H G G G G G ?_;clear H a;intro a H
  refine aJ H G G G G G ?_;clear H a;intro a H
  refine aJ H G G G G G ?_;clear H a;intro a H
  refine aJ H G G G G G ?_;clear H a;intro a H
  refine aJ H G G G G G ?_;clear H a;intro a H
  refine qF H<|qd rfl (fun _ S=>(aR G G G))<|qr 1 rfl<|qK ?_;clear H a;intro a H
  refine aJ H G G G G G ?_;clear H a;intro a H
  refine aJ H G G G G G ?_;clear H a;intro a H
  refine aJ H G G G G G ?_;clear H a;intro a H
  refine aJ H G G G G G ?_;clear H a;intro a H
  refine aJ H G G G G G ?_;clear H a;intro a H
  refine qF H<|qd rfl (fun _ S=>(aR G G G))<|qr 1 rfl<|qK ?_;clear H a;intro a H
  refine aJ H G G G G G ?_;clear H a;intro a H
  refine aJ H G G G G G ?_;clear H a;intro a H
  refine aJ H G G G G G ?_;clear H a;intro a H
  refine aJ H G G G G G ?_;clear H a;intro a H
  refine qF H<|qd rfl (fun _ S=>(aR G G G))<|qK ?_;clear H a;intro a H
  refine bF ?_
  refine k8 _ _ ?_
  clear k8 K8
  refine cond_ H rfl (fun hc3=>?_) (fun hc3=>?_)
  ·skip
   skip
   replace H:=H.keep [] rfl
   refine sS H fun K9 k9=>sr 1 rfl<|sE ?_;clear H a;intro a H
   refine k9 _ ?_;clear k9 K9
   refine wp_ret ?_
   refine ret1 (fn:=Tryz.f58) rfl H rfl ?_
   refine ⟨?_,(S.sel [] rfl rfl)⟩;rw [if_neg (by unfold escOk;simp only [Bool.and_eq_true,decide_eq_true_eq];rintro ⟨h1,_⟩;omega)]
  skip
  exact absurd hc3 (by decide)
 ·skip
  skip
  replace H:=H.keep [1,3] rfl
  replace S:=S.drew
  refine seq_wq [(0,true),(1,true),(2,true),(3,true),(4,true),(5,true),(6,true),(7,true),(8,true),(9,true),(10,true),(11,false),(12,false),(13,true),(14,true),(15,true),(16,true),(17,true),(18,false),(19,false),(20,true),(21,true),(22,true),(23,true),(24,true),(25,true),(26,true),(27,true),(28,true),(29,true),(30,true),(31,true),(32,true),(33,true),(34,true)] (by kernel_rfl) (by kernel_rfl) (S.sel [0] G G) fun K10 k10=>?_
  refine qF H<|qd rfl (fun _ S=>(aB fC rfl))<|qd rfl (fun _ S=>aE aD rfl (boxM.rd S (i:=0) G G))<|qd rfl (fun _ S=>Does.to (dI G G) (congrArg Value.bool (decide_eq_false (by omega))))<|qr 1 rfl<|qK ?_;clear H a;intro a H
  refine aG H G G G G (fun _ S=>(aB fC rfl)) ?_;clear H a;intro a H
  refine aG H G G G G (fun _ S=>aE aD rfl (boxM.rd S (i:=0) G G)) ?_;clear H a;intro a H
  refine aG H G G G G (fun _ S=>Does.to (bV G G) (congrArg Value.bool (decide_eq_false (by omega)))) ?_;clear H a;intro a H
  refine qF H<|qd rfl (fun _ S=>(aY G G G))<|qr 1 rfl<|qK ?_;clear H a;intro a H
  refine aG H G G G G (fun _ S=>(aB mS rfl)) ?_;clear H a;intro a H
  refine aG H G G G G (fun _ S=>aE aD rfl (boxM.rd S (i:=0) G G)) ?_;clear H a;intro a H
  refine aS rfl ?_
  refine aX H G G ?_
  refine aA H G G Tryz.func60 G G (dX _ _) ?_;clear H a
  rintro _ _ a ⟨rfl,S2⟩ H
  replace S:=S.call S2;clear S2
  refine wpList_nil (And.intro (S.sel [0] G G) ?_)
  refine aS rfl ?_
  refine aX H G G ?_
  refine aA H G G Tryz.func59 G G (cJ (by omega)) ?_;clear H a
  rintro _ _ a ⟨rfl,S2⟩ H
  replace S:=S.call S2;clear S2
  refine wpList_nil (And.intro (S.sel [0] G G) ?_)
  refine aG H G G G G (fun _ S=>cL rfl) ?_;clear H a;intro a H
  refine qF H<|qd rfl (fun _ S=>(aY G G G))<|qr 1 rfl<|qK ?_;clear H a;intro a H
  refine aG H G G G G (fun _ S=>(aB oS rfl)) ?_;clear H a;intro a H
  refine aG H G G G G (fun _ S=>aE aD rfl (boxM.rd S (i:=0) G G)) ?_;clear H a;intro a H
  refine aS rfl ?_
  refine aX H G G ?_
  refine aA H G G Tryz.func60 G G (dX _ _) ?_;clear H a
  rintro _ _ a ⟨rfl,S2⟩ H
  replace S:=S.call S2;clear S2
  refine wpList_nil (And.intro (S.sel [0] G G) ?_)
  refine aS rfl ?_
  refine aX H G G ?_
  refine aA H G G Tryz.func59 G G (kV (by omega)) ?_;clear H a
  rintro _ _ a ⟨rfl,S2⟩ H
  replace S:=S.call S2;clear S2
  refine wpList_nil (And.intro (S.sel [0] G G) ?_)
  refine aG H G G G G (fun _ S=>cL rfl) ?_;clear H a;intro a H
  refine qF H<|qd rfl (fun _ S=>(aY G G G))<|qr 1 rfl<|qK ?_;clear H a;intro a H
  refine aJ H G G G G G ?_;clear H a;intro a H
  refine aJ H G G G G G ?_;clear H a;intro a H
  refine aJ H G G G G G ?_;clear H a;intro a H
  refine aJ H G G G G G ?_;clear H a;intro a H
  refine aJ H G G G G G ?_;clear H a;intro a H
  refine qF H<|qd rfl (fun _ S=>(aR G G G))<|qr 1 rfl<|qK ?_;clear H a;intro a H
  refine aJ H G G G G G ?_;clear H a;intro a H
  refine aJ H G G G G G ?_;clear H a;intro a H
  refine aJ H G G G G G ?_;clear H a;intro a H
  refine aJ H G G G G G ?_;clear H a;intro a H
  refine qF H<|qd rfl (fun _ S=>(aR G G G))<|qK ?_;clear H a;intro a H
  refine bF ?_
  refine k10 _ _ ?_
  clear k10 K10
  refine cond_ H rfl (fun hc4=>?_) (fun hc4=>?_)
  ·skip
   skip
   replace H:=H.keep [] rfl
   refine sS H fun K11 k11=>sr 1 rfl<|sE ?_;clear H a;intro a H
   refine k11 _ ?_;clear k11 K11
   refine wp_ret ?_
   refine ret1 (fn:=Tryz.f58) rfl H rfl ?_
   refine ⟨?_,(S.sel [] rfl rfl)⟩;rw [if_neg (by unfold escOk;simp only [Bool.and_eq_true,decide_eq_true_eq];rintro ⟨h1,_⟩;omega)]
  skip
  exact absurd hc4 (by decide)
 ·skip
  skip
  replace H:=H.keep [1,3] rfl
  replace S:=S.drew
  refine seq_wq [(0,true),(1,true),(2,true),(3,true),(4,true),(5,true),(6,true),(7,true),(8,true),(9,true),(10,true),(11,false),(12,false),(13,true),(14,true),(15,true),(16,true),(17,true),(18,false),(19,false),(20,true),(21,true),(22,true),(23,true),(24,true),(25,false),(26,false),(27,true),(28,true),(29,true),(30,true),(31,true),(32,true),(33,true),(34,true)] (by kernel_rfl) (by kernel_rfl) (S.sel [0] G G) fun K12 k12=>?_
  refine qF H<|qd rfl (fun _ S=>(aB fC rfl))<|qd rfl (fun _ S=>aE aD rfl (boxM.rd S (i:=0) G G))<|qd rfl (fun _ S=>Does.to (dI G G) (congrArg Value.bool (decide_eq_false (by omega))))<|qr 1 rfl<|qK ?_;clear H a;intro a H
  refine aG H G G G G (fun _ S=>(aB fC rfl)) ?_;clear H a;intro a H
  refine aG H G G G G (fun _ S=>aE aD rfl (boxM.rd S (i:=0) G G)) ?_;clear H a;intro a H
  refine aG H G G G G (fun _ S=>Does.to (bV G G) (congrArg Value.bool (decide_eq_false (by omega)))) ?_;clear H a;intro a H
  refine qF H<|qd rfl (fun _ S=>(aY G G G))<|qr 1 rfl<|qK ?_;clear H a;intro a H
  refine aG H G G G G (fun _ S=>(aB mS rfl)) ?_;clear H a;intro a H
  refine aG H G G G G (fun _ S=>aE aD rfl (boxM.rd S (i:=0) G G)) ?_;clear H a;intro a H
  refine aS rfl ?_
  refine aX H G G ?_
  refine aA H G G Tryz.func60 G G (dX _ _) ?_;clear H a
  rintro _ _ a ⟨rfl,S2⟩ H
  replace S:=S.call S2;clear S2
  refine wpList_nil (And.intro (S.sel [0] G G) ?_)
  refine aS rfl ?_
  refine aX H G G ?_
  refine aA H G G Tryz.func59 G G (cJ (by omega)) ?_;clear H a
  rintro _ _ a ⟨rfl,S2⟩ H
  replace S:=S.call S2;clear S2
  refine wpList_nil (And.intro (S.sel [0] G G) ?_)
  refine aG H G G G G (fun _ S=>cL rfl) ?_;clear H a;intro a H
  refine qF H<|qd rfl (fun _ S=>(aY G G G))<|qr 1 rfl<|qK ?_;clear H a;intro a H
  refine aG H G G G G (fun _ S=>(aB oS rfl)) ?_;clear H a;intro a H
  refine aG H G G G G (fun _ S=>aE aD rfl (boxM.rd S (i:=0) G G)) ?_;clear H a;intro a H
  refine aS rfl ?_
  refine aX H G G ?_
  refine aA H G G Tryz.func60 G G (dX _ _) ?_;clear H a
  rintro _ _ a ⟨rfl,S2⟩ H
  replace S:=S.call S2;clear S2
  refine wpList_nil (And.intro (S.sel [0] G G) ?_)
  refine aS rfl ?_
  refine aX H G G ?_
  refine aA H G G Tryz.func59 G G (cJ (by omega)) ?_;clear H a
  rintro _ _ a ⟨rfl,S2⟩ H
  replace S:=S.call S2;clear S2
  refine wpList_nil (And.intro (S.sel [0] G G) ?_)
  refine aG H G G G G (fun _ S=>cL rfl) ?_;clear H a;intro a H
  refine qF H<|qd rfl (fun _ S=>(aY G G G))<|qr 1 rfl<|qK ?_;clear H a;intro a H
  refine aG H G G G G (fun _ S=>(aB xX rfl)) ?_;clear H a;intro a H
  refine aG H G G G G (fun _ S=>aE aD rfl (boxM.rd S (i:=0) G G)) ?_;clear H a;intro a H
  refine aS rfl ?_
  refine aX H G G ?_
  refine aA H G G Tryz.func60 G G (dX _ _) ?_;clear H a
  rintro _ _ a ⟨rfl,S2⟩ H
  replace S:=S.call S2;clear S2
  refine wpList_nil (And.intro (S.sel [0] G G) ?_)
  refine aS rfl ?_
  refine aX H G G ?_
  refine aA H G G Tryz.func59 G G (kV (by omega)) ?_;clear H a
  rintro _ _ a ⟨rfl,S2⟩ H
  replace S:=S.call S2;clear S2
  refine wpList_nil (And.intro (S.sel [0] G G) ?_)
  refine aG H G G G G (fun _ S=>cL rfl) ?_;clear H a;intro a H
  refine qF H<|qd rfl (fun _ S=>(aY G G G))<|qr 1 rfl<|qK ?_;clear H a;intro a H
  refine aJ H G G G G G ?_;clear H a;intro a H
  refine aJ H G G G G G ?_;clear H a;intro a H
  refine aJ H G G G G G ?_;clear H a;intro a H
  refine aJ H G G G G G ?_;clear H a;intro a H
  refine qF H<|qd rfl (fun _ S=>(aR G G G))<|qK ?_;clear H a;intro a H
  refine bF ?_
  refine k12 _ _ ?_
  clear k12 K12
  refine cond_ H rfl (fun hc5=>?_) (fun hc5=>?_)
  ·skip
   skip
   replace H:=H.keep [] rfl
   refine sS H fun K13 k13=>sr 1 rfl<|sE ?_;clear H a;intro a H
   refine k13 _ ?_;clear k13 K13
   refine wp_ret ?_
   refine ret1 (fn:=Tryz.f58) rfl H rfl ?_
   refine ⟨?_,(S.sel [] rfl rfl)⟩;rw [if_neg (by unfold escOk;simp only [Bool.and_eq_true,decide_eq_true_eq];rintro ⟨h1,_⟩;omega)]
  skip
  exact absurd hc5 (by decide)
 ·skip
  skip
  replace H:=H.keep [1,3] rfl
  replace S:=S.drew
  refine seq_wq [(0,true),(1,true),(2,true),(3,true),(4,true),(5,true),(6,true),(7,true),(8,true),(9,true),(10,true),(11,false),(12,false),(13,true),(14,true),(15,true),(16,true),(17,true),(18,false),(19,false),(20,true),(21,true),(22,true),(23,true),(24,true),(25,false),(26,false),(27,true),(28,true),(29,true),(30,true),(31,true),(32,true),(33,true),(34,true)] (by kernel_rfl) (by kernel_rfl) (S.sel [0] G G) fun K14 k14=>?_
  refine qF H<|qd rfl (fun _ S=>(aB fC rfl))<|qd rfl (fun _ S=>aE aD rfl (boxM.rd S (i:=0) G G))<|qd rfl (fun _ S=>Does.to (dI G G) (congrArg Value.bool (decide_eq_false (by omega))))<|qr 1 rfl<|qK ?_;clear H a;intro a H
  refine aG H G G G G (fun _ S=>(aB fC rfl)) ?_;clear H a;intro a H
  refine aG H G G G G (fun _ S=>aE aD rfl (boxM.rd S (i:=0) G G)) ?_;clear H a;intro a H
  refine aG H G G G G (fun _ S=>Does.to (bV G G) (congrArg Value.bool (decide_eq_false (by omega)))) ?_;clear H a;intro a H
  refine qF H<|qd rfl (fun _ S=>(aY G G G))<|qr 1 rfl<|qK ?_;clear H a;intro a H
  refine aG H G G G G (fun _ S=>(aB mS rfl)) ?_;clear H a;intro a H
  refine aG H G G G G (fun _ S=>aE aD rfl (boxM.rd S (i:=0) G G)) ?_;clear H a;intro a H
  refine aS rfl ?_
  refine aX H G G ?_
  refine aA H G G Tryz.func60 G G (dX _ _) ?_;clear H a
  rintro _ _ a ⟨rfl,S2⟩ H
  replace S:=S.call S2;clear S2
  refine wpList_nil (And.intro (S.sel [0] G G) ?_)
  refine aS rfl ?_
  refine aX H G G ?_
  refine aA H G G Tryz.func59 G G (cJ (by omega)) ?_;clear H a
  rintro _ _ a ⟨rfl,S2⟩ H
  replace S:=S.call S2;clear S2
  refine wpList_nil (And.intro (S.sel [0] G G) ?_)
  refine aG H G G G G (fun _ S=>cL rfl) ?_;clear H a;intro a H
  refine qF H<|qd rfl (fun _ S=>(aY G G G))<|qr 1 rfl<|qK ?_;clear H a;intro a H
  refine aG H G G G G (fun _ S=>(aB oS rfl)) ?_;clear H a;intro a H
  refine aG H G G G G (fun _ S=>aE aD rfl (boxM.rd S (i:=0) G G)) ?_;clear H a;intro a H
  refine aS rfl ?_
  refine aX H G G ?_
  refine aA H G G Tryz.func60 G G (dX _ _) ?_;clear H a
  rintro _ _ a ⟨rfl,S2⟩ H
  replace S:=S.call S2;clear S2
  refine wpList_nil (And.intro (S.sel [0] G G) ?_)
  refine aS rfl ?_
  refine aX H G G ?_
  refine aA H G G Tryz.func59 G G (cJ (by omega)) ?_;clear H a
  rintro _ _ a ⟨rfl,S2⟩ H
  replace S:=S.call S2;clear S2
  refine wpList_nil (And.intro (S.sel [0] G G) ?_)
  refine aG H G G G G (fun _ S=>cL rfl) ?_;clear H a;intro a H
  refine qF H<|qd rfl (fun _ S=>(aY G G G))<|qr 1 rfl<|qK ?_;clear H a;intro a H
  refine aG H G G G G (fun _ S=>(aB xX rfl)) ?_;clear H a;intro a H
  refine aG H G G G G (fun _ S=>aE aD rfl (boxM.rd S (i:=0) G G)) ?_;clear H a;intro a H
  refine aS rfl ?_
  refine aX H G G ?_
  refine aA H G G Tryz.func60 G G (dX _ _) ?_;clear H a
  rintro _ _ a ⟨rfl,S2⟩ H
  replace S:=S.call S2;clear S2
  refine wpList_nil (And.intro (S.sel [0] G G) ?_)
  refine aS rfl ?_
  refine aX H G G ?_
  refine aA H G G Tryz.func59 G G (cJ (by omega)) ?_;clear H a
  rintro _ _ a ⟨rfl,S2⟩ H
  replace S:=S.call S2;clear S2
  refine wpList_nil (And.intro (S.sel [0] G G) ?_)
  refine aG H G G G G (fun _ S=>cL rfl) ?_;clear H a;intro a H
  refine qF H<|qd rfl (fun _ S=>(aY G G G))<|qr 1 rfl<|qK ?_;clear H a;intro a H
  refine aG H G G G G (fun _ S=>(aB mT rfl)) ?_;clear H a;intro a H
  refine aG H G G G G (fun _ S=>aE qH rfl (boxM.rd S (i:=0) G G)) ?_;clear H a;intro a H
  refine aG H G G G G (fun _ S=>cB oP rfl) ?_;clear H a;intro a H
  refine aG H G G G G (fun _ S=>Does.to (bV G G) (congrArg Value.bool (decide_eq_true (by omega)))) ?_;clear H a;intro a H
  refine qF H<|qd rfl (fun _ S=>(aY G G G))<|qK ?_;clear H a;intro a H
  refine bF ?_
  refine k14 _ _ ?_
  clear k14 K14
  refine cond_ H rfl (fun hc6=>?_) (fun hc6=>?_)
  ·skip
   skip
   replace H:=H.keep [] rfl
   refine sS H fun K15 k15=>sr 1 rfl<|sE ?_;clear H a;intro a H
   refine k15 _ ?_;clear k15 K15
   refine wp_ret ?_
   refine ret1 (fn:=Tryz.f58) rfl H rfl ?_
   refine ⟨?_,(S.sel [] rfl rfl)⟩;rw [if_neg (by unfold escOk;simp only [Bool.and_eq_true,decide_eq_true_eq];rintro ⟨h1,_⟩;omega)]
  skip
  exact absurd hc6 (by decide)
 skip
 replace H:=H.keep [1,3] rfl
 replace S:=S.drew
 refine seq_wq [(0,true),(1,true),(2,true),(3,true),(4,true),(5,true),(6,true),(7,true),(8,true),(9,true),(10,true),(11,false),(12,false),(13,true),(14,true),(15,true),(16,true),(17,true),(18,false),(19,false),(20,true),(21,true),(22,true),(23,true),(24,true),(25,false),(26,false),(27,true),(28,true),(29,true),(30,true),(31,true),(32,true),(33,true),(34,true)] (by kernel_rfl) (by kernel_rfl) (S.sel [0] G G) fun K16 k16=>?_
 refine qF H<|qd rfl (fun _ S=>(aB fC rfl))<|qd rfl (fun _ S=>aE aD rfl (boxM.rd S (i:=0) G G))<|qd rfl (fun _ S=>Does.to (dI G G) (congrArg Value.bool (decide_eq_false (by omega))))<|qr 1 rfl<|qK ?_;clear H a;intro a H
 refine aG H G G G G (fun _ S=>(aB fC rfl)) ?_;clear H a;intro a H
 refine aG H G G G G (fun _ S=>aE aD rfl (boxM.rd S (i:=0) G G)) ?_;clear H a;intro a H
 refine aG H G G G G (fun _ S=>Does.to (bV G G) (congrArg Value.bool (decide_eq_false (by omega)))) ?_;clear H a;intro a H
 refine qF H<|qd rfl (fun _ S=>(aY G G G))<|qr 1 rfl<|qK ?_;clear H a;intro a H
 refine aG H G G G G (fun _ S=>(aB mS rfl)) ?_;clear H a;intro a H
 refine aG H G G G G (fun _ S=>aE aD rfl (boxM.rd S (i:=0) G G)) ?_;clear H a;intro a H
 refine aS rfl ?_
 refine aX H G G ?_
 refine aA H G G Tryz.func60 G G (dX _ _) ?_;clear H a
 rintro _ _ a ⟨rfl,S2⟩ H
 replace S:=S.call S2;clear S2
 refine wpList_nil (And.intro (S.sel [0] G G) ?_)
 refine aS rfl ?_
 refine aX H G G ?_
 refine aA H G G Tryz.func59 G G (cJ (by omega)) ?_;clear H a
 rintro _ _ a ⟨rfl,S2⟩ H
 replace S:=S.call S2;clear S2
 refine wpList_nil (And.intro (S.sel [0] G G) ?_)
 refine aG H G G G G (fun _ S=>cL rfl) ?_;clear H a;intro a H
 refine qF H<|qd rfl (fun _ S=>(aY G G G))<|qr 1 rfl<|qK ?_;clear H a;intro a H
 refine aG H G G G G (fun _ S=>(aB oS rfl)) ?_;clear H a;intro a H
 refine aG H G G G G (fun _ S=>aE aD rfl (boxM.rd S (i:=0) G G)) ?_;clear H a;intro a H
 refine aS rfl ?_
 refine aX H G G ?_
 refine aA H G G Tryz.func60 G G (dX _ _) ?_;clear H a
 rintro _ _ a ⟨rfl,S2⟩ H
 replace S:=S.call S2;clear S2
 refine wpList_nil (And.intro (S.sel [0] G G) ?_)
 refine aS rfl ?_
 refine aX H G G ?_
 refine aA H G G Tryz.func59 G G (cJ (by omega)) ?_;clear H a
 rintro _ _ a ⟨rfl,S2⟩ H
 replace S:=S.call S2;clear S2
 refine wpList_nil (And.intro (S.sel [0] G G) ?_)
 refine aG H G G G G (fun _ S=>cL rfl) ?_;clear H a;intro a H
 refine qF H<|qd rfl (fun _ S=>(aY G G G))<|qr 1 rfl<|qK ?_;clear H a;intro a H
 refine aG H G G G G (fun _ S=>(aB xX rfl)) ?_;clear H a;intro a H
 refine aG H G G G G (fun _ S=>aE aD rfl (boxM.rd S (i:=0) G G)) ?_;clear H a;intro a H
 refine aS rfl ?_
 refine aX H G G ?_
 refine aA H G G Tryz.func60 G G (dX _ _) ?_;clear H a
 rintro _ _ a ⟨rfl,S2⟩ H
 replace S:=S.call S2;clear S2
 refine wpList_nil (And.intro (S.sel [0] G G) ?_)
 refine aS rfl ?_
 refine aX H G G ?_
 refine aA H G G Tryz.func59 G G (cJ (by omega)) ?_;clear H a
 rintro _ _ a ⟨rfl,S2⟩ H
 replace S:=S.call S2;clear S2
 refine wpList_nil (And.intro (S.sel [0] G G) ?_)
 refine aG H G G G G (fun _ S=>cL rfl) ?_;clear H a;intro a H
 refine qF H<|qd rfl (fun _ S=>(aY G G G))<|qr 1 rfl<|qK ?_;clear H a;intro a H
 refine aG H G G G G (fun _ S=>(aB mT rfl)) ?_;clear H a;intro a H
 refine aG H G G G G (fun _ S=>aE qH rfl (boxM.rd S (i:=0) G G)) ?_;clear H a;intro a H
 refine aG H G G G G (fun _ S=>cB oP rfl) ?_;clear H a;intro a H
 refine aG H G G G G (fun _ S=>Does.to (bV G G) (congrArg Value.bool (decide_eq_false (by omega)))) ?_;clear H a;intro a H
 refine qF H<|qd rfl (fun _ S=>(aY G G G))<|qK ?_;clear H a;intro a H
 refine bF ?_
 refine k16 _ _ ?_
 clear k16 K16
 refine cond_ H rfl (fun hc7=>?_) (fun hc7=>?_)
 ·skip
  skip
  exact absurd hc7 (by decide)
 skip
 refine wp_skip ?_
 refine k3 _ _ ?_
 refine wp_seq_k fun K17 k17=>?_
 replace H:=H.keep [1,3] rfl
 refine sS H fun K18 k18=>sf mT rfl<|sl S 0 qH G G G<|sL oP rfl<|sr 1 rfl<|sE ?_;clear H a;intro a H
 refine k18 _ ?_;clear k18 K18
 refine wp_block ?_
 refine loop_st (X:=Nat) (R0:=_) [3,42,43] H rfl (fun k=>[(44,.int .i64 (k:Int))]) (fun k=>[]) (fun g k=>k≤br.length∧g+k=br.length∧(br.take k).all gZ=true) (br.length) 0 ?_ (S.sel [0] G G) (H.keep [44,3,42,43] rfl) ?_
 · exact ⟨by omega,by omega,by simp⟩
 clear H S a
 intro g1 x1 a w1 hp S H K19 k19
 obtain ⟨k,rfl⟩:∃ y,y=x1:=⟨_,rfl⟩
 refine sS H fun K20 k20=>sr 1 rfl<|sE ?_;clear H a;intro a H
 refine k20 _ ?_;clear k20 K20
 refine wp_seq_k fun K21 k21=>?_
 refine condL H rfl (fun hc8=>?_) (fun hc8=>?_)
 ·skip
  refine wp_skip ?_
  refine k21 _ _ ?_
  refine wp_seq_k fun K22 k22=>?_
  refine wp_block ?_
  refine seq_list fun K23 k23=>?_
  refine ls 2 H<|si oP rC G G (hb.adr (by omega)) (by omega)<|sd ((aW De rC rfl S hb (by omega) (by omega)))<|sE ?_;clear H a;intro a H
  refine aI H rfl S Fh ?_;clear H a S;intro b5 _ a hb5 hbw5 S H
  refine aF H S (i:=0) G G G G rC G G ?_
  clear H a S;intro _ a S H
  refine k23 _ _ ?_;clear k23 K23
  refine seq_list fun K24 k24=>?_
  refine ls 2 H<|sr 1 rfl<|sd ((aC De rC rfl S (i:=0) G G))<|sE ?_;clear H a;intro a H
  refine nL H G G G Tryz.func89 G G (Kl (br.getD k Brake.zero) _) ?_;clear H a
  rintro _ _ a ⟨rfl,S2⟩ H
  replace S:=S.call S2;clear S2
  refine ls 1 H<|sr 1 rfl<|sE ?_;clear H a;intro a H
  refine k24 _ _ ?_;clear k24 K24
  refine cond_ H rfl (fun hc9=>?_) (fun hc9=>?_)
  ·skip
   try simp only [o1,o2,o3,o4,o5,o6,o7,o8,o9,oa] at hc9
   replace H:=H.keep [] rfl
   refine sS H fun K25 k25=>sr 1 rfl<|sE ?_;clear H a;intro a H
   refine k25 _ ?_;clear k25 K25
   refine wp_ret ?_
   refine ret1 (fn:=Tryz.f58) rfl H rfl ?_
   refine ⟨?_,(S.sel [] G G)⟩;rw [if_neg (by unfold escOk;rw [qP (l:=br) (k:=k) (d:=Brake.zero) (by omega) (by simpa using hc9)];simp)]
  try simp only [o1,o2,o3,o4,o5,o6,o7,o8,o9,oa] at hc9
  refine wp_skip ?_
  refine k22 _ _ ?_
  refine sO H<|sd (aK G G (by unfold i64ok;omega))<|sr 1 rfl<|sE ?_;clear H a;intro a H
  exact k19 (g1-1) (k+1) a _ (by omega) (⟨by omega,by omega,uJ (d:=Brake.zero) (by omega) hp.2.2 (by simpa using hc9)⟩) (S.sel [1] G G) (H.keep [44,3,42,43] rfl)
 refine wp_exit ?_
 refine k17 _ _ ?_
 refine sS H fun K27 k27=>sr 1 rfl<|sE ?_;clear H a;intro a H
 refine k27 _ ?_;clear k27 K27
 refine wp_ret ?_
 refine ret1 (fn:=Tryz.f58) rfl H rfl ?_
 refine ⟨?_,(S.sel [] G G)⟩;rw [List.take_of_length_le (by omega)] at hp;rw [if_pos (by unfold escOk;simp only [Bool.and_eq_true,decide_eq_true_eq];exact ⟨by omega,hp.2.2⟩)]
theorem Km (a b:Int) (w:World) (hb:0<b) (ha:i64ok a) (ha2 : -9000000000000000000≤a∧a≤9000000000000000000) :
    Calls Tryz.prog 134 [.int .i64 a,.int .i64 b].toArray w (Ret (fun v w'=>v = .int .i64 (a/b)∧St w noF [] w')):=by
 have hfl:=Kr (m:=a) hb;have hdb:=vI (B:=9000000000000000000) hb ha2
 refine enter Tryz.func134 rfl Tryz.ntmps134 rfl (fun a H=>?_)
 have S:=St.start w
 refine sS H fun K1 k1=>sr 1 rfl<|sE ?_;clear H a;intro a H
 refine k1 _ ?_;clear k1 K1
 replace S:=S.drew
 refine sD H fun K2 k2=>sr 2 rfl<|sd (Hf G G (by omega) (Ra ha hb))<|sr 2 rfl<|sd (Hg G G (by omega))<|sr 2 rfl<|sE ?_;clear H a;intro a H
 refine k2 _ ?_;clear k2 K2
 refine wp_seq_k fun K3 k3=>?_
 replace H:=H.keep [5,6] rfl
 refine sS H fun K4 k4=>sr 2 rfl<|sE ?_;clear H a;intro a H
 refine k4 _ ?_;clear k4 K4
 refine condL H rfl (fun hc1=>?_) (fun hc1=>?_)
 ·skip
  refine sO H<|sr 1 rfl<|sd (aU G G (by unfold i64ok;omega))<|sr 1 rfl<|sE ?_;clear H a;intro a H
  refine k3 _ _ ?_
  refine sS H fun K6 k6=>sr 2 rfl<|sE ?_;clear H a;intro a H
  refine k6 _ ?_;clear k6 K6
  refine wp_ret ?_
  refine ret1 (fn:=Tryz.f134) rfl H rfl ?_
  first|rw [if_pos (by omega)] at hfl|rw [if_neg (by omega)] at hfl
  exact ⟨congrArg (Value.int .i64) (by omega),(S.sel [] G G)⟩
 refine wp_skip ?_
 refine k3 _ _ ?_
 refine sS H fun K7 k7=>sr 2 rfl<|sE ?_;clear H a;intro a H
 refine k7 _ ?_;clear k7 K7
 refine wp_ret ?_
 refine ret1 (fn:=Tryz.f134) rfl H rfl ?_
 first|rw [if_pos (by omega)] at hfl|rw [if_neg (by omega)] at hfl
 exact ⟨congrArg (Value.int .i64) (by omega),(S.sel [] G G)⟩
theorem nG (v g f m:Int) (w:World) (hm:0<m) (hg : -50000000≤g-f∧g-f≤50000000) (hv : -1000000000000≤v∧v≤1000000000000) :
    Calls Tryz.prog 125 [.int .i64 v,.int .i64 g,.int .i64 f,.int .i64 m].toArray w (Ret (fun u w'=>u = .int .i64 (oG v g f m)∧St w noF [] w')):=by
 have hdb:=vI (B:=50000000) hm hg
 refine enter Tryz.func125 rfl Tryz.ntmps125 rfl (fun a H=>?_)
 have S:=St.start w
 refine sS H fun K1 k1=>sr 1 rfl<|sE ?_;clear H a;intro a H
 refine k1 _ ?_;clear k1 K1
 replace H:=H.keep [0,1,2,3] rfl
 refine seq_list fun K2 k2=>?_
 refine ls 5 H<|sr 3 rfl<|sd (aU G G (by unfold i64ok;omega))<|sr 1 rfl<|sE ?_;clear H a;intro a H
 refine aA H G G Tryz.func134 G G (Km _ _ _ hm (by unfold i64ok;omega) (by omega)) ?_;clear H a
 rintro _ _ a ⟨rfl,S2⟩ H
 replace S:=S.call S2;clear S2
 refine ls 3 H<|sd (aK G G (by unfold i64ok;omega))<|sd (lK G G)<|sr 1 rfl<|sE ?_;clear H a;intro a H
 refine k2 _ _ ?_;clear k2 K2
 refine wp_ret ?_
 refine ret1 (fn:=Tryz.f125) rfl H rfl ?_
 exact ⟨rfl,(S.sel [] G G)⟩
theorem kW (up:Bool) (empty pull drag motor:Int) (br:List Brake) (BA:Option Addr) (bcp:Nat) (v x bf:Int) (w:World) (hesc:escOk (⟨up,empty,pull,drag,motor,br⟩:Esc)=true) (hx:0≤x∧x≤100000) (hbf:0≤bf∧bf≤30000000) (hv : -900000000000≤v∧v≤900000000000) :
    Calls Tryz.prog 116 [.agg [.bool up,.int .i64 empty,.int .i64 pull,.int .i64 drag,.int .i64 motor,.slice BA br.length bcp].toArray,.int .i64 v,.int .i64 x,.int .i64 bf].toArray w (Ret (fun u w'=>u = .int .i64 (tickI (⟨up,empty,pull,drag,motor,br⟩:Esc) v x bf)∧St w noF [] w')):=by
 have hE:=dP hesc
 dsimp only at hE
 obtain ⟨hE1,hE2,hE3,hE4,hE5⟩:=hE
 have hm1:0≤pull*x:=Int.mul_nonneg (by omega) (by omega)
 have hm2:pull*x≤100*100000:=Int.mul_le_mul (by omega) (by omega) (by omega) (by omega)
 have ab:∀ v' g':Int,(-900000000000≤v'∧v'≤900000000000)→(-10000000≤g'∧g'≤10000000)→0≤oG v' g' (drag+bf) (empty+x)∧oG v' g' (drag+bf) (empty+x)≤1000000000000:=fun v' g' h h'=>by have:=vI (x:=g'-(drag+bf)) (m:=empty+x) (B:=50000000) (by omega) (by omega);unfold oG;omega
 refine enter Tryz.func116 rfl Tryz.ntmps116 rfl (fun a H=>?_)
 have S:=St.start w
 refine seq_list fun K1 k1=>?_
 refine aO H rfl S G G ?_;clear H a S;intro b4 _ a hb4 hbw4 S H
 refine ls 1 H<|sr 1 rfl<|sE ?_;clear H a;intro a H
 refine k1 _ _ ?_;clear k1 K1
 replace H:=H.keep [1,2,3,4] rfl
 replace S:=S.drew
 refine sD H fun K2 k2=>sf mS rfl<|sl S 0 aD G G G<|sr 1 rfl<|sd (iR G G (by unfold i64ok;omega))<|sf oS rfl<|sl S 0 aD G G G<|sr 1 rfl<|sd (aK G G (by unfold i64ok;omega))<|sf fC rfl<|sl S 0 aD G G G<|sr 1 rfl<|sd (aK G G (by unfold i64ok;omega))<|sr 3 rfl<|sE ?_;clear H a;intro a H
 refine k2 _ ?_;clear k2 K2
 refine wp_seq_k fun K3 k3=>?_
 cases up
 ·skip
  replace H:=H.keep [1,4,9,10,11] rfl
  refine sS H fun K4 k4=>sf Fe rfl<|sl S 0 iY G G G<|sE ?_;clear H a;intro a H
  refine k4 _ ?_;clear k4 K4
  refine cond_ H rfl (fun hc1=>?_) (fun hc1=>?_)
  ·skip
   skip
   exact absurd hc1 (by decide)
  skip
  refine wp_skip ?_
  refine k3 _ _ ?_
  refine wp_seq_k fun K5 k5=>?_
  replace H:=H.keep [1,9,10,11] rfl
  refine sS H fun K6 k6=>sr 3 rfl<|sg 6 2 30 36 false G G (fun hg3=>sy hg3<|sr 1 rfl<|sy hg3<|sr 1 rfl<|sy hg3<|sr 1 rfl<|sg 2 5 33 35 true G G (fun hg6=>sy hg6<|sr 1 rfl<|sy hg6<|sr 1 rfl<|sz 2 G G G)<|sy hg3<|sa G G G<|sz 5 G G G)<|so G G G<|sE ?_;clear H a;intro a H
  refine k6 _ ?_;clear k6 K6
  refine cond_ H rfl (fun hc2=>?_) (fun hc2=>?_)
  ·skip
   try simp only [o1,o2,o3,o4,o5,o6,o7,o8,o9,oa] at hc2
   have a1:=ab (-v) (-(pull*x)) (by omega) (by omega);have a2:=ab (-v) (- -(pull*x)) (by omega) (by omega)
   replace H:=H.keep [1,9,10,11] rfl
   refine seq_list fun K7 k7=>?_
   refine ls 6 H<|sr 1 rfl<|sd (iS rfl (by unfold i64ok;omega))<|sr 1 rfl<|sd (iS rfl (by unfold i64ok;omega))<|sr 2 rfl<|sE ?_;clear H a;intro a H
   refine aA H G G Tryz.func125 G G (nG _ _ _ _ _ (by omega) (by omega) (by omega)) ?_;clear H a
   rintro _ _ a ⟨rfl,S2⟩ H
   replace S:=S.call S2;clear S2
   refine ls 2 H<|sd (iS rfl (by unfold i64ok;omega))<|sr 1 rfl<|sE ?_;clear H a;intro a H
   refine k7 _ _ ?_;clear k7 K7
   refine wp_ret ?_
   refine ret1 (fn:=Tryz.f116) rfl H rfl ?_
   exact ⟨congrArg (Value.int .i64) (by unfold tickI;simp only [Bool.false_eq_true,if_true,if_false];first|rw [if_pos (by omega)]|rw [if_neg (by omega)]),(S.sel [] G G)⟩
  try simp only [o1,o2,o3,o4,o5,o6,o7,o8,o9,oa] at hc2
  refine wp_skip ?_
  refine k5 _ _ ?_
  replace H:=H.keep [1,9,10,11] rfl
  refine seq_list fun K8 k8=>?_
  refine ls 4 H<|sr 4 rfl<|sE ?_;clear H a;intro a H
  refine aA H G G Tryz.func125 G G (nG _ _ _ _ _ (by omega) (by omega) (by omega)) ?_;clear H a
  rintro _ _ a ⟨rfl,S2⟩ H
  replace S:=S.call S2;clear S2
  refine ls 1 H<|sr 1 rfl<|sE ?_;clear H a;intro a H
  refine k8 _ _ ?_;clear k8 K8
  refine wp_ret ?_
  refine ret1 (fn:=Tryz.f116) rfl H rfl ?_
  exact ⟨congrArg (Value.int .i64) (by unfold tickI;simp only [Bool.false_eq_true,if_true,if_false];first|rw [if_pos (by omega)]|rw [if_neg (by omega)]),(S.sel [] G G)⟩
 refine sS H fun K9 k9=>sf Fe rfl<|sl S 0 iY G G G<|sE ?_;clear H a;intro a H
 refine k9 _ ?_;clear k9 K9
 refine cond_ H rfl (fun hc3=>?_) (fun hc3=>?_)
 ·skip
  skip
  replace H:=H.keep [1,9,10,11] rfl
  refine sO H<|sr 1 rfl<|sd (iS rfl (by unfold i64ok;omega))<|sr 1 rfl<|sE ?_;clear H a;intro a H
  refine k3 _ _ ?_
  refine wp_seq_k fun K11 k11=>?_
  replace H:=H.keep [1,9,10,11] rfl
  refine sS H fun K12 k12=>sr 3 rfl<|sg 6 2 30 36 false G G (fun hg3=>sy hg3<|sr 1 rfl<|sy hg3<|sr 1 rfl<|sy hg3<|sr 1 rfl<|sg 2 5 33 35 true G G (fun hg6=>sy hg6<|sr 1 rfl<|sy hg6<|sr 1 rfl<|sz 2 G G G)<|sy hg3<|sa G G G<|sz 5 G G G)<|so G G G<|sE ?_;clear H a;intro a H
  refine k12 _ ?_;clear k12 K12
  refine cond_ H rfl (fun hc4=>?_) (fun hc4=>?_)
  ·skip
   try simp only [o1,o2,o3,o4,o5,o6,o7,o8,o9,oa] at hc4
   have a1:=ab (-v) (-(pull*x)) (by omega) (by omega);have a2:=ab (-v) (- -(pull*x)) (by omega) (by omega)
   replace H:=H.keep [1,9,10,11] rfl
   refine seq_list fun K13 k13=>?_
   refine ls 6 H<|sr 1 rfl<|sd (iS rfl (by unfold i64ok;omega))<|sr 1 rfl<|sd (iS rfl (by unfold i64ok;omega))<|sr 2 rfl<|sE ?_;clear H a;intro a H
   refine aA H G G Tryz.func125 G G (nG _ _ _ _ _ (by omega) (by omega) (by omega)) ?_;clear H a
   rintro _ _ a ⟨rfl,S2⟩ H
   replace S:=S.call S2;clear S2
   refine ls 2 H<|sd (iS rfl (by unfold i64ok;omega))<|sr 1 rfl<|sE ?_;clear H a;intro a H
   refine k13 _ _ ?_;clear k13 K13
   refine wp_ret ?_
   refine ret1 (fn:=Tryz.f116) rfl H rfl ?_
   exact ⟨congrArg (Value.int .i64) (by unfold tickI;simp only [Bool.false_eq_true,if_true,if_false];first|rw [if_pos (by omega)]|rw [if_neg (by omega)]),(S.sel [] G G)⟩
  try simp only [o1,o2,o3,o4,o5,o6,o7,o8,o9,oa] at hc4
  refine wp_skip ?_
  refine k11 _ _ ?_
  replace H:=H.keep [1,9,10,11] rfl
  refine seq_list fun K14 k14=>?_
  refine ls 4 H<|sr 4 rfl<|sE ?_;clear H a;intro a H
  refine aA H G G Tryz.func125 G G (nG _ _ _ _ _ (by omega) (by omega) (by omega)) ?_;clear H a
  rintro _ _ a ⟨rfl,S2⟩ H
  replace S:=S.call S2;clear S2
  refine ls 1 H<|sr 1 rfl<|sE ?_;clear H a;intro a H
  refine k14 _ _ ?_;clear k14 K14
  refine wp_ret ?_
  refine ret1 (fn:=Tryz.f116) rfl H rfl ?_
  exact ⟨congrArg (Value.int .i64) (by unfold tickI;simp only [Bool.false_eq_true,if_true,if_false];first|rw [if_pos (by omega)]|rw [if_neg (by omega)]),(S.sel [] G G)⟩
 skip
 exact absurd hc3 (by decide)
theorem mN (up:Bool) (empty pull drag motor:Int) (br:List Brake) (BA:Option Addr) (bcp:Nat) (sp slo shi sfail:Int) (mb:Nat) (v:Int) (t:Nat) (w:World) (F:Nat→Prop) (S:St w F [boxM mb 135 [.bool up,.int .i64 empty,.int .i64 pull,.int .i64 drag,.int .i64 motor,.slice BA br.length bcp,.int .i64 sp,.int .i64 slo,.int .i64 shi,.int .i64 sfail,.int .i64 (v),.int .i64 (t:Int)]] w) (hb:InS w F 2 BA br.length (bcell br)) (hesc:escOk (⟨up,empty,pull,drag,motor,br⟩:Esc)=true) (hstp:stpOk (⟨up,empty,pull,drag,motor,br⟩:Esc) (⟨sp,slo,shi,sfail⟩:Stp)=true) :
    Calls Tryz.prog 117 [.pointer (some ⟨mb,0,none⟩)].toArray w (Ret (fun u w'=>u = .int .i64 (gripI (⟨up,empty,pull,drag,motor,br⟩:Esc) (⟨sp,slo,shi,sfail⟩:Stp) t)∧St w F [boxM mb 135 [.bool up,.int .i64 empty,.int .i64 pull,.int .i64 drag,.int .i64 motor,.slice BA br.length bcp,.int .i64 sp,.int .i64 slo,.int .i64 shi,.int .i64 sfail,.int .i64 (v),.int .i64 (t:Int)]] w')):=by
 have hE:=dP hesc
 dsimp only at hE
 obtain ⟨hE1,hE2,hE3,hE4,hE5⟩:=hE
 have hS1:=hstp;unfold stpOk at hS1;simp only [decide_eq_true_eq] at hS1
 refine enter Tryz.func117 rfl Tryz.ntmps117 rfl (fun a H=>?_)
 skip
 refine sS H fun K1 k1=>sr 1 rfl<|sE ?_;clear H a;intro a H
 refine k1 _ ?_;clear k1 K1
 refine wp_seq_k fun K2 k2=>?_
 refine sS H fun K3 k3=>sr 2 rfl<|sf Ae rfl<|sf mT rfl<|sl S 0 qH G G G<|sL oP rfl<|sr 1 rfl<|sE ?_;clear H a;intro a H
 refine k3 _ ?_;clear k3 K3
 refine wp_block ?_
 refine loop_st (X:=Nat) (R0:=_) [0,9,10] H rfl (fun k=>[(2,.int .i64 (iG sfail t br k)),(11,.int .i64 (k:Int))]) (fun k=>[]) (fun g k=>k≤br.length∧g+k=br.length) (br.length) 0 ?_ (S.sel [0] G G) (H.keep [2,11,0,9,10] rfl) ?_
 · exact ⟨by omega,by omega⟩
 clear H S a
 intro g1 x1 a w1 hp S H K4 k4
 obtain ⟨k,rfl⟩:∃ y,y=x1:=⟨_,rfl⟩
 refine sS H fun K5 k5=>sr 1 rfl<|sE ?_;clear H a;intro a H
 refine k5 _ ?_;clear k5 K5
 refine wp_seq_k fun K6 k6=>?_
 refine condL H rfl (fun hc1=>?_) (fun hc1=>?_)
 ·skip
  refine wp_skip ?_
  refine k6 _ _ ?_
  refine wp_seq_k fun K7 k7=>?_
  refine wp_block ?_
  have hgb:=zI (fail:=sfail) (t:=t) (l:=br) (by unfold escOk at hesc;simp only [Bool.and_eq_true] at hesc;exact hesc.2) k (by omega)
  have hkb:=hE2 k (by omega);unfold gZ at hkb;simp only [decide_eq_true_eq] at hkb
  refine seq_list fun K8 k8=>?_
  refine ls 3 H<|sr 1 rfl<|si oP rC G G (hb.adr (by omega)) (by omega)<|sd ((aW De rC rfl S hb (by omega) (by omega)))<|sE ?_;clear H a;intro a H
  refine aI H rfl S Fh ?_;clear H a S;intro b4 _ a hb4 hbw4 S H
  refine ls 1 H<|sr 1 rfl<|sE ?_;clear H a;intro a H
  refine aF H S (i:=0) G G G G rC G G ?_
  clear H a S;intro _ a S H
  refine k8 _ _ ?_;clear k8 K8
  replace H:=H.keep [0,2,3,4,9,10,11] rfl
  replace S:=S.drew
  refine sD H fun K9 k9=>sr 2 rfl<|sf gT rfl<|sf mR rfl<|sl S 1 aD G G G<|sr 1 rfl<|sd (fQ G G (by omega) (by omega))<|sd (eY G G)<|sr 2 rfl<|sg 7 9 25 32 true G G (fun hg10=>sy hg10<|sf Ff rfl<|sy hg10<|sl S 0 aD G G G<|sy hg10<|sr 1 rfl<|sy hg10<|sr 1 rfl<|sy hg10<|sf eC rfl<|sy hg10<|sl S 1 aD G G G<|sy hg10<|sr 1 rfl<|sz 7 G G G)<|sa G G G<|sE ?_;clear H a;intro a H
  refine k9 _ ?_;clear k9 K9
  refine cond_ H rfl (fun hc2=>?_) (fun hc2=>?_)
  ·skip
   try simp only [o1,o2,o3,o4,o5,o6,o7,o8,o9,oa] at hc2
   replace H:=H.keep [0,2,4,9,10,11] rfl
   refine sO H<|sr 1 rfl<|sf xY rfl<|sl S 0 aD G G G<|sd (aK G G (by unfold i64ok;omega))<|sr 1 rfl<|sE ?_;clear H a;intro a H
   refine k7 _ _ ?_
   refine sO H<|sd (aK G G (by unfold i64ok;omega))<|sr 1 rfl<|sE ?_;clear H a;intro a H
   try rw [Int.toNat_natCast] at hc2
   first|rw [vH (fail:=sfail) (t:=(t:Int)) (l:=br) (k:=k) (by omega)] at H|rw [xA (fail:=sfail) (t:=(t:Int)) (l:=br) (k:=k) (by omega)] at H
   exact k4 (g1-1) (k+1) a _ (by omega) (by omega) (S.sel [1] G G) (H.keep [2,11,0,9,10] rfl)
  try simp only [o1,o2,o3,o4,o5,o6,o7,o8,o9,oa] at hc2
  refine wp_skip ?_
  refine k7 _ _ ?_
  refine sO H<|sd (aK G G (by unfold i64ok;omega))<|sr 1 rfl<|sE ?_;clear H a;intro a H
  try rw [Int.toNat_natCast] at hc2
  first|rw [vH (fail:=sfail) (t:=(t:Int)) (l:=br) (k:=k) (by omega)] at H|rw [xA (fail:=sfail) (t:=(t:Int)) (l:=br) (k:=k) (by omega)] at H
  exact k4 (g1-1) (k+1) a _ (by omega) (by omega) (S.sel [1] G G) (H.keep [2,11,0,9,10] rfl)
 refine wp_exit ?_
 refine k2 _ _ ?_
 replace H:=H.keep [2] rfl
 refine sS H fun K13 k13=>sr 2 rfl<|sE ?_;clear H a;intro a H
 refine k13 _ ?_;clear k13 K13
 refine wp_ret ?_
 refine ret1 (fn:=Tryz.f117) rfl H rfl ?_
 have hk9:k=br.length:=by omega
 subst hk9
 exact ⟨rfl,(S.sel [0] G G)⟩
end
section
theorem vQ (up:Bool) (empty pull drag motor:Int) (br:List Brake) (BA:Option Addr) (bcp:Nat) (sp slo shi sfail:Int) (w:World) (hb:InS w noF 2 BA br.length (bcell br)) (hbn:br.length≤9223372036854775807) :
    Calls Tryz.prog 32 [.agg [.bool up,.int .i64 empty,.int .i64 pull,.int .i64 drag,.int .i64 motor,.slice BA br.length bcp].toArray,.agg [.int .i64 sp,.int .i64 slo,.int .i64 shi,.int .i64 sfail].toArray].toArray w (Ret (fun v w'=>v = .int .i64 (stopE (⟨up,empty,pull,drag,motor,br⟩:Esc) (⟨sp,slo,shi,sfail⟩:Stp))∧St w noF [] w')):=by
 refine enter Tryz.func32 rfl Tryz.ntmps32 rfl (fun a H=>?_)
 have S:=St.start w
 refine seq_list fun K1 k1=>?_
 refine aO H rfl S G G ?_;clear H a S;intro b2 _ a hb2 hbw2 S H
 refine aO H rfl S G G ?_;clear H a S;intro b3 _ a hb3 hbw3 S H
 refine ls 1 H<|sr 1 rfl<|sE ?_;clear H a;intro a H
 refine k1 _ _ ?_;clear k1 K1
 refine wp_seq_k fun K2 k2=>?_
 cases hesc:escOk (⟨up,empty,pull,drag,motor,br⟩:Esc)
 ·skip
  refine seq_list fun K3 k3=>?_
  refine ls 1 H<|sd ((aC iU kO rfl S (i:=1) G G))<|sE ?_;clear H a;intro a H
  refine aA H G G Tryz.func58 G G (xB up empty pull drag motor br BA bcp _ (hb.now S) hbn) ?_;clear H a
  rintro _ _ a ⟨rfl,S2⟩ H
  replace S:=S.call S2;clear S2
  rw [hesc] at H;simp only [if_true,Bool.false_eq_true,if_false] at H
  refine ls 1 H<|sr 1 rfl<|sE ?_;clear H a;intro a H
  refine k3 _ _ ?_;clear k3 K3
  refine sS H fun K4 k4=>sr 2 rfl<|sE ?_;clear H a;intro a H
  refine k4 _ ?_;clear k4 K4
  refine cond_ H rfl (fun hc1=>?_) (fun hc1=>?_)
  ·skip
   skip
   replace H:=H.keep [5] rfl
   refine sS H fun K5 k5=>sr 2 rfl<|sE ?_;clear H a;intro a H
   refine k5 _ ?_;clear k5 K5
   refine wp_ret ?_
   refine ret1 (fn:=Tryz.f32) rfl H rfl ?_
   refine ⟨?_,(S.sel [] G G)⟩;unfold stopE;rw [if_neg (by rw [hesc];simp)]
  skip
  exact absurd hc1 (by decide)
 refine seq_list fun K6 k6=>?_
 refine ls 1 H<|sd ((aC iU kO rfl S (i:=1) G G))<|sE ?_;clear H a;intro a H
 refine aA H G G Tryz.func58 G G (xB up empty pull drag motor br BA bcp _ (hb.now S) hbn) ?_;clear H a
 rintro _ _ a ⟨rfl,S2⟩ H
 replace S:=S.call S2;clear S2
 rw [hesc] at H;simp only [if_true,Bool.false_eq_true,if_false] at H
 refine ls 1 H<|sr 1 rfl<|sE ?_;clear H a;intro a H
 refine k6 _ _ ?_;clear k6 K6
 refine sS H fun K7 k7=>sr 2 rfl<|sE ?_;clear H a;intro a H
 refine k7 _ ?_;clear k7 K7
 refine cond_ H rfl (fun hc2=>?_) (fun hc2=>?_)
 ·skip
  skip
  exact absurd hc2 (by decide)
 skip
 refine wp_skip ?_
 refine k2 _ _ ?_
 refine wp_seq_k fun K8 k8=>?_
 rcases (show ((sp<0∨1000<sp)∨((0≤sp∧sp≤1000)∧slo<0)∨((0≤sp∧sp≤1000∧0≤slo)∧shi<slo))∨((0≤sp∧sp≤1000∧0≤slo∧slo≤shi)∧(100000<shi∨(shi≤100000∧sfail<0)∨((shi≤100000∧0≤sfail)∧(2:Int)^br.length≤sfail)∨((shi≤100000∧0≤sfail)∧sfail<(2:Int)^br.length))) by omega) with (hs|hs|hs)|⟨hs0,hs|hs|hs|hs⟩
 ·skip
  skip
  have hE:=dP hesc
  dsimp only at hE
  obtain ⟨hE1,hE2,hE3,hE4,hE5⟩:=hE
  replace H:=H.keep [2,3] rfl
  replace S:=S.drew
  refine seq_wq [(0,true),(1,true),(2,false),(3,false),(4,true),(5,true),(6,true),(7,true),(8,true),(9,true),(10,true),(11,true),(12,true),(13,true),(14,true),(15,true),(16,true),(17,true),(18,true),(19,true),(20,true),(21,true),(22,true),(23,true),(24,true),(25,true),(26,true),(27,true),(28,true),(29,true),(30,true),(31,true),(32,true),(33,true),(34,true),(35,true),(36,true),(37,true),(38,true),(39,true)] (by kernel_rfl) (by kernel_rfl) (S.sel [0,1] G G) fun K9 k9=>?_
  refine qF H<|qd rfl (fun _ S=>(aB jD rfl))<|qd rfl (fun _ S=>aE aD rfl (boxM.rd S (i:=0) G G))<|qK ?_;clear H a;intro a H
  refine aS rfl ?_
  refine aA H G G Tryz.func60 G G (dX _ _) ?_;clear H a
  rintro _ _ a ⟨rfl,S2⟩ H
  replace S:=S.call S2;clear S2
  refine wpList_nil (And.intro (S.sel [0,1] G G) ?_)
  refine aS rfl ?_
  refine aA H G G Tryz.func59 G G (kV (by omega)) ?_;clear H a
  rintro _ _ a ⟨rfl,S2⟩ H
  replace S:=S.call S2;clear S2
  refine wpList_nil (And.intro (S.sel [0,1] G G) ?_)
  refine qF H<|qr 2 rfl<|qK ?_;clear H a;intro a H
  refine aJ H G G G G G ?_;clear H a;intro a H
  refine aJ H G G G G G ?_;clear H a;intro a H
  refine aJ H G G G G G ?_;clear H a;intro a H
  refine aJ H G G G G G ?_;clear H a;intro a H
  refine qF H<|qd rfl (fun _ S=>(aR G G G))<|qr 1 rfl<|qK ?_;clear H a;intro a H
  refine aJ H G G G G G ?_;clear H a;intro a H
  refine aJ H G G G G G ?_;clear H a;intro a H
  refine aJ H G G G G G ?_;clear H a;intro a H
  refine aJ H G G G G G ?_;clear H a;intro a H
  refine aJ H G G G G G ?_;clear H a;intro a H
  refine aJ H G G G G G ?_;clear H a;intro a H
  refine aJ H G G G G G ?_;clear H a;intro a H
  refine qF H<|qd rfl (fun _ S=>(aR G G G))<|qr 1 rfl<|qK ?_;clear H a;intro a H
  refine aJ H G G G G G ?_;clear H a;intro a H
  refine aJ H G G G G G ?_;clear H a;intro a H
  refine aJ H G G G G G ?_;clear H a;intro a H
  refine aJ H G G G G G ?_;clear H a;intro a H
  refine qF H<|qd rfl (fun _ S=>(aR G G G))<|qr 1 rfl<|qK ?_;clear H a;intro a H
  refine aJ H G G G G G ?_;clear H a;intro a H
  refine aJ H G G G G G ?_;clear H a;intro a H
  refine aJ H G G G G G ?_;clear H a;intro a H
  refine qF H<|qd rfl (fun _ S=>(aR G G G))<|qr 1 rfl<|qK ?_;clear H a;intro a H
  refine aJ H G G G G G ?_;clear H a;intro a H
  refine aJ H G G G G G ?_;clear H a;intro a H
  refine aJ H G G G G G ?_;clear H a;intro a H
  refine aJ H G G G G G ?_;clear H a;intro a H
  refine aJ H G G G G G ?_;clear H a;intro a H
  refine aJ H G G G G G ?_;clear H a;intro a H
  refine aJ H G G G G G ?_;clear H a;intro a H
  refine qF H<|qd rfl (fun _ S=>(aR G G G))<|qK ?_;clear H a;intro a H
  refine bF ?_
  refine k9 _ _ ?_
  clear k9 K9
  refine cond_ H rfl (fun hc3=>?_) (fun hc3=>?_)
  ·skip
   skip
   replace H:=H.keep [] rfl
   refine sS H fun K10 k10=>sr 1 rfl<|sE ?_;clear H a;intro a H
   refine k10 _ ?_;clear k10 K10
   refine wp_ret ?_
   refine ret1 (fn:=Tryz.f32) rfl H rfl ?_
   refine ⟨?_,(S.sel [] G G)⟩;unfold stopE;rw [if_pos hesc,if_neg (by unfold stpOk;simp only [decide_eq_true_eq];omega)]
  skip
  exact absurd hc3 (by decide)
 ·skip
  skip
  have hE:=dP hesc
  dsimp only at hE
  obtain ⟨hE1,hE2,hE3,hE4,hE5⟩:=hE
  replace H:=H.keep [2,3] rfl
  replace S:=S.drew
  refine seq_wq [(0,true),(1,true),(2,false),(3,false),(4,true),(5,true),(6,true),(7,true),(8,true),(9,true),(10,true),(11,true),(12,true),(13,true),(14,true),(15,true),(16,true),(17,true),(18,true),(19,true),(20,true),(21,true),(22,true),(23,true),(24,true),(25,true),(26,true),(27,true),(28,true),(29,true),(30,true),(31,true),(32,true),(33,true),(34,true),(35,true),(36,true),(37,true),(38,true),(39,true)] (by kernel_rfl) (by kernel_rfl) (S.sel [0,1] G G) fun K11 k11=>?_
  refine qF H<|qd rfl (fun _ S=>(aB jD rfl))<|qd rfl (fun _ S=>aE aD rfl (boxM.rd S (i:=0) G G))<|qK ?_;clear H a;intro a H
  refine aS rfl ?_
  refine aA H G G Tryz.func60 G G (dX _ _) ?_;clear H a
  rintro _ _ a ⟨rfl,S2⟩ H
  replace S:=S.call S2;clear S2
  refine wpList_nil (And.intro (S.sel [0,1] G G) ?_)
  refine aS rfl ?_
  refine aA H G G Tryz.func59 G G (cJ (by omega)) ?_;clear H a
  rintro _ _ a ⟨rfl,S2⟩ H
  replace S:=S.call S2;clear S2
  refine wpList_nil (And.intro (S.sel [0,1] G G) ?_)
  refine qF H<|qr 2 rfl<|qK ?_;clear H a;intro a H
  refine aG H G G G G (fun _ S=>(aB cD rfl)) ?_;clear H a;intro a H
  refine aG H G G G G (fun _ S=>(aB bH rfl)) ?_;clear H a;intro a H
  refine aG H G G G G (fun _ S=>aE aD rfl (boxM.rd S (i:=0) G G)) ?_;clear H a;intro a H
  refine aG H G G G G (fun _ S=>Does.to (dI G G) (congrArg Value.bool (decide_eq_true (by omega)))) ?_;clear H a;intro a H
  refine qF H<|qd rfl (fun _ S=>(aY G G G))<|qr 1 rfl<|qK ?_;clear H a;intro a H
  refine aJ H G G G G G ?_;clear H a;intro a H
  refine aJ H G G G G G ?_;clear H a;intro a H
  refine aJ H G G G G G ?_;clear H a;intro a H
  refine aJ H G G G G G ?_;clear H a;intro a H
  refine aJ H G G G G G ?_;clear H a;intro a H
  refine aJ H G G G G G ?_;clear H a;intro a H
  refine aJ H G G G G G ?_;clear H a;intro a H
  refine qF H<|qd rfl (fun _ S=>(aR G G G))<|qr 1 rfl<|qK ?_;clear H a;intro a H
  refine aJ H G G G G G ?_;clear H a;intro a H
  refine aJ H G G G G G ?_;clear H a;intro a H
  refine aJ H G G G G G ?_;clear H a;intro a H
  refine aJ H G G G G G ?_;clear H a;intro a H
  refine qF H<|qd rfl (fun _ S=>(aR G G G))<|qr 1 rfl<|qK ?_;clear H a;intro a H
  refine aJ H G G G G G ?_;clear H a;intro a H
  refine aJ H G G G G G ?_;clear H a;intro a H
  refine aJ H G G G G G ?_;clear H a;intro a H
  refine qF H<|qd rfl (fun _ S=>(aR G G G))<|qr 1 rfl<|qK ?_;clear H a;intro a H
  refine aJ H G G G G G ?_;clear H a;intro a H
  refine aJ H G G G G G ?_;clear H a;intro a H
  refine aJ H G G G G G ?_;clear H a;intro a H
  refine aJ H G G G G G ?_;clear H a;intro a H
  refine aJ H G G G G G ?_;clear H a;intro a H
  refine aJ H G G G G G ?_;clear H a;intro a H
  refine aJ H G G G G G ?_;clear H a;intro a H
  refine qF H<|qd rfl (fun _ S=>(aR G G G))<|qK ?_;clear H a;intro a H
  refine bF ?_
  refine k11 _ _ ?_
  clear k11 K11
  refine cond_ H rfl (fun hc4=>?_) (fun hc4=>?_)
  ·skip
   skip
   replace H:=H.keep [] rfl
   refine sS H fun K12 k12=>sr 1 rfl<|sE ?_;clear H a;intro a H
   refine k12 _ ?_;clear k12 K12
   refine wp_ret ?_
   refine ret1 (fn:=Tryz.f32) rfl H rfl ?_
   refine ⟨?_,(S.sel [] G G)⟩;unfold stopE;rw [if_pos hesc,if_neg (by unfold stpOk;simp only [decide_eq_true_eq];omega)]
  skip
  exact absurd hc4 (by decide)
 ·skip
  skip
  have hE:=dP hesc
  dsimp only at hE
  obtain ⟨hE1,hE2,hE3,hE4,hE5⟩:=hE
  replace H:=H.keep [2,3] rfl
  replace S:=S.drew
  refine seq_wq [(0,true),(1,true),(2,false),(3,false),(4,true),(5,true),(6,true),(7,true),(8,true),(9,true),(10,true),(11,true),(12,true),(13,true),(14,true),(15,true),(16,true),(17,true),(18,true),(19,true),(20,true),(21,true),(22,true),(23,true),(24,true),(25,true),(26,true),(27,true),(28,true),(29,true),(30,true),(31,true),(32,true),(33,true),(34,true),(35,true),(36,true),(37,true),(38,true),(39,true)] (by kernel_rfl) (by kernel_rfl) (S.sel [0,1] G G) fun K13 k13=>?_
  refine qF H<|qd rfl (fun _ S=>(aB jD rfl))<|qd rfl (fun _ S=>aE aD rfl (boxM.rd S (i:=0) G G))<|qK ?_;clear H a;intro a H
  refine aS rfl ?_
  refine aA H G G Tryz.func60 G G (dX _ _) ?_;clear H a
  rintro _ _ a ⟨rfl,S2⟩ H
  replace S:=S.call S2;clear S2
  refine wpList_nil (And.intro (S.sel [0,1] G G) ?_)
  refine aS rfl ?_
  refine aA H G G Tryz.func59 G G (cJ (by omega)) ?_;clear H a
  rintro _ _ a ⟨rfl,S2⟩ H
  replace S:=S.call S2;clear S2
  refine wpList_nil (And.intro (S.sel [0,1] G G) ?_)
  refine qF H<|qr 2 rfl<|qK ?_;clear H a;intro a H
  refine aG H G G G G (fun _ S=>(aB cD rfl)) ?_;clear H a;intro a H
  refine aG H G G G G (fun _ S=>(aB bH rfl)) ?_;clear H a;intro a H
  refine aG H G G G G (fun _ S=>aE aD rfl (boxM.rd S (i:=0) G G)) ?_;clear H a;intro a H
  refine aG H G G G G (fun _ S=>Does.to (dI G G) (congrArg Value.bool (decide_eq_false (by omega)))) ?_;clear H a;intro a H
  refine qF H<|qd rfl (fun _ S=>(aY G G G))<|qr 1 rfl<|qK ?_;clear H a;intro a H
  refine aG H G G G G (fun _ S=>(aB cD rfl)) ?_;clear H a;intro a H
  refine aG H G G G G (fun _ S=>(aB bH rfl)) ?_;clear H a;intro a H
  refine aG H G G G G (fun _ S=>aE aD rfl (boxM.rd S (i:=0) G G)) ?_;clear H a;intro a H
  refine aG H G G G G (fun _ S=>(aB cD rfl)) ?_;clear H a;intro a H
  refine aG H G G G G (fun _ S=>(aB bG rfl)) ?_;clear H a;intro a H
  refine aG H G G G G (fun _ S=>aE aD rfl (boxM.rd S (i:=0) G G)) ?_;clear H a;intro a H
  refine aG H G G G G (fun _ S=>Does.to (bV G G) (congrArg Value.bool (decide_eq_true (by omega)))) ?_;clear H a;intro a H
  refine qF H<|qd rfl (fun _ S=>(aY G G G))<|qr 1 rfl<|qK ?_;clear H a;intro a H
  refine aJ H G G G G G ?_;clear H a;intro a H
  refine aJ H G G G G G ?_;clear H a;intro a H
  refine aJ H G G G G G ?_;clear H a;intro a H
  refine aJ H G G G G G ?_;clear H a;intro a H
  refine qF H<|qd rfl (fun _ S=>(aR G G G))<|qr 1 rfl<|qK ?_;clear H a;intro a H
  refine aJ H G G G G G ?_;clear H a;intro a H
  refine aJ H G G G G G ?_;clear H a;intro a H
  refine aJ H G G G G G ?_;clear H a;intro a H
  refine qF H<|qd rfl (fun _ S=>(aR G G G))<|qr 1 rfl<|qK ?_;clear H a;intro a H
  refine aJ H G G G G G ?_;clear H a;intro a H
  refine aJ H G G G G G ?_;clear H a;intro a H
  refine aJ H G G G G G ?_;clear H a;intro a H
  refine aJ H G G G G G ?_;clear H a;intro a H
  refine aJ H G G G G G ?_;clear H a;intro a H
  refine aJ H G G G G G ?_;clear H a;intro a H
  refine aJ H G G G G G ?_;clear H a;intro a H
  refine qF H<|qd rfl (fun _ S=>(aR G G G))<|qK ?_;clear H a;intro a H
  refine bF ?_
  refine k13 _ _ ?_
  clear k13 K13
  refine cond_ H rfl (fun hc5=>?_) (fun hc5=>?_)
  ·skip
   skip
   replace H:=H.keep [] rfl
   refine sS H fun K14 k14=>sr 1 rfl<|sE ?_;clear H a;intro a H
   refine k14 _ ?_;clear k14 K14
   refine wp_ret ?_
   refine ret1 (fn:=Tryz.f32) rfl H rfl ?_
   refine ⟨?_,(S.sel [] G G)⟩;unfold stopE;rw [if_pos hesc,if_neg (by unfold stpOk;simp only [decide_eq_true_eq];omega)]
  skip
  exact absurd hc5 (by decide)
 ·skip
  skip
  have hE:=dP hesc
  dsimp only at hE
  obtain ⟨hE1,hE2,hE3,hE4,hE5⟩:=hE
  replace H:=H.keep [2,3] rfl
  replace S:=S.drew
  refine seq_wq [(0,true),(1,true),(2,false),(3,false),(4,true),(5,true),(6,true),(7,true),(8,true),(9,true),(10,true),(11,true),(12,true),(13,true),(14,true),(15,true),(16,true),(17,true),(18,true),(19,true),(20,true),(21,true),(22,true),(23,true),(24,true),(25,true),(26,true),(27,true),(28,true),(29,true),(30,true),(31,true),(32,true),(33,true),(34,true),(35,true),(36,true),(37,true),(38,true),(39,true)] (by kernel_rfl) (by kernel_rfl) (S.sel [0,1] G G) fun K15 k15=>?_
  refine qF H<|qd rfl (fun _ S=>(aB jD rfl))<|qd rfl (fun _ S=>aE aD rfl (boxM.rd S (i:=0) G G))<|qK ?_;clear H a;intro a H
  refine aS rfl ?_
  refine aA H G G Tryz.func60 G G (dX _ _) ?_;clear H a
  rintro _ _ a ⟨rfl,S2⟩ H
  replace S:=S.call S2;clear S2
  refine wpList_nil (And.intro (S.sel [0,1] G G) ?_)
  refine aS rfl ?_
  refine aA H G G Tryz.func59 G G (cJ (by omega)) ?_;clear H a
  rintro _ _ a ⟨rfl,S2⟩ H
  replace S:=S.call S2;clear S2
  refine wpList_nil (And.intro (S.sel [0,1] G G) ?_)
  refine qF H<|qr 2 rfl<|qK ?_;clear H a;intro a H
  refine aG H G G G G (fun _ S=>(aB cD rfl)) ?_;clear H a;intro a H
  refine aG H G G G G (fun _ S=>(aB bH rfl)) ?_;clear H a;intro a H
  refine aG H G G G G (fun _ S=>aE aD rfl (boxM.rd S (i:=0) G G)) ?_;clear H a;intro a H
  refine aG H G G G G (fun _ S=>Does.to (dI G G) (congrArg Value.bool (decide_eq_false (by omega)))) ?_;clear H a;intro a H
  refine qF H<|qd rfl (fun _ S=>(aY G G G))<|qr 1 rfl<|qK ?_;clear H a;intro a H
  refine aG H G G G G (fun _ S=>(aB cD rfl)) ?_;clear H a;intro a H
  refine aG H G G G G (fun _ S=>(aB bH rfl)) ?_;clear H a;intro a H
  refine aG H G G G G (fun _ S=>aE aD rfl (boxM.rd S (i:=0) G G)) ?_;clear H a;intro a H
  refine aG H G G G G (fun _ S=>(aB cD rfl)) ?_;clear H a;intro a H
  refine aG H G G G G (fun _ S=>(aB bG rfl)) ?_;clear H a;intro a H
  refine aG H G G G G (fun _ S=>aE aD rfl (boxM.rd S (i:=0) G G)) ?_;clear H a;intro a H
  refine aG H G G G G (fun _ S=>Does.to (bV G G) (congrArg Value.bool (decide_eq_false (by omega)))) ?_;clear H a;intro a H
  refine qF H<|qd rfl (fun _ S=>(aY G G G))<|qr 1 rfl<|qK ?_;clear H a;intro a H
  refine aG H G G G G (fun _ S=>(aB cD rfl)) ?_;clear H a;intro a H
  refine aG H G G G G (fun _ S=>(aB bG rfl)) ?_;clear H a;intro a H
  refine aG H G G G G (fun _ S=>aE aD rfl (boxM.rd S (i:=0) G G)) ?_;clear H a;intro a H
  refine aG H G G G G (fun _ S=>Does.to (bV G G) (congrArg Value.bool (decide_eq_true (by omega)))) ?_;clear H a;intro a H
  refine qF H<|qd rfl (fun _ S=>(aY G G G))<|qr 1 rfl<|qK ?_;clear H a;intro a H
  refine aJ H G G G G G ?_;clear H a;intro a H
  refine aJ H G G G G G ?_;clear H a;intro a H
  refine aJ H G G G G G ?_;clear H a;intro a H
  refine qF H<|qd rfl (fun _ S=>(aR G G G))<|qr 1 rfl<|qK ?_;clear H a;intro a H
  refine aJ H G G G G G ?_;clear H a;intro a H
  refine aJ H G G G G G ?_;clear H a;intro a H
  refine aJ H G G G G G ?_;clear H a;intro a H
  refine aJ H G G G G G ?_;clear H a;intro a H
  refine aJ H G G G G G ?_;clear H a;intro a H
  refine aJ H G G G G G ?_;clear H a;intro a H
  refine aJ H G G G G G ?_;clear H a;intro a H
  refine qF H<|qd rfl (fun _ S=>(aR G G G))<|qK ?_;clear H a;intro a H
  refine bF ?_
  refine k15 _ _ ?_
  clear k15 K15
  refine cond_ H rfl (fun hc6=>?_) (fun hc6=>?_)
  ·skip
   skip
   replace H:=H.keep [] rfl
   refine sS H fun K16 k16=>sr 1 rfl<|sE ?_;clear H a;intro a H
   refine k16 _ ?_;clear k16 K16
   refine wp_ret ?_
   refine ret1 (fn:=Tryz.f32) rfl H rfl ?_
   refine ⟨?_,(S.sel [] G G)⟩;unfold stopE;rw [if_pos hesc,if_neg (by unfold stpOk;simp only [decide_eq_true_eq];omega)]
  skip
  exact absurd hc6 (by decide)
 ·skip
  skip
  have hE:=dP hesc
  dsimp only at hE
  obtain ⟨hE1,hE2,hE3,hE4,hE5⟩:=hE
  replace H:=H.keep [2,3] rfl
  replace S:=S.drew
  refine seq_wq [(0,true),(1,true),(2,false),(3,false),(4,true),(5,true),(6,true),(7,true),(8,true),(9,true),(10,true),(11,true),(12,true),(13,true),(14,true),(15,true),(16,true),(17,true),(18,true),(19,true),(20,true),(21,true),(22,true),(23,true),(24,true),(25,true),(26,true),(27,true),(28,true),(29,true),(30,true),(31,true),(32,true),(33,true),(34,true),(35,true),(36,true),(37,true),(38,true),(39,true)] (by kernel_rfl) (by kernel_rfl) (S.sel [0,1] G G) fun K17 k17=>?_
  refine qF H<|qd rfl (fun _ S=>(aB jD rfl))<|qd rfl (fun _ S=>aE aD rfl (boxM.rd S (i:=0) G G))<|qK ?_;clear H a;intro a H
  refine aS rfl ?_
  refine aA H G G Tryz.func60 G G (dX _ _) ?_;clear H a
  rintro _ _ a ⟨rfl,S2⟩ H
  replace S:=S.call S2;clear S2
  refine wpList_nil (And.intro (S.sel [0,1] G G) ?_)
  refine aS rfl ?_
  refine aA H G G Tryz.func59 G G (cJ (by omega)) ?_;clear H a
  rintro _ _ a ⟨rfl,S2⟩ H
  replace S:=S.call S2;clear S2
  refine wpList_nil (And.intro (S.sel [0,1] G G) ?_)
  refine qF H<|qr 2 rfl<|qK ?_;clear H a;intro a H
  refine aG H G G G G (fun _ S=>(aB cD rfl)) ?_;clear H a;intro a H
  refine aG H G G G G (fun _ S=>(aB bH rfl)) ?_;clear H a;intro a H
  refine aG H G G G G (fun _ S=>aE aD rfl (boxM.rd S (i:=0) G G)) ?_;clear H a;intro a H
  refine aG H G G G G (fun _ S=>Does.to (dI G G) (congrArg Value.bool (decide_eq_false (by omega)))) ?_;clear H a;intro a H
  refine qF H<|qd rfl (fun _ S=>(aY G G G))<|qr 1 rfl<|qK ?_;clear H a;intro a H
  refine aG H G G G G (fun _ S=>(aB cD rfl)) ?_;clear H a;intro a H
  refine aG H G G G G (fun _ S=>(aB bH rfl)) ?_;clear H a;intro a H
  refine aG H G G G G (fun _ S=>aE aD rfl (boxM.rd S (i:=0) G G)) ?_;clear H a;intro a H
  refine aG H G G G G (fun _ S=>(aB cD rfl)) ?_;clear H a;intro a H
  refine aG H G G G G (fun _ S=>(aB bG rfl)) ?_;clear H a;intro a H
  refine aG H G G G G (fun _ S=>aE aD rfl (boxM.rd S (i:=0) G G)) ?_;clear H a;intro a H
  refine aG H G G G G (fun _ S=>Does.to (bV G G) (congrArg Value.bool (decide_eq_false (by omega)))) ?_;clear H a;intro a H
  refine qF H<|qd rfl (fun _ S=>(aY G G G))<|qr 1 rfl<|qK ?_;clear H a;intro a H
  refine aG H G G G G (fun _ S=>(aB cD rfl)) ?_;clear H a;intro a H
  refine aG H G G G G (fun _ S=>(aB bG rfl)) ?_;clear H a;intro a H
  refine aG H G G G G (fun _ S=>aE aD rfl (boxM.rd S (i:=0) G G)) ?_;clear H a;intro a H
  refine aG H G G G G (fun _ S=>Does.to (bV G G) (congrArg Value.bool (decide_eq_false (by omega)))) ?_;clear H a;intro a H
  refine qF H<|qd rfl (fun _ S=>(aY G G G))<|qr 1 rfl<|qK ?_;clear H a;intro a H
  refine aG H G G G G (fun _ S=>(aB mR rfl)) ?_;clear H a;intro a H
  refine aG H G G G G (fun _ S=>aE aD rfl (boxM.rd S (i:=0) G G)) ?_;clear H a;intro a H
  refine aG H G G G G (fun _ S=>Does.to (dI G G) (congrArg Value.bool (decide_eq_true (by omega)))) ?_;clear H a;intro a H
  refine qF H<|qd rfl (fun _ S=>(aY G G G))<|qr 1 rfl<|qK ?_;clear H a;intro a H
  refine aJ H G G G G G ?_;clear H a;intro a H
  refine aJ H G G G G G ?_;clear H a;intro a H
  refine aJ H G G G G G ?_;clear H a;intro a H
  refine aJ H G G G G G ?_;clear H a;intro a H
  refine aJ H G G G G G ?_;clear H a;intro a H
  refine aJ H G G G G G ?_;clear H a;intro a H
  refine aJ H G G G G G ?_;clear H a;intro a H
  refine qF H<|qd rfl (fun _ S=>(aR G G G))<|qK ?_;clear H a;intro a H
  refine bF ?_
  refine k17 _ _ ?_
  clear k17 K17
  refine cond_ H rfl (fun hc7=>?_) (fun hc7=>?_)
  ·skip
   skip
   replace H:=H.keep [] rfl
   refine sS H fun K18 k18=>sr 1 rfl<|sE ?_;clear H a;intro a H
   refine k18 _ ?_;clear k18 K18
   refine wp_ret ?_
   refine ret1 (fn:=Tryz.f32) rfl H rfl ?_
   refine ⟨?_,(S.sel [] G G)⟩;unfold stopE;rw [if_pos hesc,if_neg (by unfold stpOk;simp only [decide_eq_true_eq];omega)]
  skip
  exact absurd hc7 (by decide)
 ·skip
  skip
  have hE:=dP hesc
  dsimp only at hE
  obtain ⟨hE1,hE2,hE3,hE4,hE5⟩:=hE
  replace H:=H.keep [2,3] rfl
  replace S:=S.drew
  refine seq_wq [(0,true),(1,true),(2,false),(3,false),(4,true),(5,true),(6,true),(7,true),(8,true),(9,true),(10,true),(11,true),(12,true),(13,true),(14,true),(15,true),(16,true),(17,true),(18,true),(19,true),(20,true),(21,true),(22,true),(23,true),(24,true),(25,true),(26,true),(27,true),(28,true),(29,true),(30,true),(31,true),(32,true),(33,true),(34,true),(35,true),(36,true),(37,true),(38,true),(39,true)] (by kernel_rfl) (by kernel_rfl) (S.sel [0,1] G G) fun K19 k19=>?_
  refine qF H<|qd rfl (fun _ S=>(aB jD rfl))<|qd rfl (fun _ S=>aE aD rfl (boxM.rd S (i:=0) G G))<|qK ?_;clear H a;intro a H
  refine aS rfl ?_
  refine aA H G G Tryz.func60 G G (dX _ _) ?_;clear H a
  rintro _ _ a ⟨rfl,S2⟩ H
  replace S:=S.call S2;clear S2
  refine wpList_nil (And.intro (S.sel [0,1] G G) ?_)
  refine aS rfl ?_
  refine aA H G G Tryz.func59 G G (cJ (by omega)) ?_;clear H a
  rintro _ _ a ⟨rfl,S2⟩ H
  replace S:=S.call S2;clear S2
  refine wpList_nil (And.intro (S.sel [0,1] G G) ?_)
  refine qF H<|qr 2 rfl<|qK ?_;clear H a;intro a H
  refine aG H G G G G (fun _ S=>(aB cD rfl)) ?_;clear H a;intro a H
  refine aG H G G G G (fun _ S=>(aB bH rfl)) ?_;clear H a;intro a H
  refine aG H G G G G (fun _ S=>aE aD rfl (boxM.rd S (i:=0) G G)) ?_;clear H a;intro a H
  refine aG H G G G G (fun _ S=>Does.to (dI G G) (congrArg Value.bool (decide_eq_false (by omega)))) ?_;clear H a;intro a H
  refine qF H<|qd rfl (fun _ S=>(aY G G G))<|qr 1 rfl<|qK ?_;clear H a;intro a H
  refine aG H G G G G (fun _ S=>(aB cD rfl)) ?_;clear H a;intro a H
  refine aG H G G G G (fun _ S=>(aB bH rfl)) ?_;clear H a;intro a H
  refine aG H G G G G (fun _ S=>aE aD rfl (boxM.rd S (i:=0) G G)) ?_;clear H a;intro a H
  refine aG H G G G G (fun _ S=>(aB cD rfl)) ?_;clear H a;intro a H
  refine aG H G G G G (fun _ S=>(aB bG rfl)) ?_;clear H a;intro a H
  refine aG H G G G G (fun _ S=>aE aD rfl (boxM.rd S (i:=0) G G)) ?_;clear H a;intro a H
  refine aG H G G G G (fun _ S=>Does.to (bV G G) (congrArg Value.bool (decide_eq_false (by omega)))) ?_;clear H a;intro a H
  refine qF H<|qd rfl (fun _ S=>(aY G G G))<|qr 1 rfl<|qK ?_;clear H a;intro a H
  refine aG H G G G G (fun _ S=>(aB cD rfl)) ?_;clear H a;intro a H
  refine aG H G G G G (fun _ S=>(aB bG rfl)) ?_;clear H a;intro a H
  refine aG H G G G G (fun _ S=>aE aD rfl (boxM.rd S (i:=0) G G)) ?_;clear H a;intro a H
  refine aG H G G G G (fun _ S=>Does.to (bV G G) (congrArg Value.bool (decide_eq_false (by omega)))) ?_;clear H a;intro a H
  refine qF H<|qd rfl (fun _ S=>(aY G G G))<|qr 1 rfl<|qK ?_;clear H a;intro a H
  refine aG H G G G G (fun _ S=>(aB mR rfl)) ?_;clear H a;intro a H
  refine aG H G G G G (fun _ S=>aE aD rfl (boxM.rd S (i:=0) G G)) ?_;clear H a;intro a H
  refine aG H G G G G (fun _ S=>Does.to (dI G G) (congrArg Value.bool (decide_eq_false (by omega)))) ?_;clear H a;intro a H
  refine qF H<|qd rfl (fun _ S=>(aY G G G))<|qr 1 rfl<|qK ?_;clear H a;intro a H
  refine aG H G G G G (fun _ S=>(aB mR rfl)) ?_;clear H a;intro a H
  refine aG H G G G G (fun _ S=>aE aD rfl (boxM.rd S (i:=0) G G)) ?_;clear H a;intro a H
  refine aG H G G G G (fun _ S=>(aB mT rfl)) ?_;clear H a;intro a H
  refine aG H G G G G (fun _ S=>aE qH rfl (boxM.rd S (i:=1) G G)) ?_;clear H a;intro a H
  refine aG H G G G G (fun _ S=>cB oP rfl) ?_;clear H a;intro a H
  refine aG H G G G G (fun _ S=>eJ G G (by omega) (by omega) (by unfold i64ok;omega)) ?_;clear H a;intro a H
  refine aG H G G G G (fun _ S=>Does.to (sQ G G) (congrArg Value.bool (decide_eq_true (by omega)))) ?_;clear H a;intro a H
  refine qF H<|qd rfl (fun _ S=>(aY G G G))<|qK ?_;clear H a;intro a H
  refine bF ?_
  refine k19 _ _ ?_
  clear k19 K19
  refine cond_ H rfl (fun hc8=>?_) (fun hc8=>?_)
  ·skip
   skip
   replace H:=H.keep [] rfl
   refine sS H fun K20 k20=>sr 1 rfl<|sE ?_;clear H a;intro a H
   refine k20 _ ?_;clear k20 K20
   refine wp_ret ?_
   refine ret1 (fn:=Tryz.f32) rfl H rfl ?_
   refine ⟨?_,(S.sel [] G G)⟩;unfold stopE;rw [if_pos hesc,if_neg (by unfold stpOk;simp only [decide_eq_true_eq];omega)]
  skip
  exact absurd hc8 (by decide)
 skip
 have hE:=dP hesc
 dsimp only at hE
 obtain ⟨hE1,hE2,hE3,hE4,hE5⟩:=hE
 replace H:=H.keep [2,3] rfl
 replace S:=S.drew
 refine seq_wq [(0,true),(1,true),(2,false),(3,false),(4,true),(5,true),(6,true),(7,true),(8,true),(9,true),(10,true),(11,true),(12,true),(13,true),(14,true),(15,true),(16,true),(17,true),(18,true),(19,true),(20,true),(21,true),(22,true),(23,true),(24,true),(25,true),(26,true),(27,true),(28,true),(29,true),(30,true),(31,true),(32,true),(33,true),(34,true),(35,true),(36,true),(37,true),(38,true),(39,true)] (by kernel_rfl) (by kernel_rfl) (S.sel [0,1] G G) fun K21 k21=>?_
 refine qF H<|qd rfl (fun _ S=>(aB jD rfl))<|qd rfl (fun _ S=>aE aD rfl (boxM.rd S (i:=0) G G))<|qK ?_;clear H a;intro a H
 refine aS rfl ?_
 refine aA H G G Tryz.func60 G G (dX _ _) ?_;clear H a
 rintro _ _ a ⟨rfl,S2⟩ H
 replace S:=S.call S2;clear S2
 refine wpList_nil (And.intro (S.sel [0,1] G G) ?_)
 refine aS rfl ?_
 refine aA H G G Tryz.func59 G G (cJ (by omega)) ?_;clear H a
 rintro _ _ a ⟨rfl,S2⟩ H
 replace S:=S.call S2;clear S2
 refine wpList_nil (And.intro (S.sel [0,1] G G) ?_)
 refine qF H<|qr 2 rfl<|qK ?_;clear H a;intro a H
 refine aG H G G G G (fun _ S=>(aB cD rfl)) ?_;clear H a;intro a H
 refine aG H G G G G (fun _ S=>(aB bH rfl)) ?_;clear H a;intro a H
 refine aG H G G G G (fun _ S=>aE aD rfl (boxM.rd S (i:=0) G G)) ?_;clear H a;intro a H
 refine aG H G G G G (fun _ S=>Does.to (dI G G) (congrArg Value.bool (decide_eq_false (by omega)))) ?_;clear H a;intro a H
 refine qF H<|qd rfl (fun _ S=>(aY G G G))<|qr 1 rfl<|qK ?_;clear H a;intro a H
 refine aG H G G G G (fun _ S=>(aB cD rfl)) ?_;clear H a;intro a H
 refine aG H G G G G (fun _ S=>(aB bH rfl)) ?_;clear H a;intro a H
 refine aG H G G G G (fun _ S=>aE aD rfl (boxM.rd S (i:=0) G G)) ?_;clear H a;intro a H
 refine aG H G G G G (fun _ S=>(aB cD rfl)) ?_;clear H a;intro a H
 refine aG H G G G G (fun _ S=>(aB bG rfl)) ?_;clear H a;intro a H
 refine aG H G G G G (fun _ S=>aE aD rfl (boxM.rd S (i:=0) G G)) ?_;clear H a;intro a H
 refine aG H G G G G (fun _ S=>Does.to (bV G G) (congrArg Value.bool (decide_eq_false (by omega)))) ?_;clear H a;intro a H
 refine qF H<|qd rfl (fun _ S=>(aY G G G))<|qr 1 rfl<|qK ?_;clear H a;intro a H
 refine aG H G G G G (fun _ S=>(aB cD rfl)) ?_;clear H a;intro a H
 refine aG H G G G G (fun _ S=>(aB bG rfl)) ?_;clear H a;intro a H
 refine aG H G G G G (fun _ S=>aE aD rfl (boxM.rd S (i:=0) G G)) ?_;clear H a;intro a H
 refine aG H G G G G (fun _ S=>Does.to (bV G G) (congrArg Value.bool (decide_eq_false (by omega)))) ?_;clear H a;intro a H
 refine qF H<|qd rfl (fun _ S=>(aY G G G))<|qr 1 rfl<|qK ?_;clear H a;intro a H
 refine aG H G G G G (fun _ S=>(aB mR rfl)) ?_;clear H a;intro a H
 refine aG H G G G G (fun _ S=>aE aD rfl (boxM.rd S (i:=0) G G)) ?_;clear H a;intro a H
 refine aG H G G G G (fun _ S=>Does.to (dI G G) (congrArg Value.bool (decide_eq_false (by omega)))) ?_;clear H a;intro a H
 refine qF H<|qd rfl (fun _ S=>(aY G G G))<|qr 1 rfl<|qK ?_;clear H a;intro a H
 refine aG H G G G G (fun _ S=>(aB mR rfl)) ?_;clear H a;intro a H
 refine aG H G G G G (fun _ S=>aE aD rfl (boxM.rd S (i:=0) G G)) ?_;clear H a;intro a H
 refine aG H G G G G (fun _ S=>(aB mT rfl)) ?_;clear H a;intro a H
 refine aG H G G G G (fun _ S=>aE qH rfl (boxM.rd S (i:=1) G G)) ?_;clear H a;intro a H
 refine aG H G G G G (fun _ S=>cB oP rfl) ?_;clear H a;intro a H
 refine aG H G G G G (fun _ S=>eJ G G (by omega) (by omega) (by unfold i64ok;omega)) ?_;clear H a;intro a H
 refine aG H G G G G (fun _ S=>Does.to (sQ G G) (congrArg Value.bool (decide_eq_false (by omega)))) ?_;clear H a;intro a H
 refine qF H<|qd rfl (fun _ S=>(aY G G G))<|qK ?_;clear H a;intro a H
 refine bF ?_
 refine k21 _ _ ?_
 clear k21 K21
 refine cond_ H rfl (fun hc9=>?_) (fun hc9=>?_)
 ·skip
  skip
  exact absurd hc9 (by decide)
 skip
 refine wp_skip ?_
 refine k8 _ _ ?_
 replace H:=H.keep [] rfl
 refine sS H fun K22 k22=>sr 1 rfl<|sE ?_;clear H a;intro a H
 refine k22 _ ?_;clear k22 K22
 refine wp_ret ?_
 refine ret1 (fn:=Tryz.f32) rfl H rfl ?_
 refine ⟨?_,(S.sel [] G G)⟩;unfold stopE;rw [if_pos hesc,if_pos (by unfold stpOk;simp only [decide_eq_true_eq];omega)]
theorem pW (up:Bool) (empty pull drag motor:Int) (br:List Brake) (BA:Option Addr) (bcp:Nat) (sp slo shi sfail:Int) (mb:Nat) (v:Int) (t:Nat) (x:Int) (w:World) (F:Nat→Prop) (S:St w F [boxM mb 135 [.bool up,.int .i64 empty,.int .i64 pull,.int .i64 drag,.int .i64 motor,.slice BA br.length bcp,.int .i64 sp,.int .i64 slo,.int .i64 shi,.int .i64 sfail,.int .i64 (v),.int .i64 (t:Int)]] w) (hb:InS w F 2 BA br.length (bcell br)) (hesc:escOk (⟨up,empty,pull,drag,motor,br⟩:Esc)=true) (hstp:stpOk (⟨up,empty,pull,drag,motor,br⟩:Esc) (⟨sp,slo,shi,sfail⟩:Stp)=true) (hx:slo≤x∧x≤shi) (ht:t≤1000) (hv : -900000000000≤v∧v≤900000000000) :
    Calls Tryz.prog 90 [.pointer (some ⟨mb,0,none⟩),.int .i64 x].toArray w (Ret (fun u w'=>u = .int .i64 (tickI (⟨up,empty,pull,drag,motor,br⟩:Esc) v x (gripI (⟨up,empty,pull,drag,motor,br⟩:Esc) (⟨sp,slo,shi,sfail⟩:Stp) (t:Int)))∧St w F [boxM mb 135 [.bool up,.int .i64 empty,.int .i64 pull,.int .i64 drag,.int .i64 motor,.slice BA br.length bcp,.int .i64 sp,.int .i64 slo,.int .i64 shi,.int .i64 sfail,.int .i64 (tickI (⟨up,empty,pull,drag,motor,br⟩:Esc) v x (gripI (⟨up,empty,pull,drag,motor,br⟩:Esc) (⟨sp,slo,shi,sfail⟩:Stp) (t:Int))),.int .i64 ((t:Int)+1)]] w')):=by
 have hE:=dP hesc
 dsimp only at hE
 obtain ⟨hE1,hE2,hE3,hE4,hE5⟩:=hE
 have hS1:=hstp;unfold stpOk at hS1;simp only [decide_eq_true_eq] at hS1
 have hgb:=zI (fail:=sfail) (t:=t) (l:=br) (by unfold escOk at hesc;simp only [Bool.and_eq_true] at hesc;exact hesc.2) br.length (Nat.le_refl _)
 have hgr:0≤gripI (⟨up,empty,pull,drag,motor,br⟩:Esc) (⟨sp,slo,shi,sfail⟩:Stp) (t:Int)∧gripI (⟨up,empty,pull,drag,motor,br⟩:Esc) (⟨sp,slo,shi,sfail⟩:Stp) (t:Int)≤30000000:=by unfold gripI;dsimp only;omega
 refine enter Tryz.func90 rfl Tryz.ntmps90 rfl (fun a H=>?_)
 skip
 refine sS H fun K1 k1=>sr 1 rfl<|sE ?_;clear H a;intro a H
 refine k1 _ ?_;clear k1 K1
 replace H:=H.keep [0,1] rfl
 replace S:=S.drew
 refine seq_wt 15 (.p 0 (.p 1 (.p 2 (.p 3 (.p 5 (.p 6 (.p 7 (.p 9 (.p 10 (.b3 4 (.b2 8 (.e 11 (.e 12 (.p 13 (.p 14 (.e 15 .nil))))) 11 (.e 8 (.e 12 (.p 13 (.p 14 (.e 15 .nil)))))) 8 (.b2 4 (.e 11 (.e 12 (.p 13 (.p 14 (.e 15 .nil))))) 11 (.e 4 (.e 12 (.p 13 (.p 14 (.e 15 .nil)))))) 11 (.b2 4 (.e 8 (.e 12 (.p 13 (.p 14 (.e 15 .nil))))) 8 (.e 4 (.e 12 (.p 13 (.p 14 (.e 15 .nil)))))))))))))))) (by kernel_rfl) (by kernel_rfl) (S.sel [0] G G) fun K2 k2=>?_
 refine aV H G G (fun _=>aL rfl) ?_;clear H a;intro a H
 refine aV H G G (fun _=>aL rfl) ?_;clear H a;intro a H
 refine aV H G G (fun _=>bK rfl) ?_;clear H a;intro a H
 refine aV H G G (fun _=>(aB Ae rfl)) ?_;clear H a;intro a H
 refine aV H G G (fun _=>aL rfl) ?_;clear H a;intro a H
 refine aV H G G (fun _=>bK rfl) ?_;clear H a;intro a H
 refine aV H G G (fun _=>(aB cU rfl)) ?_;clear H a;intro a H
 refine aV H G G (fun _=>aL rfl) ?_;clear H a;intro a H
 refine aV H G G (fun _=>aL rfl) ?_;clear H a;intro a H
 refine vT G G G ?_ ?_ ?_
 ·skip
  refine ls 1 H<|sd ((aC iU kO rfl S (i:=0) G G))<|sE ?_;clear H a;intro a H
  refine wpList_nil (And.intro (Or.inr (S.sel [0] G G)) ?_)
  refine eA G G ?_ ?_
  ·skip
   refine ls 1 H<|sl S 0 aD G G G<|sE ?_;clear H a;intro a H
   refine wpList_nil (And.intro (Or.inr (S.sel [0] G G)) ?_)
   refine aM rfl ?_
   have S1:=(S.sel [0] G G)
   refine aA H G G Tryz.func117 G G (mN up empty pull drag motor br BA bcp sp slo shi sfail mb v t _ _ S1.startR (hb.nowR S1) hesc hstp) ?_;clear H a
   rintro _ _ a ⟨rfl,S2⟩ H
   replace S:=(S.sel [0] G G).callR (M:=[_]) S2;clear S1 S2
   refine wpList_nil (And.intro (Or.inr (S.sel [0] G G)) ?_)
   refine aM rfl ?_
   refine aA H G G Tryz.func116 G G (kW up empty pull drag motor br BA bcp v x _ _ hesc (by omega) (by omega) (by omega)) ?_;clear H a
   rintro _ _ a ⟨rfl,S2⟩ H
   replace S:=S.call S2;clear S2
   refine wpList_nil (And.intro (Or.inr (S.sel [0] G G)) ?_)
   refine aV H G G (fun _=>bK rfl) ?_;clear H a;intro a H
   refine aV H G G (fun _=>(aB cU rfl)) ?_;clear H a;intro a H
   refine aM rfl ?_
   refine aF H S (i:=0) G G G G bA G G ?_
   clear H a S;intro _ a S H
   refine wpList_nil (And.intro (Or.inl rfl) ?_)
   refine bE ?_
   refine k2 _ _ ?_
   clear k2 K2
   replace H:=H.keep [0] rfl
   refine seq_list fun K3 k3=>?_
   refine ls 7 H<|sr 2 rfl<|sf eC rfl<|sl S 0 aD G G G<|sd (aK G G (by unfold i64ok;omega))<|sr 1 rfl<|sf eC rfl<|sE ?_;clear H a;intro a H
   refine aF H S (i:=0) G G G G bA G G ?_
   clear H a S;intro _ a S H
   refine k3 _ _ ?_;clear k3 K3
   replace H:=H.keep [0] rfl
   refine sS H fun K4 k4=>sr 2 rfl<|sf cU rfl<|sl S 0 aD G G G<|sr 1 rfl<|sE ?_;clear H a;intro a H
   refine k4 _ ?_;clear k4 K4
   refine wp_ret ?_
   refine ret1 (fn:=Tryz.f90) rfl H rfl ?_
   exact ⟨rfl,(S.sel [0] G G)⟩
  ·skip
   have S1:=(S.sel [0] G G)
   refine aA H G G Tryz.func117 G G (mN up empty pull drag motor br BA bcp sp slo shi sfail mb v t _ _ S1.startR (hb.nowR S1) hesc hstp) ?_;clear H a
   rintro _ _ a ⟨rfl,S2⟩ H
   replace S:=(S.sel [0] G G).callR (M:=[_]) S2;clear S1 S2
   refine wpList_nil (And.intro (Or.inr (S.sel [0] G G)) ?_)
   refine aM rfl ?_
   refine ls 1 H<|sl S 0 aD G G G<|sE ?_;clear H a;intro a H
   refine wpList_nil (And.intro (Or.inr (S.sel [0] G G)) ?_)
   refine aM rfl ?_
   refine aA H G G Tryz.func116 G G (kW up empty pull drag motor br BA bcp v x _ _ hesc (by omega) (by omega) (by omega)) ?_;clear H a
   rintro _ _ a ⟨rfl,S2⟩ H
   replace S:=S.call S2;clear S2
   refine wpList_nil (And.intro (Or.inr (S.sel [0] G G)) ?_)
   refine aV H G G (fun _=>bK rfl) ?_;clear H a;intro a H
   refine aV H G G (fun _=>(aB cU rfl)) ?_;clear H a;intro a H
   refine aM rfl ?_
   refine aF H S (i:=0) G G G G bA G G ?_
   clear H a S;intro _ a S H
   refine wpList_nil (And.intro (Or.inl rfl) ?_)
   refine bE ?_
   refine k2 _ _ ?_
   clear k2 K2
   replace H:=H.keep [0] rfl
   refine seq_list fun K5 k5=>?_
   refine ls 7 H<|sr 2 rfl<|sf eC rfl<|sl S 0 aD G G G<|sd (aK G G (by unfold i64ok;omega))<|sr 1 rfl<|sf eC rfl<|sE ?_;clear H a;intro a H
   refine aF H S (i:=0) G G G G bA G G ?_
   clear H a S;intro _ a S H
   refine k5 _ _ ?_;clear k5 K5
   replace H:=H.keep [0] rfl
   refine sS H fun K6 k6=>sr 2 rfl<|sf cU rfl<|sl S 0 aD G G G<|sr 1 rfl<|sE ?_;clear H a;intro a H
   refine k6 _ ?_;clear k6 K6
   refine wp_ret ?_
   refine ret1 (fn:=Tryz.f90) rfl H rfl ?_
   exact ⟨rfl,(S.sel [0] G G)⟩
 ·skip
  refine ls 1 H<|sl S 0 aD G G G<|sE ?_;clear H a;intro a H
  refine wpList_nil (And.intro (Or.inr (S.sel [0] G G)) ?_)
  refine eA G G ?_ ?_
  ·skip
   refine ls 1 H<|sd ((aC iU kO rfl S (i:=0) G G))<|sE ?_;clear H a;intro a H
   refine wpList_nil (And.intro (Or.inr (S.sel [0] G G)) ?_)
   refine aM rfl ?_
   have S1:=(S.sel [0] G G)
   refine aA H G G Tryz.func117 G G (mN up empty pull drag motor br BA bcp sp slo shi sfail mb v t _ _ S1.startR (hb.nowR S1) hesc hstp) ?_;clear H a
   rintro _ _ a ⟨rfl,S2⟩ H
   replace S:=(S.sel [0] G G).callR (M:=[_]) S2;clear S1 S2
   refine wpList_nil (And.intro (Or.inr (S.sel [0] G G)) ?_)
   refine aM rfl ?_
   refine aA H G G Tryz.func116 G G (kW up empty pull drag motor br BA bcp v x _ _ hesc (by omega) (by omega) (by omega)) ?_;clear H a
   rintro _ _ a ⟨rfl,S2⟩ H
   replace S:=S.call S2;clear S2
   refine wpList_nil (And.intro (Or.inr (S.sel [0] G G)) ?_)
   refine aV H G G (fun _=>bK rfl) ?_;clear H a;intro a H
   refine aV H G G (fun _=>(aB cU rfl)) ?_;clear H a;intro a H
   refine aM rfl ?_
   refine aF H S (i:=0) G G G G bA G G ?_
   clear H a S;intro _ a S H
   refine wpList_nil (And.intro (Or.inl rfl) ?_)
   refine bE ?_
   refine k2 _ _ ?_
   clear k2 K2
   replace H:=H.keep [0] rfl
   refine seq_list fun K7 k7=>?_
   refine ls 7 H<|sr 2 rfl<|sf eC rfl<|sl S 0 aD G G G<|sd (aK G G (by unfold i64ok;omega))<|sr 1 rfl<|sf eC rfl<|sE ?_;clear H a;intro a H
   refine aF H S (i:=0) G G G G bA G G ?_
   clear H a S;intro _ a S H
   refine k7 _ _ ?_;clear k7 K7
   replace H:=H.keep [0] rfl
   refine sS H fun K8 k8=>sr 2 rfl<|sf cU rfl<|sl S 0 aD G G G<|sr 1 rfl<|sE ?_;clear H a;intro a H
   refine k8 _ ?_;clear k8 K8
   refine wp_ret ?_
   refine ret1 (fn:=Tryz.f90) rfl H rfl ?_
   exact ⟨rfl,(S.sel [0] G G)⟩
  ·skip
   have S1:=(S.sel [0] G G)
   refine aA H G G Tryz.func117 G G (mN up empty pull drag motor br BA bcp sp slo shi sfail mb v t _ _ S1.startR (hb.nowR S1) hesc hstp) ?_;clear H a
   rintro _ _ a ⟨rfl,S2⟩ H
   replace S:=(S.sel [0] G G).callR (M:=[_]) S2;clear S1 S2
   refine wpList_nil (And.intro (Or.inr (S.sel [0] G G)) ?_)
   refine aM rfl ?_
   refine ls 1 H<|sd ((aC iU kO rfl S (i:=0) G G))<|sE ?_;clear H a;intro a H
   refine wpList_nil (And.intro (Or.inr (S.sel [0] G G)) ?_)
   refine aM rfl ?_
   refine aA H G G Tryz.func116 G G (kW up empty pull drag motor br BA bcp v x _ _ hesc (by omega) (by omega) (by omega)) ?_;clear H a
   rintro _ _ a ⟨rfl,S2⟩ H
   replace S:=S.call S2;clear S2
   refine wpList_nil (And.intro (Or.inr (S.sel [0] G G)) ?_)
   refine aV H G G (fun _=>bK rfl) ?_;clear H a;intro a H
   refine aV H G G (fun _=>(aB cU rfl)) ?_;clear H a;intro a H
   refine aM rfl ?_
   refine aF H S (i:=0) G G G G bA G G ?_
   clear H a S;intro _ a S H
   refine wpList_nil (And.intro (Or.inl rfl) ?_)
   refine bE ?_
   refine k2 _ _ ?_
   clear k2 K2
   replace H:=H.keep [0] rfl
   refine seq_list fun K9 k9=>?_
   refine ls 7 H<|sr 2 rfl<|sf eC rfl<|sl S 0 aD G G G<|sd (aK G G (by unfold i64ok;omega))<|sr 1 rfl<|sf eC rfl<|sE ?_;clear H a;intro a H
   refine aF H S (i:=0) G G G G bA G G ?_
   clear H a S;intro _ a S H
   refine k9 _ _ ?_;clear k9 K9
   replace H:=H.keep [0] rfl
   refine sS H fun K10 k10=>sr 2 rfl<|sf cU rfl<|sl S 0 aD G G G<|sr 1 rfl<|sE ?_;clear H a;intro a H
   refine k10 _ ?_;clear k10 K10
   refine wp_ret ?_
   refine ret1 (fn:=Tryz.f90) rfl H rfl ?_
   exact ⟨rfl,(S.sel [0] G G)⟩
 ·skip
  have S1:=(S.sel [0] G G)
  refine aA H G G Tryz.func117 G G (mN up empty pull drag motor br BA bcp sp slo shi sfail mb v t _ _ S1.startR (hb.nowR S1) hesc hstp) ?_;clear H a
  rintro _ _ a ⟨rfl,S2⟩ H
  replace S:=(S.sel [0] G G).callR (M:=[_]) S2;clear S1 S2
  refine wpList_nil (And.intro (Or.inr (S.sel [0] G G)) ?_)
  refine eA G G ?_ ?_
  ·skip
   refine ls 1 H<|sd ((aC iU kO rfl S (i:=0) G G))<|sE ?_;clear H a;intro a H
   refine wpList_nil (And.intro (Or.inr (S.sel [0] G G)) ?_)
   refine aM rfl ?_
   refine ls 1 H<|sl S 0 aD G G G<|sE ?_;clear H a;intro a H
   refine wpList_nil (And.intro (Or.inr (S.sel [0] G G)) ?_)
   refine aM rfl ?_
   refine aA H G G Tryz.func116 G G (kW up empty pull drag motor br BA bcp v x _ _ hesc (by omega) (by omega) (by omega)) ?_;clear H a
   rintro _ _ a ⟨rfl,S2⟩ H
   replace S:=S.call S2;clear S2
   refine wpList_nil (And.intro (Or.inr (S.sel [0] G G)) ?_)
   refine aV H G G (fun _=>bK rfl) ?_;clear H a;intro a H
   refine aV H G G (fun _=>(aB cU rfl)) ?_;clear H a;intro a H
   refine aM rfl ?_
   refine aF H S (i:=0) G G G G bA G G ?_
   clear H a S;intro _ a S H
   refine wpList_nil (And.intro (Or.inl rfl) ?_)
   refine bE ?_
   refine k2 _ _ ?_
   clear k2 K2
   replace H:=H.keep [0] rfl
   refine seq_list fun K11 k11=>?_
   refine ls 7 H<|sr 2 rfl<|sf eC rfl<|sl S 0 aD G G G<|sd (aK G G (by unfold i64ok;omega))<|sr 1 rfl<|sf eC rfl<|sE ?_;clear H a;intro a H
   refine aF H S (i:=0) G G G G bA G G ?_
   clear H a S;intro _ a S H
   refine k11 _ _ ?_;clear k11 K11
   replace H:=H.keep [0] rfl
   refine sS H fun K12 k12=>sr 2 rfl<|sf cU rfl<|sl S 0 aD G G G<|sr 1 rfl<|sE ?_;clear H a;intro a H
   refine k12 _ ?_;clear k12 K12
   refine wp_ret ?_
   refine ret1 (fn:=Tryz.f90) rfl H rfl ?_
   exact ⟨rfl,(S.sel [0] G G)⟩
  ·skip
   refine ls 1 H<|sl S 0 aD G G G<|sE ?_;clear H a;intro a H
   refine wpList_nil (And.intro (Or.inr (S.sel [0] G G)) ?_)
   refine aM rfl ?_
   refine ls 1 H<|sd ((aC iU kO rfl S (i:=0) G G))<|sE ?_;clear H a;intro a H
   refine wpList_nil (And.intro (Or.inr (S.sel [0] G G)) ?_)
   refine aM rfl ?_
   refine aA H G G Tryz.func116 G G (kW up empty pull drag motor br BA bcp v x _ _ hesc (by omega) (by omega) (by omega)) ?_;clear H a
   rintro _ _ a ⟨rfl,S2⟩ H
   replace S:=S.call S2;clear S2
   refine wpList_nil (And.intro (Or.inr (S.sel [0] G G)) ?_)
   refine aV H G G (fun _=>bK rfl) ?_;clear H a;intro a H
   refine aV H G G (fun _=>(aB cU rfl)) ?_;clear H a;intro a H
   refine aM rfl ?_
   refine aF H S (i:=0) G G G G bA G G ?_
   clear H a S;intro _ a S H
   refine wpList_nil (And.intro (Or.inl rfl) ?_)
   refine bE ?_
   refine k2 _ _ ?_
   clear k2 K2
   replace H:=H.keep [0] rfl
   refine seq_list fun K13 k13=>?_
   refine ls 7 H<|sr 2 rfl<|sf eC rfl<|sl S 0 aD G G G<|sd (aK G G (by unfold i64ok;omega))<|sr 1 rfl<|sf eC rfl<|sE ?_;clear H a;intro a H
   refine aF H S (i:=0) G G G G bA G G ?_
   clear H a S;intro _ a S H
   refine k13 _ _ ?_;clear k13 K13
   replace H:=H.keep [0] rfl
   refine sS H fun K14 k14=>sr 2 rfl<|sf cU rfl<|sl S 0 aD G G G<|sr 1 rfl<|sE ?_;clear H a;intro a H
   refine k14 _ ?_;clear k14 K14
   refine wp_ret ?_
   refine ret1 (fn:=Tryz.f90) rfl H rfl ?_
   exact ⟨rfl,(S.sel [0] G G)⟩
end
section
theorem rO (up:Bool) (empty pull drag motor:Int) (br:List Brake) (BA:Option Addr) (bcp:Nat) (sp slo shi sfail:Int) (mb:Nat) (v:Int) (t:Nat) (most:Bool) (w:World) (F:Nat→Prop) (S:St w F [boxM mb 135 [.bool up,.int .i64 empty,.int .i64 pull,.int .i64 drag,.int .i64 motor,.slice BA br.length bcp,.int .i64 sp,.int .i64 slo,.int .i64 shi,.int .i64 sfail,.int .i64 (v),.int .i64 (t:Int)]] w) (hb:InS w F 2 BA br.length (bcell br)) (hesc:escOk (⟨up,empty,pull,drag,motor,br⟩:Esc)=true) (hstp:stpOk (⟨up,empty,pull,drag,motor,br⟩:Esc) (⟨sp,slo,shi,sfail⟩:Stp)=true) (ht:t≤1000) (hv : -900000000000≤v∧v≤900000000000) :
    Calls Tryz.prog 61 [.pointer (some ⟨mb,0,none⟩),.bool most].toArray w (Ret (fun u w'=>∃ n:Int,u = .int .i64 n∧St w F [boxM mb 135 [.bool up,.int .i64 empty,.int .i64 pull,.int .i64 drag,.int .i64 motor,.slice BA br.length bcp,.int .i64 sp,.int .i64 slo,.int .i64 shi,.int .i64 sfail,.int .i64 (extI (⟨up,empty,pull,drag,motor,br⟩:Esc) (⟨sp,slo,shi,sfail⟩:Stp) most v (t:Int)),.int .i64 ((t:Int)+1)]] w')):=by
 have hE:=dP hesc
 dsimp only at hE
 obtain ⟨hE1,hE2,hE3,hE4,hE5⟩:=hE
 have hS1:=hstp;unfold stpOk at hS1;simp only [decide_eq_true_eq] at hS1
 refine enter Tryz.func61 rfl Tryz.ntmps61 rfl (fun a H=>?_)
 skip
 refine sS H fun K1 k1=>sr 1 rfl<|sE ?_;clear H a;intro a H
 refine k1 _ ?_;clear k1 K1
 replace H:=H.keep [0,1] rfl
 replace S:=S.drew
 refine seq_wt 999999 (.q 0 (.q 1 (.q 2 (.q 3 (.q 4 (.q 5 (.b2 6 (.e 7 (.e 8 (.e 9 .nil))) 7 (.e 6 (.e 8 (.e 9 .nil)))))))))) (by kernel_rfl) (by kernel_rfl) (S.sel [0] G G) fun K2 k2=>?_
 refine aH H G G (fun _ S=>aL rfl) ?_;clear H a;intro a H
 refine aH H G G (fun _ S=>bK rfl) ?_;clear H a;intro a H
 refine aH H G G (fun _ S=>(aC mP gA rfl S (i:=0) G G)) ?_;clear H a;intro a H
 refine aH H G G (fun _ S=>aL rfl) ?_;clear H a;intro a H
 refine aH H G G (fun _ S=>bK rfl) ?_;clear H a;intro a H
 refine aH H G G (fun _ S=>(aC mP gA rfl S (i:=0) G G)) ?_;clear H a;intro a H
 refine eA G G ?_ ?_
 ·skip
  refine aI H rfl S qJ ?_;clear H a S;intro b5 _ a hb5 hbw5 S H
  refine wpList_nil (And.intro (Or.inr (S.sel [1] G G)) ?_)
  refine aM rfl ?_
  refine aI H rfl S qJ ?_;clear H a S;intro b6 _ a hb6 hbw6 S H
  refine wpList_nil (And.intro (Or.inr (S.sel [2] G G)) ?_)
  refine aM rfl ?_
  refine aF H S (i:=1) G G G G gA G G ?_
  clear H a S;intro _ a S H
  refine wpList_nil (And.intro (Or.inr (S.sel [2] G G)) ?_)
  refine aM rfl ?_
  refine aF H S (i:=0) G G G G gA G G ?_
  clear H a S;intro _ a S H
  refine wpList_nil (And.intro (Or.inr (S.sel [2] G G)) ?_)
  refine bE ?_
  refine k2 _ _ ?_
  clear k2 K2
  replace H:=H.keep [0,1,5,6] rfl
  replace S:=S.drew
  refine seq_wq [(0,true),(1,true),(2,true),(3,true),(4,true),(5,true),(7,true),(8,true),(9,true),(10,true),(11,true),(12,true),(6,false),(13,false),(14,true),(15,true)] (by kernel_rfl) (by kernel_rfl) (S.sel [2] G G) fun K3 k3=>?_
  refine qF H<|qr 2 rfl<|qd rfl (fun _ S=>(aB gT rfl))<|qd rfl (fun _ S=>(aB cD rfl))<|qd rfl (fun _ S=>(aB bH rfl))<|qd rfl (fun _ S=>aE aD rfl (boxM.rd S (i:=0) G G))<|qr 2 rfl<|qd rfl (fun _ S=>(aB gT rfl))<|qd rfl (fun _ S=>(aB cD rfl))<|qd rfl (fun _ S=>(aB bG rfl))<|qd rfl (fun _ S=>aE aD rfl (boxM.rd S (i:=0) G G))<|qK ?_;clear H a;intro a H
  refine aS rfl ?_
  have S1:=(S.sel [1] G G)
  refine aA H G G Tryz.func90 G G (pW up empty pull drag motor br BA bcp sp slo shi sfail b5 v t slo _ _ S1.startR (hb.nowR S1) hesc hstp (by omega) (by omega) (by omega)) ?_;clear H a
  rintro _ _ a ⟨rfl,S2⟩ H
  replace S:=(S.sel [1,0,2] G G).callR (M:=[_]) S2;clear S1 S2
  refine wpList_nil (And.intro (S.sel [2] G G) ?_)
  refine aS rfl ?_
  have S1:=(S.sel [1] G G)
  refine aA H G G Tryz.func90 G G (pW up empty pull drag motor br BA bcp sp slo shi sfail b6 v t shi _ _ S1.startR (hb.nowR S1) hesc hstp (by omega) (by omega) (by omega)) ?_;clear H a
  rintro _ _ a ⟨rfl,S2⟩ H
  replace S:=(S.sel [1,0,2] G G).callR (M:=[_]) S2;clear S1 S2
  refine wpList_nil (And.intro (S.sel [2] G G) ?_)
  refine qF H<|qr 2 rfl<|qK ?_;clear H a;intro a H
  refine bF ?_
  refine k3 _ _ ?_
  clear k3 K3
  refine wp_seq_k fun K4 k4=>?_
  replace H:=H.keep [0,1,5,6,7,8] rfl
  refine sS H fun K5 k5=>sr 2 rfl<|sg 3 1 30 33 true G G (fun hg2=>sy hg2<|sr 1 rfl<|sy hg2<|sr 1 rfl<|sy hg2<|sr 1 rfl<|sz 3 G G G)<|sa G G G<|sr 1 rfl<|sg 7 6 35 42 false G G (fun hg7=>sy hg7<|sr 1 rfl<|sy hg7<|sr 1 rfl<|sy hg7<|sr 1 rfl<|sg 3 9 38 41 true G G (fun hg10=>sy hg10<|sr 1 rfl<|sy hg10<|sr 1 rfl<|sy hg10<|sr 1 rfl<|sz 3 G G G)<|sy hg7<|sa G G G<|sz 5 G G G)<|so G G G<|sE ?_;clear H a;intro a H
  refine k5 _ ?_;clear k5 K5
  refine cond_ H rfl (fun hc1=>?_) (fun hc1=>?_)
  ·skip
   try simp only [o1,o2,o3,o4,o5,o6,o7,o8,o9,oa] at hc1
   have hcx:=hc1
   replace H:=H.keep [0,6] rfl
   refine seq_list fun K6 k6=>?_
   refine ls 3 H<|sr 1 rfl<|sd ((aC mP gA rfl S (i:=0) G G))<|sr 1 rfl<|sE ?_;clear H a;intro a H
   refine aF H S (i:=2) G G G G gA G G ?_
   clear H a S;intro _ a S H
   refine k6 _ _ ?_;clear k6 K6
   replace H:=H.keep [0] rfl
   refine sS H fun K7 k7=>sr 2 rfl<|sf gT rfl<|sf cD rfl<|sf bG rfl<|sl S 2 aD G G G<|sr 1 rfl<|sE ?_;clear H a;intro a H
   refine k7 _ ?_;clear k7 K7
   refine wp_ret ?_
   refine ret1 (fn:=Tryz.f61) rfl H rfl ?_
   first|(rw [zJ (by cases most <;> simp at hcx ⊢ <;> omega)];exact ⟨_,rfl,(S.sel [2] G G)⟩)|(rw [zK (by cases most <;> simp at hcx ⊢ <;> omega)];exact ⟨_,rfl,(S.sel [2] G G)⟩)
  try simp only [o1,o2,o3,o4,o5,o6,o7,o8,o9,oa] at hc1
  have hcx:=hc1
  refine wp_skip ?_
  refine k4 _ _ ?_
  replace H:=H.keep [0,5] rfl
  refine seq_list fun K8 k8=>?_
  refine ls 3 H<|sr 1 rfl<|sd ((aC mP gA rfl S (i:=1) G G))<|sr 1 rfl<|sE ?_;clear H a;intro a H
  refine aF H S (i:=2) G G G G gA G G ?_
  clear H a S;intro _ a S H
  refine k8 _ _ ?_;clear k8 K8
  replace H:=H.keep [0] rfl
  refine sS H fun K9 k9=>sr 2 rfl<|sf gT rfl<|sf cD rfl<|sf bH rfl<|sl S 2 aD G G G<|sr 1 rfl<|sE ?_;clear H a;intro a H
  refine k9 _ ?_;clear k9 K9
  refine wp_ret ?_
  refine ret1 (fn:=Tryz.f61) rfl H rfl ?_
  first|(rw [zJ (by cases most <;> simp at hcx ⊢ <;> omega)];exact ⟨_,rfl,(S.sel [2] G G)⟩)|(rw [zK (by cases most <;> simp at hcx ⊢ <;> omega)];exact ⟨_,rfl,(S.sel [2] G G)⟩)
 ·skip
  refine aI H rfl S qJ ?_;clear H a S;intro b6 _ a hb6 hbw6 S H
  refine wpList_nil (And.intro (Or.inr (S.sel [1] G G)) ?_)
  refine aM rfl ?_
  refine aI H rfl S qJ ?_;clear H a S;intro b5 _ a hb5 hbw5 S H
  refine wpList_nil (And.intro (Or.inr (S.sel [2] G G)) ?_)
  refine aM rfl ?_
  refine aF H S (i:=0) G G G G gA G G ?_
  clear H a S;intro _ a S H
  refine wpList_nil (And.intro (Or.inr (S.sel [2] G G)) ?_)
  refine aM rfl ?_
  refine aF H S (i:=1) G G G G gA G G ?_
  clear H a S;intro _ a S H
  refine wpList_nil (And.intro (Or.inr (S.sel [2] G G)) ?_)
  refine bE ?_
  refine k2 _ _ ?_
  clear k2 K2
  replace H:=H.keep [0,1,5,6] rfl
  replace S:=S.drew
  refine seq_wq [(0,true),(1,true),(2,true),(3,true),(4,true),(5,true),(7,true),(8,true),(9,true),(10,true),(11,true),(12,true),(6,false),(13,false),(14,true),(15,true)] (by kernel_rfl) (by kernel_rfl) (S.sel [2] G G) fun K10 k10=>?_
  refine qF H<|qr 2 rfl<|qd rfl (fun _ S=>(aB gT rfl))<|qd rfl (fun _ S=>(aB cD rfl))<|qd rfl (fun _ S=>(aB bH rfl))<|qd rfl (fun _ S=>aE aD rfl (boxM.rd S (i:=0) G G))<|qr 2 rfl<|qd rfl (fun _ S=>(aB gT rfl))<|qd rfl (fun _ S=>(aB cD rfl))<|qd rfl (fun _ S=>(aB bG rfl))<|qd rfl (fun _ S=>aE aD rfl (boxM.rd S (i:=0) G G))<|qK ?_;clear H a;intro a H
  refine aS rfl ?_
  have S1:=(S.sel [0] G G)
  refine aA H G G Tryz.func90 G G (pW up empty pull drag motor br BA bcp sp slo shi sfail b5 v t slo _ _ S1.startR (hb.nowR S1) hesc hstp (by omega) (by omega) (by omega)) ?_;clear H a
  rintro _ _ a ⟨rfl,S2⟩ H
  replace S:=(S.sel [0,1,2] G G).callR (M:=[_]) S2;clear S1 S2
  refine wpList_nil (And.intro (S.sel [2] G G) ?_)
  refine aS rfl ?_
  have S1:=(S.sel [1] G G)
  refine aA H G G Tryz.func90 G G (pW up empty pull drag motor br BA bcp sp slo shi sfail b6 v t shi _ _ S1.startR (hb.nowR S1) hesc hstp (by omega) (by omega) (by omega)) ?_;clear H a
  rintro _ _ a ⟨rfl,S2⟩ H
  replace S:=(S.sel [1,0,2] G G).callR (M:=[_]) S2;clear S1 S2
  refine wpList_nil (And.intro (S.sel [2] G G) ?_)
  refine qF H<|qr 2 rfl<|qK ?_;clear H a;intro a H
  refine bF ?_
  refine k10 _ _ ?_
  clear k10 K10
  refine wp_seq_k fun K11 k11=>?_
  replace H:=H.keep [0,1,5,6,7,8] rfl
  refine sS H fun K12 k12=>sr 2 rfl<|sg 3 1 30 33 true G G (fun hg2=>sy hg2<|sr 1 rfl<|sy hg2<|sr 1 rfl<|sy hg2<|sr 1 rfl<|sz 3 G G G)<|sa G G G<|sr 1 rfl<|sg 7 6 35 42 false G G (fun hg7=>sy hg7<|sr 1 rfl<|sy hg7<|sr 1 rfl<|sy hg7<|sr 1 rfl<|sg 3 9 38 41 true G G (fun hg10=>sy hg10<|sr 1 rfl<|sy hg10<|sr 1 rfl<|sy hg10<|sr 1 rfl<|sz 3 G G G)<|sy hg7<|sa G G G<|sz 5 G G G)<|so G G G<|sE ?_;clear H a;intro a H
  refine k12 _ ?_;clear k12 K12
  refine cond_ H rfl (fun hc2=>?_) (fun hc2=>?_)
  ·skip
   try simp only [o1,o2,o3,o4,o5,o6,o7,o8,o9,oa] at hc2
   have hcx:=hc2
   replace H:=H.keep [0,6] rfl
   refine seq_list fun K13 k13=>?_
   refine ls 3 H<|sr 1 rfl<|sd ((aC mP gA rfl S (i:=0) G G))<|sr 1 rfl<|sE ?_;clear H a;intro a H
   refine aF H S (i:=2) G G G G gA G G ?_
   clear H a S;intro _ a S H
   refine k13 _ _ ?_;clear k13 K13
   replace H:=H.keep [0] rfl
   refine sS H fun K14 k14=>sr 2 rfl<|sf gT rfl<|sf cD rfl<|sf bG rfl<|sl S 2 aD G G G<|sr 1 rfl<|sE ?_;clear H a;intro a H
   refine k14 _ ?_;clear k14 K14
   refine wp_ret ?_
   refine ret1 (fn:=Tryz.f61) rfl H rfl ?_
   first|(rw [zJ (by cases most <;> simp at hcx ⊢ <;> omega)];exact ⟨_,rfl,(S.sel [2] G G)⟩)|(rw [zK (by cases most <;> simp at hcx ⊢ <;> omega)];exact ⟨_,rfl,(S.sel [2] G G)⟩)
  try simp only [o1,o2,o3,o4,o5,o6,o7,o8,o9,oa] at hc2
  have hcx:=hc2
  refine wp_skip ?_
  refine k11 _ _ ?_
  replace H:=H.keep [0,5] rfl
  refine seq_list fun K15 k15=>?_
  refine ls 3 H<|sr 1 rfl<|sd ((aC mP gA rfl S (i:=1) G G))<|sr 1 rfl<|sE ?_;clear H a;intro a H
  refine aF H S (i:=2) G G G G gA G G ?_
  clear H a S;intro _ a S H
  refine k15 _ _ ?_;clear k15 K15
  replace H:=H.keep [0] rfl
  refine sS H fun K16 k16=>sr 2 rfl<|sf gT rfl<|sf cD rfl<|sf bH rfl<|sl S 2 aD G G G<|sr 1 rfl<|sE ?_;clear H a;intro a H
  refine k16 _ ?_;clear k16 K16
  refine wp_ret ?_
  refine ret1 (fn:=Tryz.f61) rfl H rfl ?_
  first|(rw [zJ (by cases most <;> simp at hcx ⊢ <;> omega)];exact ⟨_,rfl,(S.sel [2] G G)⟩)|(rw [zK (by cases most <;> simp at hcx ⊢ <;> omega)];exact ⟨_,rfl,(S.sel [2] G G)⟩)
theorem zL {e:Esc} {s:Stp} {m:Bool} {g:Nat} {v t:Int} (hg:0<g) (hv:v≠0):goI e s m g v t=(extI e s m v t+(goI e s m (g-1) (extI e s m v t) (t+1)).1,(goI e s m (g-1) (extI e s m v t) (t+1)).2):=by
  obtain ⟨n,rfl⟩:∃ n,g=n+1:=⟨g-1,by omega⟩
  rw [goI,if_neg hv,Nat.add_sub_cancel]
theorem Um {e:Esc} {s:Stp} {m:Bool} {g:Nat} {v t:Int} (h:v=0∨g=0):goI e s m g v t=(0,decide (v=0)):=by
  cases g with
  | zero=>rfl
  | succ n=>
    rcases h with h|h
    · rw [goI,if_pos h,decide_eq_true h]
    · cases h
theorem Xj {e:Esc} {s:Stp} {m:Bool} {v t B:Int} (he:escOk e=true) (hs:stpOk e s=true) (hv : -B≤v∧v≤B) : -(B+50000000)≤extI e s m v t∧extI e s m v t≤B+50000000:=by
  have hS:=hs;unfold stpOk at hS;simp only [decide_eq_true_eq] at hS
  have hq:e.br.all gZ=true:=by unfold escOk at he;simp only [Bool.and_eq_true] at he;exact he.2
  have hgb:=zI (fail:=s.fail) (t:=t) hq e.br.length (Nat.le_refl _)
  have hE:=(dP he).1
  have hgr:0≤gripI e s t∧gripI e s t≤30000000:=by unfold gripI;omega
  rcases Xi (e:=e) (s:=s) (m:=m) (v:=v) (t:=t) with h|h
  · rw [h];exact Gt he (by omega) hgr hv
  · rw [h];exact Gt he (by omega) hgr hv
theorem eH (up:Bool) (empty pull drag motor:Int) (br:List Brake) (BA:Option Addr) (bcp:Nat) (sp slo shi sfail:Int) (most:Bool) (w:World) (hb:InS w noF 2 BA br.length (bcell br)) (hbn:br.length≤9223372036854775807) (hesc:escOk (⟨up,empty,pull,drag,motor,br⟩:Esc)=true) (hstp:stpOk (⟨up,empty,pull,drag,motor,br⟩:Esc) (⟨sp,slo,shi,sfail⟩:Stp)=true) :
    Calls Tryz.prog 33 [.agg [.bool up,.int .i64 empty,.int .i64 pull,.int .i64 drag,.int .i64 motor,.slice BA br.length bcp].toArray,.agg [.int .i64 sp,.int .i64 slo,.int .i64 shi,.int .i64 sfail].toArray,.bool most].toArray w (Ret (fun u w'=>∃ A' n c' f,u = .agg [.int .i64 (goI (⟨up,empty,pull,drag,motor,br⟩:Esc) (⟨sp,slo,shi,sfail⟩:Stp) most 100 sp 0).1,.slice A' n c',.bool (goI (⟨up,empty,pull,drag,motor,br⟩:Esc) (⟨sp,slo,shi,sfail⟩:Stp) most 100 sp 0).2].toArray∧St w noF [ownM 3 1 A' n c' f] w')):=by
 have hE:=dP hesc
 dsimp only at hE
 obtain ⟨hE1,hE2,hE3,hE4,hE5⟩:=hE
 have hS1:=hstp;unfold stpOk at hS1;simp only [decide_eq_true_eq] at hS1
 have hmx:maxLen=9223372036854775807:=rfl
 refine enter Tryz.func33 rfl Tryz.ntmps33 rfl (fun a H=>?_)
 have S:=St.start w
 refine seq_list fun K1 k1=>?_
 refine aO H rfl S G G ?_;clear H a S;intro b3 _ a hb3 hbw3 S H
 refine aO H rfl S G G ?_;clear H a S;intro b4 _ a hb4 hbw4 S H
 refine aI H rfl S fT ?_;clear H a S;intro b6 _ a hb6 hbw6 S H
 refine k1 _ _ ?_;clear k1 K1
 replace H:=H.keep [2,3,4,6] rfl
 refine seq_list fun K2 k2=>?_
 refine ls 5 H<|sd ((aC iU kO rfl S (i:=2) G G))<|sd ((aC tE vX rfl S (i:=1) G G))<|sf jD rfl<|sl S 1 aD G G G<|sd (aN Vx G G)<|sE ?_;clear H a;intro a H
 refine aI H rfl S qJ ?_;clear H a S;intro b7 _ a hb7 hbw7 S H
 refine aF H S (i:=0) G G G G gA G G ?_
 clear H a S;intro _ a S H
 refine k2 _ _ ?_;clear k2 K2
 replace H:=H.keep [2,4,6,7] rfl
 refine seq_list fun K3 k3=>?_
 refine ls 4 H<|sf jD rfl<|sl S 2 aD G G G<|sr 1 rfl<|sd (aN Yu G G)<|sE ?_;clear H a;intro a H
 refine aI H rfl S fT ?_;clear H a S;intro b8 _ a hb8 hbw8 S H
 refine aF H S (i:=0) G G G G eF G G ?_
 clear H a S;intro _ a S H
 refine k3 _ _ ?_;clear k3 K3
 refine wp_seq_k fun K4 k4=>?_
 refine wp_block ?_
 replace S:=S.newNil 3 1 (fun _ _=>undef)
 refine loop_st (X:=Int×Nat×Int×Option Addr×Nat×(Nat→Nat→Value)) (R0:=_) [2,6,7,8] H rfl (fun ⟨v,t,way,A',c',f'⟩=>[]) (fun ⟨v,t,way,A',c',f'⟩=>[boxM b7 135 [.bool up,.int .i64 empty,.int .i64 pull,.int .i64 drag,.int .i64 motor,.slice BA br.length bcp,.int .i64 sp,.int .i64 slo,.int .i64 shi,.int .i64 sfail,.int .i64 (v),.int .i64 (t:Int)],boxM b8 91 [.int .i64 way,.slice A' t c',.bool (decide (v=0))],ownM 3 1 A' t c' f']) (fun g ⟨v,t,way,A',c',f'⟩=>t≤100∧g+t=100∧(-(1000+50000000*(t:Int))≤v∧v≤1000+50000000*(t:Int))∧(-(6000000000*(t:Int))≤way∧way≤6000000000*(t:Int))∧way+(goI (⟨up,empty,pull,drag,motor,br⟩:Esc) (⟨sp,slo,shi,sfail⟩:Stp) most g v t).1=(goI (⟨up,empty,pull,drag,motor,br⟩:Esc) (⟨sp,slo,shi,sfail⟩:Stp) most 100 sp 0).1∧(goI (⟨up,empty,pull,drag,motor,br⟩:Esc) (⟨sp,slo,shi,sfail⟩:Stp) most g v t).2=(goI (⟨up,empty,pull,drag,motor,br⟩:Esc) (⟨sp,slo,shi,sfail⟩:Stp) most 100 sp 0).2) (100) (sp,0,0,none,0,fun _ _=>undef) ?_ (S.sel [2,1,0,3,4,5] G G) (H.keep [2,6,7,8] rfl) ?_
 · exact ⟨by omega,by omega,by omega,by omega,Int.zero_add _,rfl⟩
 clear H S a
 intro g1 x1 a w1 hp S H K5 k5
 obtain ⟨v,t,way,A',c',f'⟩:=x1
 dsimp only at hp S H
 refine wp_seq_k fun K6 k6=>?_
 refine sS H fun K7 k7=>sf oU rfl<|sl S 1 iY G G G<|sr 2 rfl<|sg 3 3 21 24 true G G (fun hg4=>sy hg4<|sf eC rfl<|sy hg4<|sl S 0 aD G G G<|sy hg4<|sr 1 rfl<|sz 3 G G G)<|sa G G G<|sE ?_;clear H a;intro a H
 refine k7 _ ?_;clear k7 K7
 refine cond_ H rfl (fun hc1=>?_) (fun hc1=>?_)
 ·skip
  try simp only [o1,o2,o3,o4,o5,o6,o7,o8,o9,oa] at hc1
  refine wp_skip ?_
  refine k6 _ _ ?_
  refine wp_block ?_
  have hxb:=Xj (m:=most) (v:=v) (t:=(t:Int)) (B:=1000+50000000*t) hesc hstp (by omega)
  replace H:=H.keep [2,6,7,8] rfl
  replace S:=S.drew
  refine seq_wt 7 (.p 0 (.p 2 (.b2 1 (.e 3 (.e 4 (.e 5 (.p 6 (.e 7 .nil))))) 3 (.b2 1 (.e 4 (.e 5 (.p 6 (.e 7 .nil)))) 4 (.e 1 (.e 5 (.p 6 (.e 7 .nil)))))))) (by kernel_rfl) (by kernel_rfl) (S.sel [3,4,5] G G) fun K8 k8=>?_
  refine aV H G G (fun _=>(aB mU rfl)) ?_;clear H a;intro a H
  refine aV H G G (fun _=>aL rfl) ?_;clear H a;intro a H
  refine eA G G ?_ ?_
  ·skip
   refine ls 1 H<|sl S 1 bM G G G<|sE ?_;clear H a;intro a H
   refine wpList_nil (And.intro (Or.inr (S.sel [3,4,5] G G)) ?_)
   refine aM rfl ?_
   have S1:=(S.sel [0] G G)
   refine aA H G G Tryz.func61 G G (rO up empty pull drag motor br BA bcp sp slo shi sfail b7 v t most _ _ S1.startR (hb.nowR S1) hesc hstp (by omega) (by omega)) ?_;clear H a
   rintro _ _ a ⟨nl,rfl,S2⟩ H
   replace S:=(S.sel [0,1,2,3,4,5] G G).callR (M:=[_]) S2;clear S1 S2
   refine wpList_nil (And.intro (Or.inr (S.sel [3,4,5] G G)) ?_)
   refine aM rfl ?_
   refine aZ H rfl S aT bA fO G G G G G G G G G ?_;clear H a S;intro A1 _ a hA1 S H
   refine wpList_nil (And.intro (Or.inr (S.sel [4,5,6] G G)) ?_)
   refine aM rfl ?_
   refine bW H rfl S aT bA fO oY G G (i:=3) G G G (ownM.inS S (i:=0) rfl) (jS (one rfl)) (by omega) (by omega) ?_;clear H a S;intro A2 c2 _ a S H
   refine wpList_nil (And.intro (Or.inr (S.sel [4,5,6] G G)) ?_)
   refine aV H G G (fun _=>(aB mU rfl)) ?_;clear H a;intro a H
   refine aM rfl ?_
   refine aF H S (i:=2) G G G G Le G G ?_
   clear H a S;intro _ a S H
   refine wpList_nil (And.intro (Or.inl rfl) ?_)
   refine bE ?_
   refine k8 _ _ ?_
   clear k8 K8
   replace H:=H.keep [2,6,7,8] rfl
   refine seq_list fun K9 k9=>?_
   refine ls 6 H<|sf kC rfl<|sl S 2 aD G G G<|sf cU rfl<|sl S 1 aD G G G<|sd (aK G G (by unfold i64ok;omega))<|sf kC rfl<|sE ?_;clear H a;intro a H
   refine aF H S (i:=2) G G G G bA G G ?_
   clear H a S;intro _ a S H
   refine k9 _ _ ?_;clear k9 K9
   replace H:=H.keep [2,6,7,8] rfl
   refine one_list ?_
   refine ls 4 H<|sf cU rfl<|sl S 1 aD G G G<|sr 1 rfl<|sf oU rfl<|sE ?_;clear H a;intro a H
   refine aF H S (i:=2) G G G G Ld G G ?_
   clear H a S;intro _ a S H
   have hgs:=zL (e:=(⟨up,empty,pull,drag,motor,br⟩:Esc)) (s:=(⟨sp,slo,shi,sfail⟩:Stp)) (m:=most) (g:=g1) (v:=v) (t:=(t:Int)) (by omega) (by omega)
   exact k5 (g1-1) (extI (⟨up,empty,pull,drag,motor,br⟩:Esc) (⟨sp,slo,shi,sfail⟩:Stp) most v (t:Int),t+1,way+extI (⟨up,empty,pull,drag,motor,br⟩:Esc) (⟨sp,slo,shi,sfail⟩:Stp) most v (t:Int),_,_,_) a _ (by omega) (⟨by omega,by omega,by omega,by omega,by have h9:=hp.2.2.2.2.1;rw [hgs] at h9;(try dsimp only at h9 ⊢);push_cast;omega,by have h9:=hp.2.2.2.2.2;rw [hgs] at h9;exact h9⟩) (S.sel [1,2,3,4,5,6] G G) (H.keep [2,6,7,8] rfl)
  ·skip
   have S1:=(S.sel [0] G G)
   refine aA H G G Tryz.func61 G G (rO up empty pull drag motor br BA bcp sp slo shi sfail b7 v t most _ _ S1.startR (hb.nowR S1) hesc hstp (by omega) (by omega)) ?_;clear H a
   rintro _ _ a ⟨nl,rfl,S2⟩ H
   replace S:=(S.sel [0,1,2,3,4,5] G G).callR (M:=[_]) S2;clear S1 S2
   refine wpList_nil (And.intro (Or.inr (S.sel [3,4,5] G G)) ?_)
   refine eA G G ?_ ?_
   ·skip
    refine ls 1 H<|sl S 1 bM G G G<|sE ?_;clear H a;intro a H
    refine wpList_nil (And.intro (Or.inr (S.sel [3,4,5] G G)) ?_)
    refine aM rfl ?_
    refine aZ H rfl S aT bA fO G G G G G G G G G ?_;clear H a S;intro A3 _ a hA3 S H
    refine wpList_nil (And.intro (Or.inr (S.sel [4,5,6] G G)) ?_)
    refine aM rfl ?_
    refine bW H rfl S aT bA fO oY G G (i:=3) G G G (ownM.inS S (i:=0) rfl) (jS (one rfl)) (by omega) (by omega) ?_;clear H a S;intro A4 c4 _ a S H
    refine wpList_nil (And.intro (Or.inr (S.sel [4,5,6] G G)) ?_)
    refine aV H G G (fun _=>(aB mU rfl)) ?_;clear H a;intro a H
    refine aM rfl ?_
    refine aF H S (i:=2) G G G G Le G G ?_
    clear H a S;intro _ a S H
    refine wpList_nil (And.intro (Or.inl rfl) ?_)
    refine bE ?_
    refine k8 _ _ ?_
    clear k8 K8
    replace H:=H.keep [2,6,7,8] rfl
    refine seq_list fun K11 k11=>?_
    refine ls 6 H<|sf kC rfl<|sl S 2 aD G G G<|sf cU rfl<|sl S 1 aD G G G<|sd (aK G G (by unfold i64ok;omega))<|sf kC rfl<|sE ?_;clear H a;intro a H
    refine aF H S (i:=2) G G G G bA G G ?_
    clear H a S;intro _ a S H
    refine k11 _ _ ?_;clear k11 K11
    replace H:=H.keep [2,6,7,8] rfl
    refine one_list ?_
    refine ls 4 H<|sf cU rfl<|sl S 1 aD G G G<|sr 1 rfl<|sf oU rfl<|sE ?_;clear H a;intro a H
    refine aF H S (i:=2) G G G G Ld G G ?_
    clear H a S;intro _ a S H
    have hgs:=zL (e:=(⟨up,empty,pull,drag,motor,br⟩:Esc)) (s:=(⟨sp,slo,shi,sfail⟩:Stp)) (m:=most) (g:=g1) (v:=v) (t:=(t:Int)) (by omega) (by omega)
    exact k5 (g1-1) (extI (⟨up,empty,pull,drag,motor,br⟩:Esc) (⟨sp,slo,shi,sfail⟩:Stp) most v (t:Int),t+1,way+extI (⟨up,empty,pull,drag,motor,br⟩:Esc) (⟨sp,slo,shi,sfail⟩:Stp) most v (t:Int),_,_,_) a _ (by omega) (⟨by omega,by omega,by omega,by omega,by have h9:=hp.2.2.2.2.1;rw [hgs] at h9;(try dsimp only at h9 ⊢);push_cast;omega,by have h9:=hp.2.2.2.2.2;rw [hgs] at h9;exact h9⟩) (S.sel [1,2,3,4,5,6] G G) (H.keep [2,6,7,8] rfl)
   ·skip
    refine aZ H rfl S aT bA fO G G G G G G G G G ?_;clear H a S;intro A5 _ a hA5 S H
    refine wpList_nil (And.intro (Or.inr (S.sel [4,5,6] G G)) ?_)
    refine aM rfl ?_
    refine ls 1 H<|sl S 2 bM G G G<|sE ?_;clear H a;intro a H
    refine wpList_nil (And.intro (Or.inr (S.sel [4,5,6] G G)) ?_)
    refine aM rfl ?_
    refine bW H rfl S aT bA fO oY G G (i:=3) G G G (ownM.inS S (i:=0) rfl) (jS (one rfl)) (by omega) (by omega) ?_;clear H a S;intro A6 c6 _ a S H
    refine wpList_nil (And.intro (Or.inr (S.sel [4,5,6] G G)) ?_)
    refine aV H G G (fun _=>(aB mU rfl)) ?_;clear H a;intro a H
    refine aM rfl ?_
    refine aF H S (i:=2) G G G G Le G G ?_
    clear H a S;intro _ a S H
    refine wpList_nil (And.intro (Or.inl rfl) ?_)
    refine bE ?_
    refine k8 _ _ ?_
    clear k8 K8
    replace H:=H.keep [2,6,7,8] rfl
    refine seq_list fun K13 k13=>?_
    refine ls 6 H<|sf kC rfl<|sl S 2 aD G G G<|sf cU rfl<|sl S 1 aD G G G<|sd (aK G G (by unfold i64ok;omega))<|sf kC rfl<|sE ?_;clear H a;intro a H
    refine aF H S (i:=2) G G G G bA G G ?_
    clear H a S;intro _ a S H
    refine k13 _ _ ?_;clear k13 K13
    replace H:=H.keep [2,6,7,8] rfl
    refine one_list ?_
    refine ls 4 H<|sf cU rfl<|sl S 1 aD G G G<|sr 1 rfl<|sf oU rfl<|sE ?_;clear H a;intro a H
    refine aF H S (i:=2) G G G G Ld G G ?_
    clear H a S;intro _ a S H
    have hgs:=zL (e:=(⟨up,empty,pull,drag,motor,br⟩:Esc)) (s:=(⟨sp,slo,shi,sfail⟩:Stp)) (m:=most) (g:=g1) (v:=v) (t:=(t:Int)) (by omega) (by omega)
    exact k5 (g1-1) (extI (⟨up,empty,pull,drag,motor,br⟩:Esc) (⟨sp,slo,shi,sfail⟩:Stp) most v (t:Int),t+1,way+extI (⟨up,empty,pull,drag,motor,br⟩:Esc) (⟨sp,slo,shi,sfail⟩:Stp) most v (t:Int),_,_,_) a _ (by omega) (⟨by omega,by omega,by omega,by omega,by have h9:=hp.2.2.2.2.1;rw [hgs] at h9;(try dsimp only at h9 ⊢);push_cast;omega,by have h9:=hp.2.2.2.2.2;rw [hgs] at h9;exact h9⟩) (S.sel [1,2,3,4,5,6] G G) (H.keep [2,6,7,8] rfl)
 try simp only [o1,o2,o3,o4,o5,o6,o7,o8,o9,oa] at hc1
 refine wp_exit ?_
 refine k4 _ _ ?_
 refine seq_list fun K15 k15=>?_
 refine ls 1 H<|sd ((aC Lf eF rfl S (i:=1) G G))<|sE ?_;clear H a;intro a H
 refine aF H S (i:=3) G G G G eF G G ?_
 clear H a S;intro _ a S H
 refine k15 _ _ ?_;clear k15 K15
 refine wp_ret ?_
 refine retA (fn:=Tryz.f33) rfl H rfl Lf (by exact eF) (dS S (i:=3) rfl) ?_
 have hgs:=Um (e:=(⟨up,empty,pull,drag,motor,br⟩:Esc)) (s:=(⟨sp,slo,shi,sfail⟩:Stp)) (m:=most) (g:=g1) (v:=v) (t:=(t:Int)) (by omega)
 rw [hgs] at hp
 have h8:=hp.2.2.2.2.1;have h9:=hp.2.2.2.2.2
 dsimp only at h8 h9
 rw [Int.add_zero] at h8
 rw [←h8,←h9]
 exact ⟨_,_,_,_,rfl,(S.sel [2] G G)⟩
end
section
theorem jT {e:Esc} {s:Stp} (h:¬ stopE e s=0):distI e s=(0,0,stopE e s):=by unfold distI;exact if_pos h
theorem iH {e:Esc} {s:Stp} (h:stopE e s=0) (h2:(goI e s true 100 s.speed 0).2=false):distI e s=(0,0,12):=by
  unfold distI
  rw [if_neg (by omega),if_neg (by rw [h2];simp)]
theorem lI {e:Esc} {s:Stp} (h:stopE e s=0) (h2:(goI e s true 100 s.speed 0).2=true):distI e s=((goI e s false 100 s.speed 0).1,(goI e s true 100 s.speed 0).1,0):=by
  unfold distI
  rw [if_neg (by omega),if_pos h2]
theorem cX (up:Bool) (empty pull drag motor:Int) (br:List Brake) (BA:Option Addr) (bcp:Nat) (sp slo shi sfail:Int) (w:World) (hb:InS w noF 2 BA br.length (bcell br)) (hbn:br.length≤9223372036854775807) :
    Calls Tryz.prog 16 [.agg [.bool up,.int .i64 empty,.int .i64 pull,.int .i64 drag,.int .i64 motor,.slice BA br.length bcp].toArray,.agg [.int .i64 sp,.int .i64 slo,.int .i64 shi,.int .i64 sfail].toArray].toArray w (Ret (fun u w'=>∃ tl th:Int,u = .tuple #[.agg [.int .i64 (distI (⟨up,empty,pull,drag,motor,br⟩:Esc) (⟨sp,slo,shi,sfail⟩:Stp)).1,.int .i64 (distI (⟨up,empty,pull,drag,motor,br⟩:Esc) (⟨sp,slo,shi,sfail⟩:Stp)).2.1].toArray,.agg [.int .i64 tl,.int .i64 th].toArray,.int .i64 (distI (⟨up,empty,pull,drag,motor,br⟩:Esc) (⟨sp,slo,shi,sfail⟩:Stp)).2.2]∧St w noF [] w')):=by
 refine enter Tryz.func16 rfl Tryz.ntmps16 rfl (fun a H=>?_)
 have S:=St.start w
 refine seq_list fun K1 k1=>?_
 refine aO H rfl S G G ?_;clear H a S;intro b2 _ a hb2 hbw2 S H
 refine aO H rfl S G G ?_;clear H a S;intro b3 _ a hb3 hbw3 S H
 refine aI H rfl S cC ?_;clear H a S;intro b4 _ a hb4 hbw4 S H
 refine aI H rfl S cC ?_;clear H a S;intro b5 _ a hb5 hbw5 S H
 refine ls 1 H<|sr 1 rfl<|sE ?_;clear H a;intro a H
 refine k1 _ _ ?_;clear k1 K1
 refine wp_seq_k fun K2 k2=>?_
 refine seq_list fun K3 k3=>?_
 refine ls 2 H<|sd ((aC iU kO rfl S (i:=3) G G))<|sd ((aC tE vX rfl S (i:=2) G G))<|sE ?_;clear H a;intro a H
 refine aA H G G Tryz.func32 G G (vQ up empty pull drag motor br BA bcp sp slo shi sfail _ (hb.now S) hbn) ?_;clear H a
 rintro _ _ a ⟨rfl,S2⟩ H
 replace S:=S.call S2;clear S2
 refine ls 1 H<|sr 1 rfl<|sE ?_;clear H a;intro a H
 refine k3 _ _ ?_;clear k3 K3
 replace H:=H.keep [2,3,4,5,6] rfl
 refine sS H fun K4 k4=>sr 2 rfl<|sE ?_;clear H a;intro a H
 refine k4 _ ?_;clear k4 K4
 refine condN H rfl (fun hc1=>?_) (fun hc1=>?_)
 ·skip
  have hce:=hc1
  replace S:=S.drew
  refine seq_wt 999999 (.p 2 (.b2 0 (.b2 1 (.e 3 (.e 4 (.p 5 .nil))) 3 (.e 1 (.e 4 (.p 5 .nil)))) 1 (.e 0 (.e 3 (.e 4 (.p 5 .nil)))))) (by kernel_rfl) (by kernel_rfl) (S.sel [2,3] G G) fun K5 k5=>?_
  refine aV H G G (fun _=>aL rfl) ?_;clear H a;intro a H
  refine eA G G ?_ ?_
  ·skip
   refine ls 1 H<|sd ((aC bD aQ rfl S (i:=1) G G))<|sE ?_;clear H a;intro a H
   refine wpList_nil (And.intro (Or.inr (S.sel [2,3] G G)) ?_)
   refine eA G G ?_ ?_
   ·skip
    refine ls 1 H<|sd ((aC bD aQ rfl S (i:=0) G G))<|sE ?_;clear H a;intro a H
    refine wpList_nil (And.intro (Or.inr (S.sel [2,3] G G)) ?_)
    refine aM rfl ?_
    refine aF H S (i:=1) G G G G aQ G G ?_
    clear H a S;intro _ a S H
    refine wpList_nil (And.intro (Or.inr (S.sel [2,3] G G)) ?_)
    refine aM rfl ?_
    refine aF H S (i:=0) G G G G aQ G G ?_
    clear H a S;intro _ a S H
    refine wpList_nil (And.intro (Or.inr (S.sel [2,3] G G)) ?_)
    refine aV H G G (fun _=>bJ rfl) ?_;clear H a;intro a H
    refine bE ?_
    refine k5 _ _ ?_
    clear k5 K5
    refine wp_ret ?_
    refine nM (fn:=Tryz.f16) rfl H G G bD (by exact aQ) (dS S (i:=1) rfl) bD (by exact aQ) (dS S (i:=0) rfl) rfl ?_
    first|(rw [jT hce];exact ⟨_,_,rfl,(S.sel [] G G)⟩)|(rw [iH hce (by simpa using hcf)];exact ⟨_,_,rfl,(S.sel [] G G)⟩)|(rw [lI hce (by simpa using hcf)];exact ⟨_,_,rfl,(S.sel [] G G)⟩)
   ·skip
    refine aF H S (i:=1) G G G G aQ G G ?_
    clear H a S;intro _ a S H
    refine wpList_nil (And.intro (Or.inr (S.sel [2,3] G G)) ?_)
    refine aM rfl ?_
    refine ls 1 H<|sd ((aC bD aQ rfl S (i:=0) G G))<|sE ?_;clear H a;intro a H
    refine wpList_nil (And.intro (Or.inr (S.sel [2,3] G G)) ?_)
    refine aM rfl ?_
    refine aF H S (i:=0) G G G G aQ G G ?_
    clear H a S;intro _ a S H
    refine wpList_nil (And.intro (Or.inr (S.sel [2,3] G G)) ?_)
    refine aV H G G (fun _=>bJ rfl) ?_;clear H a;intro a H
    refine bE ?_
    refine k5 _ _ ?_
    clear k5 K5
    refine wp_ret ?_
    refine nM (fn:=Tryz.f16) rfl H G G bD (by exact aQ) (dS S (i:=1) rfl) bD (by exact aQ) (dS S (i:=0) rfl) rfl ?_
    first|(rw [jT hce];exact ⟨_,_,rfl,(S.sel [] G G)⟩)|(rw [iH hce (by simpa using hcf)];exact ⟨_,_,rfl,(S.sel [] G G)⟩)|(rw [lI hce (by simpa using hcf)];exact ⟨_,_,rfl,(S.sel [] G G)⟩)
  ·skip
   refine ls 1 H<|sd ((aC bD aQ rfl S (i:=0) G G))<|sE ?_;clear H a;intro a H
   refine wpList_nil (And.intro (Or.inr (S.sel [2,3] G G)) ?_)
   refine aM rfl ?_
   refine ls 1 H<|sd ((aC bD aQ rfl S (i:=1) G G))<|sE ?_;clear H a;intro a H
   refine wpList_nil (And.intro (Or.inr (S.sel [2,3] G G)) ?_)
   refine aM rfl ?_
   refine aF H S (i:=1) G G G G aQ G G ?_
   clear H a S;intro _ a S H
   refine wpList_nil (And.intro (Or.inr (S.sel [2,3] G G)) ?_)
   refine aM rfl ?_
   refine aF H S (i:=0) G G G G aQ G G ?_
   clear H a S;intro _ a S H
   refine wpList_nil (And.intro (Or.inr (S.sel [2,3] G G)) ?_)
   refine aV H G G (fun _=>bJ rfl) ?_;clear H a;intro a H
   refine bE ?_
   refine k5 _ _ ?_
   clear k5 K5
   refine wp_ret ?_
   refine nM (fn:=Tryz.f16) rfl H G G bD (by exact aQ) (dS S (i:=1) rfl) bD (by exact aQ) (dS S (i:=0) rfl) rfl ?_
   first|(rw [jT hce];exact ⟨_,_,rfl,(S.sel [] G G)⟩)|(rw [iH hce (by simpa using hcf)];exact ⟨_,_,rfl,(S.sel [] G G)⟩)|(rw [lI hce (by simpa using hcf)];exact ⟨_,_,rfl,(S.sel [] G G)⟩)
 have hce:=hc1
 refine wp_skip ?_
 refine k2 _ _ ?_
 have SR:=(S.sel [0,1,2,3] G G)
 refine meet_sr (X:=(Nat×Nat)×(Option Addr×Nat×Nat)×(Option Addr×Nat×Nat)) [4,5] H rfl (fun ⟨⟨b7,b8⟩,⟨A7,n7,c7⟩,A8,n8,c8⟩=>[(7,.pointer (some ⟨b7,0,none⟩)),(8,.pointer (some ⟨b8,0,none⟩))]) (fun ⟨⟨b7,b8⟩,⟨A7,n7,c7⟩,A8,n8,c8⟩=>[boxM b7 91 [.int .i64 (goI (⟨up,empty,pull,drag,motor,br⟩:Esc) (⟨sp,slo,shi,sfail⟩:Stp) true 100 sp 0).1,.slice A7 n7 c7,.bool (goI (⟨up,empty,pull,drag,motor,br⟩:Esc) (⟨sp,slo,shi,sfail⟩:Stp) true 100 sp 0).2],boxM b8 91 [.int .i64 (goI (⟨up,empty,pull,drag,motor,br⟩:Esc) (⟨sp,slo,shi,sfail⟩:Stp) false 100 sp 0).1,.slice A8 n8 c8,.bool (goI (⟨up,empty,pull,drag,motor,br⟩:Esc) (⟨sp,slo,shi,sfail⟩:Stp) false 100 sp 0).2]]) (fun ⟨⟨b7,b8⟩,⟨A7,n7,c7⟩,A8,n8,c8⟩=>True) SR (fun K6 k6=>?_) ?_
 ·skip
  obtain ⟨hesc,hstp⟩:=Ul hce
  replace H:=H.keep [2,3,4,5] rfl
  replace S:=S.drew
  refine one_wt 999999 (.q 0 (.q 1 (.q 3 (.q 4 (.b3 2 (.b3 5 (.b2 6 (.e 7 (.e 8 (.e 9 .nil))) 7 (.e 6 (.e 8 (.e 9 .nil)))) 6 (.b2 5 (.e 7 (.e 8 (.e 9 .nil))) 7 (.e 5 (.e 8 (.e 9 .nil)))) 7 (.b2 5 (.e 6 (.e 8 (.e 9 .nil))) 6 (.e 5 (.e 8 (.e 9 .nil))))) 6 (.b2 2 (.b2 5 (.e 7 (.e 8 (.e 9 .nil))) 7 (.e 5 (.e 8 (.e 9 .nil)))) 7 (.e 2 (.e 5 (.e 8 (.e 9 .nil))))) 7 (.b2 2 (.b2 5 (.e 6 (.e 8 (.e 9 .nil))) 6 (.e 5 (.e 8 (.e 9 .nil)))) 6 (.e 2 (.e 5 (.e 8 (.e 9 .nil)))))))))) (by kernel_rfl) (by kernel_rfl) (S.sel [0,1,2,3] G G) ?_
  refine aH H G G (fun _ S=>(aC iU kO rfl S (i:=3) G G)) ?_;clear H a;intro a H
  refine aH H G G (fun _ S=>(aC tE vX rfl S (i:=2) G G)) ?_;clear H a;intro a H
  refine aH H G G (fun _ S=>(aC iU kO rfl S (i:=3) G G)) ?_;clear H a;intro a H
  refine aH H G G (fun _ S=>(aC tE vX rfl S (i:=2) G G)) ?_;clear H a;intro a H
  refine vT G G G ?_ ?_ ?_
  ·skip
   refine aA H G G Tryz.func33 G G (eH up empty pull drag motor br BA bcp sp slo shi sfail true _ (hb.now S) hbn hesc hstp) ?_;clear H a
   rintro _ _ a ⟨A7,n7,c7,f7,rfl,S2⟩ H
   replace S:=S.call S2;clear S2
   refine wpList_nil (And.intro (Or.inr (S.sel [1,2,3,4] G G)) ?_)
   refine vT G G G ?_ ?_ ?_
   ·skip
    refine aA H G G Tryz.func33 G G (eH up empty pull drag motor br BA bcp sp slo shi sfail false _ (hb.now S) hbn hesc hstp) ?_;clear H a
    rintro _ _ a ⟨A8,n8,c8,f8,rfl,S2⟩ H
    replace S:=S.call S2;clear S2
    refine wpList_nil (And.intro (Or.inr (S.sel [2,3,4,5] G G)) ?_)
    refine eA G G ?_ ?_
    ·skip
     refine aI H rfl S fT ?_;clear H a S;intro b7 _ a hb7 hbw7 S H
     refine wpList_nil (And.intro (Or.inr (S.sel [3,4,5,6] G G)) ?_)
     refine aM rfl ?_
     refine aI H rfl S fT ?_;clear H a S;intro b8 _ a hb8 hbw8 S H
     refine wpList_nil (And.intro (Or.inr (S.sel [4,5,6,7] G G)) ?_)
     refine aM rfl ?_
     refine aF H S (i:=1) G G G G eF G G ?_
     clear H a S;intro _ a S H
     refine wpList_nil (And.intro (Or.inr (S.sel [4,5,6,7] G G)) ?_)
     refine aM rfl ?_
     refine aF H S (i:=0) G G G G eF G G ?_
     clear H a S;intro _ a S H
     refine wpList_nil (And.intro (Or.inr (S.sel [4,5,6,7] G G)) ?_)
     refine bE ?_
     exact k6 ((b7,b8),(_,_,_),_,_,_) a _ (trivial) (S.sel [1,0,4,5,6,7] G G) (H.keep [7,8,4,5] rfl)
    ·skip
     refine aI H rfl S fT ?_;clear H a S;intro b8 _ a hb8 hbw8 S H
     refine wpList_nil (And.intro (Or.inr (S.sel [3,4,5,6] G G)) ?_)
     refine aM rfl ?_
     refine aI H rfl S fT ?_;clear H a S;intro b7 _ a hb7 hbw7 S H
     refine wpList_nil (And.intro (Or.inr (S.sel [4,5,6,7] G G)) ?_)
     refine aM rfl ?_
     refine aF H S (i:=0) G G G G eF G G ?_
     clear H a S;intro _ a S H
     refine wpList_nil (And.intro (Or.inr (S.sel [4,5,6,7] G G)) ?_)
     refine aM rfl ?_
     refine aF H S (i:=1) G G G G eF G G ?_
     clear H a S;intro _ a S H
     refine wpList_nil (And.intro (Or.inr (S.sel [4,5,6,7] G G)) ?_)
     refine bE ?_
     exact k6 ((b7,b8),(_,_,_),_,_,_) a _ (trivial) (S.sel [0,1,4,5,6,7] G G) (H.keep [7,8,4,5] rfl)
   ·skip
    refine aI H rfl S fT ?_;clear H a S;intro b7 _ a hb7 hbw7 S H
    refine wpList_nil (And.intro (Or.inr (S.sel [2,3,4,5] G G)) ?_)
    refine eA G G ?_ ?_
    ·skip
     refine aA H G G Tryz.func33 G G (eH up empty pull drag motor br BA bcp sp slo shi sfail false _ (hb.now S) hbn hesc hstp) ?_;clear H a
     rintro _ _ a ⟨A8,n8,c8,f8,rfl,S2⟩ H
     replace S:=S.call S2;clear S2
     refine wpList_nil (And.intro (Or.inr (S.sel [3,4,5,6] G G)) ?_)
     refine aM rfl ?_
     refine aI H rfl S fT ?_;clear H a S;intro b8 _ a hb8 hbw8 S H
     refine wpList_nil (And.intro (Or.inr (S.sel [4,5,6,7] G G)) ?_)
     refine aM rfl ?_
     refine aF H S (i:=2) G G G G eF G G ?_
     clear H a S;intro _ a S H
     refine wpList_nil (And.intro (Or.inr (S.sel [4,5,6,7] G G)) ?_)
     refine aM rfl ?_
     refine aF H S (i:=0) G G G G eF G G ?_
     clear H a S;intro _ a S H
     refine wpList_nil (And.intro (Or.inr (S.sel [4,5,6,7] G G)) ?_)
     refine bE ?_
     exact k6 ((b7,b8),(_,_,_),_,_,_) a _ (trivial) (S.sel [2,0,4,5,6,7] G G) (H.keep [7,8,4,5] rfl)
    ·skip
     refine aI H rfl S fT ?_;clear H a S;intro b8 _ a hb8 hbw8 S H
     refine wpList_nil (And.intro (Or.inr (S.sel [3,4,5,6] G G)) ?_)
     refine aM rfl ?_
     refine aA H G G Tryz.func33 G G (eH up empty pull drag motor br BA bcp sp slo shi sfail false _ (hb.now S) hbn hesc hstp) ?_;clear H a
     rintro _ _ a ⟨A8,n8,c8,f8,rfl,S2⟩ H
     replace S:=S.call S2;clear S2
     refine wpList_nil (And.intro (Or.inr (S.sel [4,5,6,7] G G)) ?_)
     refine aM rfl ?_
     refine aF H S (i:=2) G G G G eF G G ?_
     clear H a S;intro _ a S H
     refine wpList_nil (And.intro (Or.inr (S.sel [4,5,6,7] G G)) ?_)
     refine aM rfl ?_
     refine aF H S (i:=1) G G G G eF G G ?_
     clear H a S;intro _ a S H
     refine wpList_nil (And.intro (Or.inr (S.sel [4,5,6,7] G G)) ?_)
     refine bE ?_
     exact k6 ((b7,b8),(_,_,_),_,_,_) a _ (trivial) (S.sel [2,1,4,5,6,7] G G) (H.keep [7,8,4,5] rfl)
   ·skip
    refine aI H rfl S fT ?_;clear H a S;intro b8 _ a hb8 hbw8 S H
    refine wpList_nil (And.intro (Or.inr (S.sel [2,3,4,5] G G)) ?_)
    refine eA G G ?_ ?_
    ·skip
     refine aA H G G Tryz.func33 G G (eH up empty pull drag motor br BA bcp sp slo shi sfail false _ (hb.now S) hbn hesc hstp) ?_;clear H a
     rintro _ _ a ⟨A8,n8,c8,f8,rfl,S2⟩ H
     replace S:=S.call S2;clear S2
     refine wpList_nil (And.intro (Or.inr (S.sel [3,4,5,6] G G)) ?_)
     refine aM rfl ?_
     refine aI H rfl S fT ?_;clear H a S;intro b7 _ a hb7 hbw7 S H
     refine wpList_nil (And.intro (Or.inr (S.sel [4,5,6,7] G G)) ?_)
     refine aM rfl ?_
     refine aF H S (i:=0) G G G G eF G G ?_
     clear H a S;intro _ a S H
     refine wpList_nil (And.intro (Or.inr (S.sel [4,5,6,7] G G)) ?_)
     refine aM rfl ?_
     refine aF H S (i:=2) G G G G eF G G ?_
     clear H a S;intro _ a S H
     refine wpList_nil (And.intro (Or.inr (S.sel [4,5,6,7] G G)) ?_)
     refine bE ?_
     exact k6 ((b7,b8),(_,_,_),_,_,_) a _ (trivial) (S.sel [0,2,4,5,6,7] G G) (H.keep [7,8,4,5] rfl)
    ·skip
     refine aI H rfl S fT ?_;clear H a S;intro b7 _ a hb7 hbw7 S H
     refine wpList_nil (And.intro (Or.inr (S.sel [3,4,5,6] G G)) ?_)
     refine aM rfl ?_
     refine aA H G G Tryz.func33 G G (eH up empty pull drag motor br BA bcp sp slo shi sfail false _ (hb.now S) hbn hesc hstp) ?_;clear H a
     rintro _ _ a ⟨A8,n8,c8,f8,rfl,S2⟩ H
     replace S:=S.call S2;clear S2
     refine wpList_nil (And.intro (Or.inr (S.sel [4,5,6,7] G G)) ?_)
     refine aM rfl ?_
     refine aF H S (i:=1) G G G G eF G G ?_
     clear H a S;intro _ a S H
     refine wpList_nil (And.intro (Or.inr (S.sel [4,5,6,7] G G)) ?_)
     refine aM rfl ?_
     refine aF H S (i:=2) G G G G eF G G ?_
     clear H a S;intro _ a S H
     refine wpList_nil (And.intro (Or.inr (S.sel [4,5,6,7] G G)) ?_)
     refine bE ?_
     exact k6 ((b7,b8),(_,_,_),_,_,_) a _ (trivial) (S.sel [1,2,4,5,6,7] G G) (H.keep [7,8,4,5] rfl)
  ·skip
   refine aI H rfl S fT ?_;clear H a S;intro b7 _ a hb7 hbw7 S H
   refine wpList_nil (And.intro (Or.inr (S.sel [1,2,3,4] G G)) ?_)
   refine eA G G ?_ ?_
   ·skip
    refine aA H G G Tryz.func33 G G (eH up empty pull drag motor br BA bcp sp slo shi sfail true _ (hb.now S) hbn hesc hstp) ?_;clear H a
    rintro _ _ a ⟨A7,n7,c7,f7,rfl,S2⟩ H
    replace S:=S.call S2;clear S2
    refine wpList_nil (And.intro (Or.inr (S.sel [2,3,4,5] G G)) ?_)
    refine eA G G ?_ ?_
    ·skip
     refine aA H G G Tryz.func33 G G (eH up empty pull drag motor br BA bcp sp slo shi sfail false _ (hb.now S) hbn hesc hstp) ?_;clear H a
     rintro _ _ a ⟨A8,n8,c8,f8,rfl,S2⟩ H
     replace S:=S.call S2;clear S2
     refine wpList_nil (And.intro (Or.inr (S.sel [3,4,5,6] G G)) ?_)
     refine aM rfl ?_
     refine aI H rfl S fT ?_;clear H a S;intro b8 _ a hb8 hbw8 S H
     refine wpList_nil (And.intro (Or.inr (S.sel [4,5,6,7] G G)) ?_)
     refine aM rfl ?_
     refine aF H S (i:=3) G G G G eF G G ?_
     clear H a S;intro _ a S H
     refine wpList_nil (And.intro (Or.inr (S.sel [4,5,6,7] G G)) ?_)
     refine aM rfl ?_
     refine aF H S (i:=0) G G G G eF G G ?_
     clear H a S;intro _ a S H
     refine wpList_nil (And.intro (Or.inr (S.sel [4,5,6,7] G G)) ?_)
     refine bE ?_
     exact k6 ((b7,b8),(_,_,_),_,_,_) a _ (trivial) (S.sel [3,0,4,5,6,7] G G) (H.keep [7,8,4,5] rfl)
    ·skip
     refine aI H rfl S fT ?_;clear H a S;intro b8 _ a hb8 hbw8 S H
     refine wpList_nil (And.intro (Or.inr (S.sel [3,4,5,6] G G)) ?_)
     refine aM rfl ?_
     refine aA H G G Tryz.func33 G G (eH up empty pull drag motor br BA bcp sp slo shi sfail false _ (hb.now S) hbn hesc hstp) ?_;clear H a
     rintro _ _ a ⟨A8,n8,c8,f8,rfl,S2⟩ H
     replace S:=S.call S2;clear S2
     refine wpList_nil (And.intro (Or.inr (S.sel [4,5,6,7] G G)) ?_)
     refine aM rfl ?_
     refine aF H S (i:=3) G G G G eF G G ?_
     clear H a S;intro _ a S H
     refine wpList_nil (And.intro (Or.inr (S.sel [4,5,6,7] G G)) ?_)
     refine aM rfl ?_
     refine aF H S (i:=1) G G G G eF G G ?_
     clear H a S;intro _ a S H
     refine wpList_nil (And.intro (Or.inr (S.sel [4,5,6,7] G G)) ?_)
     refine bE ?_
     exact k6 ((b7,b8),(_,_,_),_,_,_) a _ (trivial) (S.sel [3,1,4,5,6,7] G G) (H.keep [7,8,4,5] rfl)
   ·skip
    refine aI H rfl S fT ?_;clear H a S;intro b8 _ a hb8 hbw8 S H
    refine wpList_nil (And.intro (Or.inr (S.sel [2,3,4,5] G G)) ?_)
    refine aM rfl ?_
    refine aA H G G Tryz.func33 G G (eH up empty pull drag motor br BA bcp sp slo shi sfail true _ (hb.now S) hbn hesc hstp) ?_;clear H a
    rintro _ _ a ⟨A7,n7,c7,f7,rfl,S2⟩ H
    replace S:=S.call S2;clear S2
    refine wpList_nil (And.intro (Or.inr (S.sel [3,4,5,6] G G)) ?_)
    refine aM rfl ?_
    refine aA H G G Tryz.func33 G G (eH up empty pull drag motor br BA bcp sp slo shi sfail false _ (hb.now S) hbn hesc hstp) ?_;clear H a
    rintro _ _ a ⟨A8,n8,c8,f8,rfl,S2⟩ H
    replace S:=S.call S2;clear S2
    refine wpList_nil (And.intro (Or.inr (S.sel [4,5,6,7] G G)) ?_)
    refine aM rfl ?_
    refine aF H S (i:=3) G G G G eF G G ?_
    clear H a S;intro _ a S H
    refine wpList_nil (And.intro (Or.inr (S.sel [4,5,6,7] G G)) ?_)
    refine aM rfl ?_
    refine aF H S (i:=2) G G G G eF G G ?_
    clear H a S;intro _ a S H
    refine wpList_nil (And.intro (Or.inr (S.sel [4,5,6,7] G G)) ?_)
    refine bE ?_
    exact k6 ((b7,b8),(_,_,_),_,_,_) a _ (trivial) (S.sel [3,2,4,5,6,7] G G) (H.keep [7,8,4,5] rfl)
  ·skip
   refine aI H rfl S fT ?_;clear H a S;intro b8 _ a hb8 hbw8 S H
   refine wpList_nil (And.intro (Or.inr (S.sel [1,2,3,4] G G)) ?_)
   refine eA G G ?_ ?_
   ·skip
    refine aA H G G Tryz.func33 G G (eH up empty pull drag motor br BA bcp sp slo shi sfail true _ (hb.now S) hbn hesc hstp) ?_;clear H a
    rintro _ _ a ⟨A7,n7,c7,f7,rfl,S2⟩ H
    replace S:=S.call S2;clear S2
    refine wpList_nil (And.intro (Or.inr (S.sel [2,3,4,5] G G)) ?_)
    refine eA G G ?_ ?_
    ·skip
     refine aA H G G Tryz.func33 G G (eH up empty pull drag motor br BA bcp sp slo shi sfail false _ (hb.now S) hbn hesc hstp) ?_;clear H a
     rintro _ _ a ⟨A8,n8,c8,f8,rfl,S2⟩ H
     replace S:=S.call S2;clear S2
     refine wpList_nil (And.intro (Or.inr (S.sel [3,4,5,6] G G)) ?_)
     refine aM rfl ?_
     refine aI H rfl S fT ?_;clear H a S;intro b7 _ a hb7 hbw7 S H
     refine wpList_nil (And.intro (Or.inr (S.sel [4,5,6,7] G G)) ?_)
     refine aM rfl ?_
     refine aF H S (i:=0) G G G G eF G G ?_
     clear H a S;intro _ a S H
     refine wpList_nil (And.intro (Or.inr (S.sel [4,5,6,7] G G)) ?_)
     refine aM rfl ?_
     refine aF H S (i:=3) G G G G eF G G ?_
     clear H a S;intro _ a S H
     refine wpList_nil (And.intro (Or.inr (S.sel [4,5,6,7] G G)) ?_)
     refine bE ?_
     exact k6 ((b7,b8),(_,_,_),_,_,_) a _ (trivial) (S.sel [0,3,4,5,6,7] G G) (H.keep [7,8,4,5] rfl)
    ·skip
     refine aI H rfl S fT ?_;clear H a S;intro b7 _ a hb7 hbw7 S H
     refine wpList_nil (And.intro (Or.inr (S.sel [3,4,5,6] G G)) ?_)
     refine aM rfl ?_
     refine aA H G G Tryz.func33 G G (eH up empty pull drag motor br BA bcp sp slo shi sfail false _ (hb.now S) hbn hesc hstp) ?_;clear H a
     rintro _ _ a ⟨A8,n8,c8,f8,rfl,S2⟩ H
     replace S:=S.call S2;clear S2
     refine wpList_nil (And.intro (Or.inr (S.sel [4,5,6,7] G G)) ?_)
     refine aM rfl ?_
     refine aF H S (i:=1) G G G G eF G G ?_
     clear H a S;intro _ a S H
     refine wpList_nil (And.intro (Or.inr (S.sel [4,5,6,7] G G)) ?_)
     refine aM rfl ?_
     refine aF H S (i:=3) G G G G eF G G ?_
     clear H a S;intro _ a S H
     refine wpList_nil (And.intro (Or.inr (S.sel [4,5,6,7] G G)) ?_)
     refine bE ?_
     exact k6 ((b7,b8),(_,_,_),_,_,_) a _ (trivial) (S.sel [1,3,4,5,6,7] G G) (H.keep [7,8,4,5] rfl)
   ·skip
    refine aI H rfl S fT ?_;clear H a S;intro b7 _ a hb7 hbw7 S H
    refine wpList_nil (And.intro (Or.inr (S.sel [2,3,4,5] G G)) ?_)
    refine aM rfl ?_
    refine aA H G G Tryz.func33 G G (eH up empty pull drag motor br BA bcp sp slo shi sfail true _ (hb.now S) hbn hesc hstp) ?_;clear H a
    rintro _ _ a ⟨A7,n7,c7,f7,rfl,S2⟩ H
    replace S:=S.call S2;clear S2
    refine wpList_nil (And.intro (Or.inr (S.sel [3,4,5,6] G G)) ?_)
    refine aM rfl ?_
    refine aA H G G Tryz.func33 G G (eH up empty pull drag motor br BA bcp sp slo shi sfail false _ (hb.now S) hbn hesc hstp) ?_;clear H a
    rintro _ _ a ⟨A8,n8,c8,f8,rfl,S2⟩ H
    replace S:=S.call S2;clear S2
    refine wpList_nil (And.intro (Or.inr (S.sel [4,5,6,7] G G)) ?_)
    refine aM rfl ?_
    refine aF H S (i:=2) G G G G eF G G ?_
    clear H a S;intro _ a S H
    refine wpList_nil (And.intro (Or.inr (S.sel [4,5,6,7] G G)) ?_)
    refine aM rfl ?_
    refine aF H S (i:=3) G G G G eF G G ?_
    clear H a S;intro _ a S H
    refine wpList_nil (And.intro (Or.inr (S.sel [4,5,6,7] G G)) ?_)
    refine bE ?_
    exact k6 ((b7,b8),(_,_,_),_,_,_) a _ (trivial) (S.sel [2,3,4,5,6,7] G G) (H.keep [7,8,4,5] rfl)
 clear SR H S a
 intro xm a wm hp S H
 obtain ⟨⟨b7,b8⟩,⟨A7,n7,c7⟩,A8,n8,c8⟩:=xm
 refine wp_seq_k fun K8 k8=>?_
 replace H:=H.keep [4,5,7,8] rfl
 refine sS H fun K9 k9=>sf oU rfl<|sl S 0 iY G G G<|sr 1 rfl<|sE ?_;clear H a;intro a H
 refine k9 _ ?_;clear k9 K9
 refine cond_ H rfl (fun hc2=>?_) (fun hc2=>?_)
 ·skip
  try simp only [o1,o2,o3,o4,o5,o6,o7,o8,o9,oa] at hc2
  have hcf:=hc2
  replace S:=S.drew
  refine seq_wt 999999 (.b2 0 (.b2 1 (.e 2 (.e 3 (.p 4 .nil))) 2 (.e 1 (.e 3 (.p 4 .nil)))) 1 (.e 0 (.e 2 (.e 3 (.p 4 .nil))))) (by kernel_rfl) (by kernel_rfl) (S.sel [0,1,4,5] G G) fun K10 k10=>?_
  refine eA G G ?_ ?_
  ·skip
   refine ls 1 H<|sd ((aC bD aQ rfl S (i:=3) G G))<|sE ?_;clear H a;intro a H
   refine wpList_nil (And.intro (Or.inr (S.sel [0,1,4,5] G G)) ?_)
   refine eA G G ?_ ?_
   ·skip
    refine ls 1 H<|sd ((aC bD aQ rfl S (i:=2) G G))<|sE ?_;clear H a;intro a H
    refine wpList_nil (And.intro (Or.inr (S.sel [0,1,4,5] G G)) ?_)
    refine aM rfl ?_
    refine aF H S (i:=3) G G G G aQ G G ?_
    clear H a S;intro _ a S H
    refine wpList_nil (And.intro (Or.inr (S.sel [0,1,4,5] G G)) ?_)
    refine aM rfl ?_
    refine aF H S (i:=2) G G G G aQ G G ?_
    clear H a S;intro _ a S H
    refine wpList_nil (And.intro (Or.inr (S.sel [0,1,4,5] G G)) ?_)
    refine aV H G G (fun _=>bJ rfl) ?_;clear H a;intro a H
    refine bE ?_
    refine k10 _ _ ?_
    clear k10 K10
    refine wp_ret ?_
    refine nM (fn:=Tryz.f16) rfl H G G bD (by exact aQ) (dS S (i:=3) rfl) bD (by exact aQ) (dS S (i:=2) rfl) rfl ?_
    first|(rw [jT hce];exact ⟨_,_,rfl,(S.sel [] G G)⟩)|(rw [iH hce (by simpa using hcf)];exact ⟨_,_,rfl,(S.sel [] G G)⟩)|(rw [lI hce (by simpa using hcf)];exact ⟨_,_,rfl,(S.sel [] G G)⟩)
   ·skip
    refine aF H S (i:=3) G G G G aQ G G ?_
    clear H a S;intro _ a S H
    refine wpList_nil (And.intro (Or.inr (S.sel [0,1,4,5] G G)) ?_)
    refine aM rfl ?_
    refine ls 1 H<|sd ((aC bD aQ rfl S (i:=2) G G))<|sE ?_;clear H a;intro a H
    refine wpList_nil (And.intro (Or.inr (S.sel [0,1,4,5] G G)) ?_)
    refine aM rfl ?_
    refine aF H S (i:=2) G G G G aQ G G ?_
    clear H a S;intro _ a S H
    refine wpList_nil (And.intro (Or.inr (S.sel [0,1,4,5] G G)) ?_)
    refine aV H G G (fun _=>bJ rfl) ?_;clear H a;intro a H
    refine bE ?_
    refine k10 _ _ ?_
    clear k10 K10
    refine wp_ret ?_
    refine nM (fn:=Tryz.f16) rfl H G G bD (by exact aQ) (dS S (i:=3) rfl) bD (by exact aQ) (dS S (i:=2) rfl) rfl ?_
    first|(rw [jT hce];exact ⟨_,_,rfl,(S.sel [] G G)⟩)|(rw [iH hce (by simpa using hcf)];exact ⟨_,_,rfl,(S.sel [] G G)⟩)|(rw [lI hce (by simpa using hcf)];exact ⟨_,_,rfl,(S.sel [] G G)⟩)
  ·skip
   refine ls 1 H<|sd ((aC bD aQ rfl S (i:=2) G G))<|sE ?_;clear H a;intro a H
   refine wpList_nil (And.intro (Or.inr (S.sel [0,1,4,5] G G)) ?_)
   refine aM rfl ?_
   refine ls 1 H<|sd ((aC bD aQ rfl S (i:=3) G G))<|sE ?_;clear H a;intro a H
   refine wpList_nil (And.intro (Or.inr (S.sel [0,1,4,5] G G)) ?_)
   refine aM rfl ?_
   refine aF H S (i:=3) G G G G aQ G G ?_
   clear H a S;intro _ a S H
   refine wpList_nil (And.intro (Or.inr (S.sel [0,1,4,5] G G)) ?_)
   refine aM rfl ?_
   refine aF H S (i:=2) G G G G aQ G G ?_
   clear H a S;intro _ a S H
   refine wpList_nil (And.intro (Or.inr (S.sel [0,1,4,5] G G)) ?_)
   refine aV H G G (fun _=>bJ rfl) ?_;clear H a;intro a H
   refine bE ?_
   refine k10 _ _ ?_
   clear k10 K10
   refine wp_ret ?_
   refine nM (fn:=Tryz.f16) rfl H G G bD (by exact aQ) (dS S (i:=3) rfl) bD (by exact aQ) (dS S (i:=2) rfl) rfl ?_
   first|(rw [jT hce];exact ⟨_,_,rfl,(S.sel [] G G)⟩)|(rw [iH hce (by simpa using hcf)];exact ⟨_,_,rfl,(S.sel [] G G)⟩)|(rw [lI hce (by simpa using hcf)];exact ⟨_,_,rfl,(S.sel [] G G)⟩)
 try simp only [o1,o2,o3,o4,o5,o6,o7,o8,o9,oa] at hc2
 have hcf:=hc2
 refine wp_skip ?_
 refine k8 _ _ ?_
 replace H:=H.keep [4,5,7,8] rfl
 replace S:=S.drew
 refine seq_wt 999999 (.q 0 (.q 1 (.q 2 (.q 3 (.q 4 (.q 5 (.q 6 (.q 7 (.q 8 (.q 9 (.q 10 (.q 11 (.e 12 (.e 13 (.q 14 .nil))))))))))))))) (by kernel_rfl) (by kernel_rfl) (S.sel [0,1,4,5] G G) fun K11 k11=>?_
 refine aH H G G (fun _ S=>(aB kC rfl)) ?_;clear H a;intro a H
 refine aH H G G (fun _ S=>aE aD rfl (boxM.rd S (i:=1) G G)) ?_;clear H a;intro a H
 refine aH H G G (fun _ S=>(aB kC rfl)) ?_;clear H a;intro a H
 refine aH H G G (fun _ S=>aE aD rfl (boxM.rd S (i:=0) G G)) ?_;clear H a;intro a H
 refine aH H G G (fun _ S=>aN dV G G) ?_;clear H a;intro a H
 refine aH H G G (fun _ S=>(aB mU rfl)) ?_;clear H a;intro a H
 refine aH H G G (fun _ S=>aE bM rfl (boxM.rd S (i:=1) G G)) ?_;clear H a;intro a H
 refine aH H G G (fun _ S=>cB aT rfl) ?_;clear H a;intro a H
 refine aH H G G (fun _ S=>(aB mU rfl)) ?_;clear H a;intro a H
 refine aH H G G (fun _ S=>aE bM rfl (boxM.rd S (i:=0) G G)) ?_;clear H a;intro a H
 refine aH H G G (fun _ S=>cB aT rfl) ?_;clear H a;intro a H
 refine aH H G G (fun _ S=>aN dV G G) ?_;clear H a;intro a H
 refine aM rfl ?_
 refine aF H S (i:=3) G G G G aQ G G ?_
 clear H a S;intro _ a S H
 refine wpList_nil (And.intro (Or.inr (S.sel [0,1,4,5] G G)) ?_)
 refine aM rfl ?_
 refine aF H S (i:=2) G G G G aQ G G ?_
 clear H a S;intro _ a S H
 refine wpList_nil (And.intro (Or.inr (S.sel [0,1,4,5] G G)) ?_)
 refine aH H G G (fun _ S=>bJ rfl) ?_;clear H a;intro a H
 refine bE ?_
 refine k11 _ _ ?_
 clear k11 K11
 refine wp_ret ?_
 refine nM (fn:=Tryz.f16) rfl H G G bD (by exact aQ) (dS S (i:=3) rfl) bD (by exact aQ) (dS S (i:=2) rfl) rfl ?_
 first|(rw [jT hce];exact ⟨_,_,rfl,(S.sel [] G G)⟩)|(rw [iH hce (by simpa using hcf)];exact ⟨_,_,rfl,(S.sel [] G G)⟩)|(rw [lI hce (by simpa using hcf)];exact ⟨_,_,rfl,(S.sel [] G G)⟩)
end
section
def exBr:List Brake:=[⟨12000,1⟩,⟨16000,3⟩]
theorem hH:distI ⟨true,1000,20,2000,20000,exBr⟩ ⟨60,0,500,0⟩=(108,135,0):=by kernel_rfl
theorem hX (w:World) :
    Calls Tryz.prog 17 [].toArray w (Ret (fun v w'=>∃ A,v = .agg [.bool true,.int .i64 1000,.int .i64 20,.int .i64 2000,.int .i64 20000,.slice A 2 2].toArray∧St w noF [ownM 94 2 A 2 2 (bcell exBr)] w')):=by
 refine enter Tryz.func17 rfl Tryz.ntmps17 rfl (fun a H=>?_)
 have S:=St.start w
 refine seq_list fun K1 k1=>?_
 refine aI H rfl S Vc ?_;clear H a S;intro b0 _ a hb0 hbw0 S H
 refine k1 _ _ ?_;clear k1 K1
 refine seq_list fun K2 k2=>?_
 refine ls 2 H<|sd (aN Ve G G)<|sd (aN Ve G G)<|sE ?_;clear H a;intro a H
 refine aZ H rfl S oP rC Fh G G G G G G G G G ?_;clear H a S;intro A1 _ a hA1 S H
 refine ls 1 H<|sd (aN Ys G G)<|sE ?_;clear H a;intro a H
 refine aF H S (i:=1) G G G G kO G G ?_
 clear H a S;intro _ a S H
 refine k2 _ _ ?_;clear k2 K2
 refine wp_ret ?_
 refine retA (fn:=Tryz.f17) rfl H rfl iU (by exact kO) (dS S (i:=1) rfl) ?_
 replace S:=S.recell (i:=0) rfl (cell':=bcell exBr) (Xh (two G G) (two G G))
 exact ⟨_,rfl,(S.sel [0] G G)⟩
theorem lJ (w:World) :
    Calls Tryz.prog 6 [].toArray w (Ret (fun v w'=>v = .bool true∧St w noF [] w')):=by
 refine enter Tryz.func6 rfl Tryz.ntmps6 rfl (fun a H=>?_)
 have S:=St.start w
 refine sS H fun K1 k1=>sr 1 rfl<|sE ?_;clear H a;intro a H
 refine k1 _ ?_;clear k1 K1
 refine seq_list fun K2 k2=>?_
 refine ls 2 H<|sd (aN dV G G)<|sd (aN Yq G G)<|sE ?_;clear H a;intro a H
 refine aI H rfl S Vb ?_;clear H a S;intro b1 _ a hb1 hbw1 S H
 refine aF H S (i:=0) G G G G vX G G ?_
 clear H a S;intro _ a S H
 refine k2 _ _ ?_;clear k2 K2
 replace H:=H.keep [1] rfl
 replace S:=S.drew
 refine seq_wt 999999 (.q 1 (.b3 0 (.b3 2 (.q 3 (.q 4 (.q 5 (.q 6 (.b2 7 (.e 8 (.e 9 (.e 10 (.q 11 .nil)))) 8 (.e 7 (.e 9 (.e 10 (.q 11 .nil))))))))) 7 (.b2 2 (.q 3 (.q 4 (.q 5 (.q 6 (.e 8 (.e 9 (.e 10 (.q 11 .nil)))))))) 8 (.e 2 (.q 3 (.q 4 (.q 5 (.q 6 (.e 9 (.e 10 (.q 11 .nil))))))))) 8 (.b2 2 (.q 3 (.q 4 (.q 5 (.q 6 (.e 7 (.e 9 (.e 10 (.q 11 .nil)))))))) 7 (.e 2 (.q 3 (.q 4 (.q 5 (.q 6 (.e 9 (.e 10 (.q 11 .nil)))))))))) 7 (.b2 0 (.b2 2 (.q 3 (.q 4 (.q 5 (.q 6 (.e 8 (.e 9 (.e 10 (.q 11 .nil)))))))) 8 (.e 2 (.q 3 (.q 4 (.q 5 (.q 6 (.e 9 (.e 10 (.q 11 .nil))))))))) 8 (.e 0 (.e 2 (.q 3 (.q 4 (.q 5 (.q 6 (.e 9 (.e 10 (.q 11 .nil)))))))))) 8 (.b2 0 (.b2 2 (.q 3 (.q 4 (.q 5 (.q 6 (.e 7 (.e 9 (.e 10 (.q 11 .nil)))))))) 7 (.e 2 (.q 3 (.q 4 (.q 5 (.q 6 (.e 9 (.e 10 (.q 11 .nil))))))))) 7 (.e 0 (.e 2 (.q 3 (.q 4 (.q 5 (.q 6 (.e 9 (.e 10 (.q 11 .nil)))))))))))) (by kernel_rfl) (by kernel_rfl) (S.sel [0] G G) fun K3 k3=>?_
 refine aH H G G (fun _ S=>(aC tE vX rfl S (i:=0) G G)) ?_;clear H a;intro a H
 refine vT G G G ?_ ?_ ?_
 ·skip
  refine aA H G G Tryz.func17 G G (hX _) ?_;clear H a
  rintro _ _ a ⟨A4,rfl,S2⟩ H
  replace S:=S.call S2;clear S2
  refine wpList_nil (And.intro (Or.inr (S.sel [1] G G)) ?_)
  refine vT G G G ?_ ?_ ?_
  ·skip
   refine aA H G G Tryz.func16 G G (cX true 1000 20 2000 20000 exBr A4 2 60 0 500 0 _ (ownM.inS S (i:=0) rfl) (by decide)) ?_;clear H a
   rintro _ _ a ⟨tl,th,rfl,S2⟩ H
   replace S:=S.call S2;clear S2
   rw [hH] at H
   refine wpList_nil (And.intro (Or.inr (S.sel [1] G G)) ?_)
   refine aH H G G (fun _ S=>aL rfl) ?_;clear H a;intro a H
   refine aH H G G (fun _ S=>aP G G) ?_;clear H a;intro a H
   refine aH H G G (fun _ S=>aP G G) ?_;clear H a;intro a H
   refine aH H G G (fun _ S=>aP G G) ?_;clear H a;intro a H
   refine eA G G ?_ ?_
   ·skip
    refine aI H rfl S cC ?_;clear H a S;intro b2 _ a hb2 hbw2 S H
    refine wpList_nil (And.intro (Or.inr (S.sel [2] G G)) ?_)
    refine aM rfl ?_
    refine aI H rfl S cC ?_;clear H a S;intro b3 _ a hb3 hbw3 S H
    refine wpList_nil (And.intro (Or.inr (S.sel [3] G G)) ?_)
    refine aM rfl ?_
    refine aF H S (i:=1) G G G G aQ G G ?_
    clear H a S;intro _ a S H
    refine wpList_nil (And.intro (Or.inr (S.sel [3] G G)) ?_)
    refine aM rfl ?_
    refine aF H S (i:=0) G G G G aQ G G ?_
    clear H a S;intro _ a S H
    refine wpList_nil (And.intro (Or.inr (S.sel [3] G G)) ?_)
    refine aH H G G (fun _ S=>bJ rfl) ?_;clear H a;intro a H
    refine bE ?_
    refine k3 _ _ ?_
    clear k3 K3
    replace H:=H.keep [2,4] rfl
    refine seq_list fun K4 k4=>?_
    refine aA H G G Tryz.func18 G G (cN _) ?_;clear H a
    rintro _ _ a ⟨SA,B0,B1,B2,B3,B4,QA,TA,rfl,S2⟩ H
    replace S:=S.call S2;clear S2
    refine ls 3 H<|sr 3 rfl<|sE ?_;clear H a;intro a H
    refine aI H rfl S jP ?_;clear H a S;intro b5 _ a hb5 hbw5 S H
    refine aF H S (i:=0) G G G G dR G G ?_
    clear H a S;intro _ a S H
    refine ls 1 H<|sr 1 rfl<|sE ?_;clear H a;intro a H
    refine k4 _ _ ?_;clear k4 K4
    replace H:=H.keep [2,4,5] rfl
    refine seq_list fun K5 k5=>?_
    refine ls 1 H<|sd ((aC eN dR rfl S (i:=0) G G))<|sE ?_;clear H a;intro a H
    refine aA H G G Tryz.func19 G G (dZ 2 exSw SA 4 exWs QA 5 (exOA B0 B1 B2 B3 B4) exOc _ (ownM.inS S (i:=1) rfl) (ownM.inS S (i:=7) rfl) (fun k hk=>by
      rcases k with _|_|_|_|_|k
      · exact ownM.inS S (i:=2) rfl
      · exact ownM.inS S (i:=3) rfl
      · exact ownM.inS S (i:=4) rfl
      · exact ownM.inS S (i:=5) rfl
      · exact ownM.inS S (i:=6) rfl
      · exact absurd hk (by simp [exWs])
    ) exCir) ?_;clear H a
    rintro _ _ a ⟨A6,c6,rfl,S2⟩ H
    replace S:=S.call S2;clear S2
    rw [fY] at H
    refine ls 5 H<|sr 5 rfl<|sE ?_;clear H a;intro a H
    refine k5 _ _ ?_;clear k5 K5
    replace H:=H.keep [2,4,7,8] rfl
    refine sS H fun K6 k6=>sr 3 rfl<|sg 2 2 29 31 true G G (fun hg3=>sy hg3<|sr 1 rfl<|sy hg3<|sr 1 rfl<|sz 2 G G G)<|sa G G G<|sr 1 rfl<|sg 3 6 33 36 true G G (fun hg7=>sy hg7<|sd ((aC bD aQ rfl S (i:=9) G G))<|sy hg7<|sd (aN dV G G)<|sy hg7<|sd (cF G G)<|sz 3 G G G)<|sa G G G<|sr 1 rfl<|sg 3 11 38 41 true G G (fun hg12=>sy hg12<|sr 1 rfl<|sy hg12<|sL jY rfl<|sy hg12<|sr 1 rfl<|sz 3 G G G)<|sa G G G<|sr 1 rfl<|sE ?_;clear H a;intro a H
    refine k6 _ ?_;clear k6 K6
    refine wp_ret ?_
    refine ret1 (fn:=Tryz.f6) rfl H rfl ?_
    exact ⟨rfl,(S.sel [] G G)⟩
   ·skip
    refine aI H rfl S cC ?_;clear H a S;intro b3 _ a hb3 hbw3 S H
    refine wpList_nil (And.intro (Or.inr (S.sel [2] G G)) ?_)
    refine aM rfl ?_
    refine aI H rfl S cC ?_;clear H a S;intro b2 _ a hb2 hbw2 S H
    refine wpList_nil (And.intro (Or.inr (S.sel [3] G G)) ?_)
    refine aM rfl ?_
    refine aF H S (i:=0) G G G G aQ G G ?_
    clear H a S;intro _ a S H
    refine wpList_nil (And.intro (Or.inr (S.sel [3] G G)) ?_)
    refine aM rfl ?_
    refine aF H S (i:=1) G G G G aQ G G ?_
    clear H a S;intro _ a S H
    refine wpList_nil (And.intro (Or.inr (S.sel [3] G G)) ?_)
    refine aH H G G (fun _ S=>bJ rfl) ?_;clear H a;intro a H
    refine bE ?_
    refine k3 _ _ ?_
    clear k3 K3
    replace H:=H.keep [2,4] rfl
    refine seq_list fun K7 k7=>?_
    refine aA H G G Tryz.func18 G G (cN _) ?_;clear H a
    rintro _ _ a ⟨SA,B0,B1,B2,B3,B4,QA,TA,rfl,S2⟩ H
    replace S:=S.call S2;clear S2
    refine ls 3 H<|sr 3 rfl<|sE ?_;clear H a;intro a H
    refine aI H rfl S jP ?_;clear H a S;intro b5 _ a hb5 hbw5 S H
    refine aF H S (i:=0) G G G G dR G G ?_
    clear H a S;intro _ a S H
    refine ls 1 H<|sr 1 rfl<|sE ?_;clear H a;intro a H
    refine k7 _ _ ?_;clear k7 K7
    replace H:=H.keep [2,4,5] rfl
    refine seq_list fun K8 k8=>?_
    refine ls 1 H<|sd ((aC eN dR rfl S (i:=0) G G))<|sE ?_;clear H a;intro a H
    refine aA H G G Tryz.func19 G G (dZ 2 exSw SA 4 exWs QA 5 (exOA B0 B1 B2 B3 B4) exOc _ (ownM.inS S (i:=1) rfl) (ownM.inS S (i:=7) rfl) (fun k hk=>by
      rcases k with _|_|_|_|_|k
      · exact ownM.inS S (i:=2) rfl
      · exact ownM.inS S (i:=3) rfl
      · exact ownM.inS S (i:=4) rfl
      · exact ownM.inS S (i:=5) rfl
      · exact ownM.inS S (i:=6) rfl
      · exact absurd hk (by simp [exWs])
    ) exCir) ?_;clear H a
    rintro _ _ a ⟨A6,c6,rfl,S2⟩ H
    replace S:=S.call S2;clear S2
    rw [fY] at H
    refine ls 5 H<|sr 5 rfl<|sE ?_;clear H a;intro a H
    refine k8 _ _ ?_;clear k8 K8
    replace H:=H.keep [2,4,7,8] rfl
    refine sS H fun K9 k9=>sr 3 rfl<|sg 2 2 29 31 true G G (fun hg3=>sy hg3<|sr 1 rfl<|sy hg3<|sr 1 rfl<|sz 2 G G G)<|sa G G G<|sr 1 rfl<|sg 3 6 33 36 true G G (fun hg7=>sy hg7<|sd ((aC bD aQ rfl S (i:=8) G G))<|sy hg7<|sd (aN dV G G)<|sy hg7<|sd (cF G G)<|sz 3 G G G)<|sa G G G<|sr 1 rfl<|sg 3 11 38 41 true G G (fun hg12=>sy hg12<|sr 1 rfl<|sy hg12<|sL jY rfl<|sy hg12<|sr 1 rfl<|sz 3 G G G)<|sa G G G<|sr 1 rfl<|sE ?_;clear H a;intro a H
    refine k9 _ ?_;clear k9 K9
    refine wp_ret ?_
    refine ret1 (fn:=Tryz.f6) rfl H rfl ?_
    exact ⟨rfl,(S.sel [] G G)⟩
  ·skip
   refine aI H rfl S cC ?_;clear H a S;intro b2 _ a hb2 hbw2 S H
   refine wpList_nil (And.intro (Or.inr (S.sel [2] G G)) ?_)
   refine eA G G ?_ ?_
   ·skip
    refine aA H G G Tryz.func16 G G (cX true 1000 20 2000 20000 exBr A4 2 60 0 500 0 _ (ownM.inS S (i:=1) rfl) (by decide)) ?_;clear H a
    rintro _ _ a ⟨tl,th,rfl,S2⟩ H
    replace S:=S.call S2;clear S2
    rw [hH] at H
    refine wpList_nil (And.intro (Or.inr (S.sel [2] G G)) ?_)
    refine aH H G G (fun _ S=>aL rfl) ?_;clear H a;intro a H
    refine aH H G G (fun _ S=>aP G G) ?_;clear H a;intro a H
    refine aH H G G (fun _ S=>aP G G) ?_;clear H a;intro a H
    refine aH H G G (fun _ S=>aP G G) ?_;clear H a;intro a H
    refine aM rfl ?_
    refine aI H rfl S cC ?_;clear H a S;intro b3 _ a hb3 hbw3 S H
    refine wpList_nil (And.intro (Or.inr (S.sel [3] G G)) ?_)
    refine aM rfl ?_
    refine aF H S (i:=1) G G G G aQ G G ?_
    clear H a S;intro _ a S H
    refine wpList_nil (And.intro (Or.inr (S.sel [3] G G)) ?_)
    refine aM rfl ?_
    refine aF H S (i:=0) G G G G aQ G G ?_
    clear H a S;intro _ a S H
    refine wpList_nil (And.intro (Or.inr (S.sel [3] G G)) ?_)
    refine aH H G G (fun _ S=>bJ rfl) ?_;clear H a;intro a H
    refine bE ?_
    refine k3 _ _ ?_
    clear k3 K3
    replace H:=H.keep [2,4] rfl
    refine seq_list fun K10 k10=>?_
    refine aA H G G Tryz.func18 G G (cN _) ?_;clear H a
    rintro _ _ a ⟨SA,B0,B1,B2,B3,B4,QA,TA,rfl,S2⟩ H
    replace S:=S.call S2;clear S2
    refine ls 3 H<|sr 3 rfl<|sE ?_;clear H a;intro a H
    refine aI H rfl S jP ?_;clear H a S;intro b5 _ a hb5 hbw5 S H
    refine aF H S (i:=0) G G G G dR G G ?_
    clear H a S;intro _ a S H
    refine ls 1 H<|sr 1 rfl<|sE ?_;clear H a;intro a H
    refine k10 _ _ ?_;clear k10 K10
    replace H:=H.keep [2,4,5] rfl
    refine seq_list fun K11 k11=>?_
    refine ls 1 H<|sd ((aC eN dR rfl S (i:=0) G G))<|sE ?_;clear H a;intro a H
    refine aA H G G Tryz.func19 G G (dZ 2 exSw SA 4 exWs QA 5 (exOA B0 B1 B2 B3 B4) exOc _ (ownM.inS S (i:=1) rfl) (ownM.inS S (i:=7) rfl) (fun k hk=>by
      rcases k with _|_|_|_|_|k
      · exact ownM.inS S (i:=2) rfl
      · exact ownM.inS S (i:=3) rfl
      · exact ownM.inS S (i:=4) rfl
      · exact ownM.inS S (i:=5) rfl
      · exact ownM.inS S (i:=6) rfl
      · exact absurd hk (by simp [exWs])
    ) exCir) ?_;clear H a
    rintro _ _ a ⟨A6,c6,rfl,S2⟩ H
    replace S:=S.call S2;clear S2
    rw [fY] at H
    refine ls 5 H<|sr 5 rfl<|sE ?_;clear H a;intro a H
    refine k11 _ _ ?_;clear k11 K11
    replace H:=H.keep [2,4,7,8] rfl
    refine sS H fun K12 k12=>sr 3 rfl<|sg 2 2 29 31 true G G (fun hg3=>sy hg3<|sr 1 rfl<|sy hg3<|sr 1 rfl<|sz 2 G G G)<|sa G G G<|sr 1 rfl<|sg 3 6 33 36 true G G (fun hg7=>sy hg7<|sd ((aC bD aQ rfl S (i:=9) G G))<|sy hg7<|sd (aN dV G G)<|sy hg7<|sd (cF G G)<|sz 3 G G G)<|sa G G G<|sr 1 rfl<|sg 3 11 38 41 true G G (fun hg12=>sy hg12<|sr 1 rfl<|sy hg12<|sL jY rfl<|sy hg12<|sr 1 rfl<|sz 3 G G G)<|sa G G G<|sr 1 rfl<|sE ?_;clear H a;intro a H
    refine k12 _ ?_;clear k12 K12
    refine wp_ret ?_
    refine ret1 (fn:=Tryz.f6) rfl H rfl ?_
    exact ⟨rfl,(S.sel [] G G)⟩
   ·skip
    refine aI H rfl S cC ?_;clear H a S;intro b3 _ a hb3 hbw3 S H
    refine wpList_nil (And.intro (Or.inr (S.sel [3] G G)) ?_)
    refine aM rfl ?_
    refine aA H G G Tryz.func16 G G (cX true 1000 20 2000 20000 exBr A4 2 60 0 500 0 _ (ownM.inS S (i:=2) rfl) (by decide)) ?_;clear H a
    rintro _ _ a ⟨tl,th,rfl,S2⟩ H
    replace S:=S.call S2;clear S2
    rw [hH] at H
    refine wpList_nil (And.intro (Or.inr (S.sel [3] G G)) ?_)
    refine aH H G G (fun _ S=>aL rfl) ?_;clear H a;intro a H
    refine aH H G G (fun _ S=>aP G G) ?_;clear H a;intro a H
    refine aH H G G (fun _ S=>aP G G) ?_;clear H a;intro a H
    refine aH H G G (fun _ S=>aP G G) ?_;clear H a;intro a H
    refine aM rfl ?_
    refine aF H S (i:=1) G G G G aQ G G ?_
    clear H a S;intro _ a S H
    refine wpList_nil (And.intro (Or.inr (S.sel [3] G G)) ?_)
    refine aM rfl ?_
    refine aF H S (i:=0) G G G G aQ G G ?_
    clear H a S;intro _ a S H
    refine wpList_nil (And.intro (Or.inr (S.sel [3] G G)) ?_)
    refine aH H G G (fun _ S=>bJ rfl) ?_;clear H a;intro a H
    refine bE ?_
    refine k3 _ _ ?_
    clear k3 K3
    replace H:=H.keep [2,4] rfl
    refine seq_list fun K13 k13=>?_
    refine aA H G G Tryz.func18 G G (cN _) ?_;clear H a
    rintro _ _ a ⟨SA,B0,B1,B2,B3,B4,QA,TA,rfl,S2⟩ H
    replace S:=S.call S2;clear S2
    refine ls 3 H<|sr 3 rfl<|sE ?_;clear H a;intro a H
    refine aI H rfl S jP ?_;clear H a S;intro b5 _ a hb5 hbw5 S H
    refine aF H S (i:=0) G G G G dR G G ?_
    clear H a S;intro _ a S H
    refine ls 1 H<|sr 1 rfl<|sE ?_;clear H a;intro a H
    refine k13 _ _ ?_;clear k13 K13
    replace H:=H.keep [2,4,5] rfl
    refine seq_list fun K14 k14=>?_
    refine ls 1 H<|sd ((aC eN dR rfl S (i:=0) G G))<|sE ?_;clear H a;intro a H
    refine aA H G G Tryz.func19 G G (dZ 2 exSw SA 4 exWs QA 5 (exOA B0 B1 B2 B3 B4) exOc _ (ownM.inS S (i:=1) rfl) (ownM.inS S (i:=7) rfl) (fun k hk=>by
      rcases k with _|_|_|_|_|k
      · exact ownM.inS S (i:=2) rfl
      · exact ownM.inS S (i:=3) rfl
      · exact ownM.inS S (i:=4) rfl
      · exact ownM.inS S (i:=5) rfl
      · exact ownM.inS S (i:=6) rfl
      · exact absurd hk (by simp [exWs])
    ) exCir) ?_;clear H a
    rintro _ _ a ⟨A6,c6,rfl,S2⟩ H
    replace S:=S.call S2;clear S2
    rw [fY] at H
    refine ls 5 H<|sr 5 rfl<|sE ?_;clear H a;intro a H
    refine k14 _ _ ?_;clear k14 K14
    replace H:=H.keep [2,4,7,8] rfl
    refine sS H fun K15 k15=>sr 3 rfl<|sg 2 2 29 31 true G G (fun hg3=>sy hg3<|sr 1 rfl<|sy hg3<|sr 1 rfl<|sz 2 G G G)<|sa G G G<|sr 1 rfl<|sg 3 6 33 36 true G G (fun hg7=>sy hg7<|sd ((aC bD aQ rfl S (i:=9) G G))<|sy hg7<|sd (aN dV G G)<|sy hg7<|sd (cF G G)<|sz 3 G G G)<|sa G G G<|sr 1 rfl<|sg 3 11 38 41 true G G (fun hg12=>sy hg12<|sr 1 rfl<|sy hg12<|sL jY rfl<|sy hg12<|sr 1 rfl<|sz 3 G G G)<|sa G G G<|sr 1 rfl<|sE ?_;clear H a;intro a H
    refine k15 _ ?_;clear k15 K15
    refine wp_ret ?_
    refine ret1 (fn:=Tryz.f6) rfl H rfl ?_
    exact ⟨rfl,(S.sel [] G G)⟩
  ·skip
   refine aI H rfl S cC ?_;clear H a S;intro b3 _ a hb3 hbw3 S H
   refine wpList_nil (And.intro (Or.inr (S.sel [2] G G)) ?_)
   refine eA G G ?_ ?_
   ·skip
    refine aA H G G Tryz.func16 G G (cX true 1000 20 2000 20000 exBr A4 2 60 0 500 0 _ (ownM.inS S (i:=1) rfl) (by decide)) ?_;clear H a
    rintro _ _ a ⟨tl,th,rfl,S2⟩ H
    replace S:=S.call S2;clear S2
    rw [hH] at H
    refine wpList_nil (And.intro (Or.inr (S.sel [2] G G)) ?_)
    refine aH H G G (fun _ S=>aL rfl) ?_;clear H a;intro a H
    refine aH H G G (fun _ S=>aP G G) ?_;clear H a;intro a H
    refine aH H G G (fun _ S=>aP G G) ?_;clear H a;intro a H
    refine aH H G G (fun _ S=>aP G G) ?_;clear H a;intro a H
    refine aM rfl ?_
    refine aI H rfl S cC ?_;clear H a S;intro b2 _ a hb2 hbw2 S H
    refine wpList_nil (And.intro (Or.inr (S.sel [3] G G)) ?_)
    refine aM rfl ?_
    refine aF H S (i:=0) G G G G aQ G G ?_
    clear H a S;intro _ a S H
    refine wpList_nil (And.intro (Or.inr (S.sel [3] G G)) ?_)
    refine aM rfl ?_
    refine aF H S (i:=1) G G G G aQ G G ?_
    clear H a S;intro _ a S H
    refine wpList_nil (And.intro (Or.inr (S.sel [3] G G)) ?_)
    refine aH H G G (fun _ S=>bJ rfl) ?_;clear H a;intro a H
    refine bE ?_
    refine k3 _ _ ?_
    clear k3 K3
    replace H:=H.keep [2,4] rfl
    refine seq_list fun K16 k16=>?_
    refine aA H G G Tryz.func18 G G (cN _) ?_;clear H a
    rintro _ _ a ⟨SA,B0,B1,B2,B3,B4,QA,TA,rfl,S2⟩ H
    replace S:=S.call S2;clear S2
    refine ls 3 H<|sr 3 rfl<|sE ?_;clear H a;intro a H
    refine aI H rfl S jP ?_;clear H a S;intro b5 _ a hb5 hbw5 S H
    refine aF H S (i:=0) G G G G dR G G ?_
    clear H a S;intro _ a S H
    refine ls 1 H<|sr 1 rfl<|sE ?_;clear H a;intro a H
    refine k16 _ _ ?_;clear k16 K16
    replace H:=H.keep [2,4,5] rfl
    refine seq_list fun K17 k17=>?_
    refine ls 1 H<|sd ((aC eN dR rfl S (i:=0) G G))<|sE ?_;clear H a;intro a H
    refine aA H G G Tryz.func19 G G (dZ 2 exSw SA 4 exWs QA 5 (exOA B0 B1 B2 B3 B4) exOc _ (ownM.inS S (i:=1) rfl) (ownM.inS S (i:=7) rfl) (fun k hk=>by
      rcases k with _|_|_|_|_|k
      · exact ownM.inS S (i:=2) rfl
      · exact ownM.inS S (i:=3) rfl
      · exact ownM.inS S (i:=4) rfl
      · exact ownM.inS S (i:=5) rfl
      · exact ownM.inS S (i:=6) rfl
      · exact absurd hk (by simp [exWs])
    ) exCir) ?_;clear H a
    rintro _ _ a ⟨A6,c6,rfl,S2⟩ H
    replace S:=S.call S2;clear S2
    rw [fY] at H
    refine ls 5 H<|sr 5 rfl<|sE ?_;clear H a;intro a H
    refine k17 _ _ ?_;clear k17 K17
    replace H:=H.keep [2,4,7,8] rfl
    refine sS H fun K18 k18=>sr 3 rfl<|sg 2 2 29 31 true G G (fun hg3=>sy hg3<|sr 1 rfl<|sy hg3<|sr 1 rfl<|sz 2 G G G)<|sa G G G<|sr 1 rfl<|sg 3 6 33 36 true G G (fun hg7=>sy hg7<|sd ((aC bD aQ rfl S (i:=8) G G))<|sy hg7<|sd (aN dV G G)<|sy hg7<|sd (cF G G)<|sz 3 G G G)<|sa G G G<|sr 1 rfl<|sg 3 11 38 41 true G G (fun hg12=>sy hg12<|sr 1 rfl<|sy hg12<|sL jY rfl<|sy hg12<|sr 1 rfl<|sz 3 G G G)<|sa G G G<|sr 1 rfl<|sE ?_;clear H a;intro a H
    refine k18 _ ?_;clear k18 K18
    refine wp_ret ?_
    refine ret1 (fn:=Tryz.f6) rfl H rfl ?_
    exact ⟨rfl,(S.sel [] G G)⟩
   ·skip
    refine aI H rfl S cC ?_;clear H a S;intro b2 _ a hb2 hbw2 S H
    refine wpList_nil (And.intro (Or.inr (S.sel [3] G G)) ?_)
    refine aM rfl ?_
    refine aA H G G Tryz.func16 G G (cX true 1000 20 2000 20000 exBr A4 2 60 0 500 0 _ (ownM.inS S (i:=2) rfl) (by decide)) ?_;clear H a
    rintro _ _ a ⟨tl,th,rfl,S2⟩ H
    replace S:=S.call S2;clear S2
    rw [hH] at H
    refine wpList_nil (And.intro (Or.inr (S.sel [3] G G)) ?_)
    refine aH H G G (fun _ S=>aL rfl) ?_;clear H a;intro a H
    refine aH H G G (fun _ S=>aP G G) ?_;clear H a;intro a H
    refine aH H G G (fun _ S=>aP G G) ?_;clear H a;intro a H
    refine aH H G G (fun _ S=>aP G G) ?_;clear H a;intro a H
    refine aM rfl ?_
    refine aF H S (i:=0) G G G G aQ G G ?_
    clear H a S;intro _ a S H
    refine wpList_nil (And.intro (Or.inr (S.sel [3] G G)) ?_)
    refine aM rfl ?_
    refine aF H S (i:=1) G G G G aQ G G ?_
    clear H a S;intro _ a S H
    refine wpList_nil (And.intro (Or.inr (S.sel [3] G G)) ?_)
    refine aH H G G (fun _ S=>bJ rfl) ?_;clear H a;intro a H
    refine bE ?_
    refine k3 _ _ ?_
    clear k3 K3
    replace H:=H.keep [2,4] rfl
    refine seq_list fun K19 k19=>?_
    refine aA H G G Tryz.func18 G G (cN _) ?_;clear H a
    rintro _ _ a ⟨SA,B0,B1,B2,B3,B4,QA,TA,rfl,S2⟩ H
    replace S:=S.call S2;clear S2
    refine ls 3 H<|sr 3 rfl<|sE ?_;clear H a;intro a H
    refine aI H rfl S jP ?_;clear H a S;intro b5 _ a hb5 hbw5 S H
    refine aF H S (i:=0) G G G G dR G G ?_
    clear H a S;intro _ a S H
    refine ls 1 H<|sr 1 rfl<|sE ?_;clear H a;intro a H
    refine k19 _ _ ?_;clear k19 K19
    replace H:=H.keep [2,4,5] rfl
    refine seq_list fun K20 k20=>?_
    refine ls 1 H<|sd ((aC eN dR rfl S (i:=0) G G))<|sE ?_;clear H a;intro a H
    refine aA H G G Tryz.func19 G G (dZ 2 exSw SA 4 exWs QA 5 (exOA B0 B1 B2 B3 B4) exOc _ (ownM.inS S (i:=1) rfl) (ownM.inS S (i:=7) rfl) (fun k hk=>by
      rcases k with _|_|_|_|_|k
      · exact ownM.inS S (i:=2) rfl
      · exact ownM.inS S (i:=3) rfl
      · exact ownM.inS S (i:=4) rfl
      · exact ownM.inS S (i:=5) rfl
      · exact ownM.inS S (i:=6) rfl
      · exact absurd hk (by simp [exWs])
    ) exCir) ?_;clear H a
    rintro _ _ a ⟨A6,c6,rfl,S2⟩ H
    replace S:=S.call S2;clear S2
    rw [fY] at H
    refine ls 5 H<|sr 5 rfl<|sE ?_;clear H a;intro a H
    refine k20 _ _ ?_;clear k20 K20
    replace H:=H.keep [2,4,7,8] rfl
    refine sS H fun K21 k21=>sr 3 rfl<|sg 2 2 29 31 true G G (fun hg3=>sy hg3<|sr 1 rfl<|sy hg3<|sr 1 rfl<|sz 2 G G G)<|sa G G G<|sr 1 rfl<|sg 3 6 33 36 true G G (fun hg7=>sy hg7<|sd ((aC bD aQ rfl S (i:=8) G G))<|sy hg7<|sd (aN dV G G)<|sy hg7<|sd (cF G G)<|sz 3 G G G)<|sa G G G<|sr 1 rfl<|sg 3 11 38 41 true G G (fun hg12=>sy hg12<|sr 1 rfl<|sy hg12<|sL jY rfl<|sy hg12<|sr 1 rfl<|sz 3 G G G)<|sa G G G<|sr 1 rfl<|sE ?_;clear H a;intro a H
    refine k21 _ ?_;clear k21 K21
    refine wp_ret ?_
    refine ret1 (fn:=Tryz.f6) rfl H rfl ?_
    exact ⟨rfl,(S.sel [] G G)⟩
 ·skip
  refine aI H rfl S cC ?_;clear H a S;intro b2 _ a hb2 hbw2 S H
  refine wpList_nil (And.intro (Or.inr (S.sel [1] G G)) ?_)
  refine eA G G ?_ ?_
  ·skip
   refine aA H G G Tryz.func17 G G (hX _) ?_;clear H a
   rintro _ _ a ⟨A4,rfl,S2⟩ H
   replace S:=S.call S2;clear S2
   refine wpList_nil (And.intro (Or.inr (S.sel [2] G G)) ?_)
   refine eA G G ?_ ?_
   ·skip
    refine aA H G G Tryz.func16 G G (cX true 1000 20 2000 20000 exBr A4 2 60 0 500 0 _ (ownM.inS S (i:=0) rfl) (by decide)) ?_;clear H a
    rintro _ _ a ⟨tl,th,rfl,S2⟩ H
    replace S:=S.call S2;clear S2
    rw [hH] at H
    refine wpList_nil (And.intro (Or.inr (S.sel [2] G G)) ?_)
    refine aH H G G (fun _ S=>aL rfl) ?_;clear H a;intro a H
    refine aH H G G (fun _ S=>aP G G) ?_;clear H a;intro a H
    refine aH H G G (fun _ S=>aP G G) ?_;clear H a;intro a H
    refine aH H G G (fun _ S=>aP G G) ?_;clear H a;intro a H
    refine aM rfl ?_
    refine aI H rfl S cC ?_;clear H a S;intro b3 _ a hb3 hbw3 S H
    refine wpList_nil (And.intro (Or.inr (S.sel [3] G G)) ?_)
    refine aM rfl ?_
    refine aF H S (i:=2) G G G G aQ G G ?_
    clear H a S;intro _ a S H
    refine wpList_nil (And.intro (Or.inr (S.sel [3] G G)) ?_)
    refine aM rfl ?_
    refine aF H S (i:=0) G G G G aQ G G ?_
    clear H a S;intro _ a S H
    refine wpList_nil (And.intro (Or.inr (S.sel [3] G G)) ?_)
    refine aH H G G (fun _ S=>bJ rfl) ?_;clear H a;intro a H
    refine bE ?_
    refine k3 _ _ ?_
    clear k3 K3
    replace H:=H.keep [2,4] rfl
    refine seq_list fun K22 k22=>?_
    refine aA H G G Tryz.func18 G G (cN _) ?_;clear H a
    rintro _ _ a ⟨SA,B0,B1,B2,B3,B4,QA,TA,rfl,S2⟩ H
    replace S:=S.call S2;clear S2
    refine ls 3 H<|sr 3 rfl<|sE ?_;clear H a;intro a H
    refine aI H rfl S jP ?_;clear H a S;intro b5 _ a hb5 hbw5 S H
    refine aF H S (i:=0) G G G G dR G G ?_
    clear H a S;intro _ a S H
    refine ls 1 H<|sr 1 rfl<|sE ?_;clear H a;intro a H
    refine k22 _ _ ?_;clear k22 K22
    replace H:=H.keep [2,4,5] rfl
    refine seq_list fun K23 k23=>?_
    refine ls 1 H<|sd ((aC eN dR rfl S (i:=0) G G))<|sE ?_;clear H a;intro a H
    refine aA H G G Tryz.func19 G G (dZ 2 exSw SA 4 exWs QA 5 (exOA B0 B1 B2 B3 B4) exOc _ (ownM.inS S (i:=1) rfl) (ownM.inS S (i:=7) rfl) (fun k hk=>by
      rcases k with _|_|_|_|_|k
      · exact ownM.inS S (i:=2) rfl
      · exact ownM.inS S (i:=3) rfl
      · exact ownM.inS S (i:=4) rfl
      · exact ownM.inS S (i:=5) rfl
      · exact ownM.inS S (i:=6) rfl
      · exact absurd hk (by simp [exWs])
    ) exCir) ?_;clear H a
    rintro _ _ a ⟨A6,c6,rfl,S2⟩ H
    replace S:=S.call S2;clear S2
    rw [fY] at H
    refine ls 5 H<|sr 5 rfl<|sE ?_;clear H a;intro a H
    refine k23 _ _ ?_;clear k23 K23
    replace H:=H.keep [2,4,7,8] rfl
    refine sS H fun K24 k24=>sr 3 rfl<|sg 2 2 29 31 true G G (fun hg3=>sy hg3<|sr 1 rfl<|sy hg3<|sr 1 rfl<|sz 2 G G G)<|sa G G G<|sr 1 rfl<|sg 3 6 33 36 true G G (fun hg7=>sy hg7<|sd ((aC bD aQ rfl S (i:=10) G G))<|sy hg7<|sd (aN dV G G)<|sy hg7<|sd (cF G G)<|sz 3 G G G)<|sa G G G<|sr 1 rfl<|sg 3 11 38 41 true G G (fun hg12=>sy hg12<|sr 1 rfl<|sy hg12<|sL jY rfl<|sy hg12<|sr 1 rfl<|sz 3 G G G)<|sa G G G<|sr 1 rfl<|sE ?_;clear H a;intro a H
    refine k24 _ ?_;clear k24 K24
    refine wp_ret ?_
    refine ret1 (fn:=Tryz.f6) rfl H rfl ?_
    exact ⟨rfl,(S.sel [] G G)⟩
   ·skip
    refine aI H rfl S cC ?_;clear H a S;intro b3 _ a hb3 hbw3 S H
    refine wpList_nil (And.intro (Or.inr (S.sel [3] G G)) ?_)
    refine aM rfl ?_
    refine aA H G G Tryz.func16 G G (cX true 1000 20 2000 20000 exBr A4 2 60 0 500 0 _ (ownM.inS S (i:=1) rfl) (by decide)) ?_;clear H a
    rintro _ _ a ⟨tl,th,rfl,S2⟩ H
    replace S:=S.call S2;clear S2
    rw [hH] at H
    refine wpList_nil (And.intro (Or.inr (S.sel [3] G G)) ?_)
    refine aH H G G (fun _ S=>aL rfl) ?_;clear H a;intro a H
    refine aH H G G (fun _ S=>aP G G) ?_;clear H a;intro a H
    refine aH H G G (fun _ S=>aP G G) ?_;clear H a;intro a H
    refine aH H G G (fun _ S=>aP G G) ?_;clear H a;intro a H
    refine aM rfl ?_
    refine aF H S (i:=2) G G G G aQ G G ?_
    clear H a S;intro _ a S H
    refine wpList_nil (And.intro (Or.inr (S.sel [3] G G)) ?_)
    refine aM rfl ?_
    refine aF H S (i:=0) G G G G aQ G G ?_
    clear H a S;intro _ a S H
    refine wpList_nil (And.intro (Or.inr (S.sel [3] G G)) ?_)
    refine aH H G G (fun _ S=>bJ rfl) ?_;clear H a;intro a H
    refine bE ?_
    refine k3 _ _ ?_
    clear k3 K3
    replace H:=H.keep [2,4] rfl
    refine seq_list fun K25 k25=>?_
    refine aA H G G Tryz.func18 G G (cN _) ?_;clear H a
    rintro _ _ a ⟨SA,B0,B1,B2,B3,B4,QA,TA,rfl,S2⟩ H
    replace S:=S.call S2;clear S2
    refine ls 3 H<|sr 3 rfl<|sE ?_;clear H a;intro a H
    refine aI H rfl S jP ?_;clear H a S;intro b5 _ a hb5 hbw5 S H
    refine aF H S (i:=0) G G G G dR G G ?_
    clear H a S;intro _ a S H
    refine ls 1 H<|sr 1 rfl<|sE ?_;clear H a;intro a H
    refine k25 _ _ ?_;clear k25 K25
    replace H:=H.keep [2,4,5] rfl
    refine seq_list fun K26 k26=>?_
    refine ls 1 H<|sd ((aC eN dR rfl S (i:=0) G G))<|sE ?_;clear H a;intro a H
    refine aA H G G Tryz.func19 G G (dZ 2 exSw SA 4 exWs QA 5 (exOA B0 B1 B2 B3 B4) exOc _ (ownM.inS S (i:=1) rfl) (ownM.inS S (i:=7) rfl) (fun k hk=>by
      rcases k with _|_|_|_|_|k
      · exact ownM.inS S (i:=2) rfl
      · exact ownM.inS S (i:=3) rfl
      · exact ownM.inS S (i:=4) rfl
      · exact ownM.inS S (i:=5) rfl
      · exact ownM.inS S (i:=6) rfl
      · exact absurd hk (by simp [exWs])
    ) exCir) ?_;clear H a
    rintro _ _ a ⟨A6,c6,rfl,S2⟩ H
    replace S:=S.call S2;clear S2
    rw [fY] at H
    refine ls 5 H<|sr 5 rfl<|sE ?_;clear H a;intro a H
    refine k26 _ _ ?_;clear k26 K26
    replace H:=H.keep [2,4,7,8] rfl
    refine sS H fun K27 k27=>sr 3 rfl<|sg 2 2 29 31 true G G (fun hg3=>sy hg3<|sr 1 rfl<|sy hg3<|sr 1 rfl<|sz 2 G G G)<|sa G G G<|sr 1 rfl<|sg 3 6 33 36 true G G (fun hg7=>sy hg7<|sd ((aC bD aQ rfl S (i:=10) G G))<|sy hg7<|sd (aN dV G G)<|sy hg7<|sd (cF G G)<|sz 3 G G G)<|sa G G G<|sr 1 rfl<|sg 3 11 38 41 true G G (fun hg12=>sy hg12<|sr 1 rfl<|sy hg12<|sL jY rfl<|sy hg12<|sr 1 rfl<|sz 3 G G G)<|sa G G G<|sr 1 rfl<|sE ?_;clear H a;intro a H
    refine k27 _ ?_;clear k27 K27
    refine wp_ret ?_
    refine ret1 (fn:=Tryz.f6) rfl H rfl ?_
    exact ⟨rfl,(S.sel [] G G)⟩
  ·skip
   refine aI H rfl S cC ?_;clear H a S;intro b3 _ a hb3 hbw3 S H
   refine wpList_nil (And.intro (Or.inr (S.sel [2] G G)) ?_)
   refine aM rfl ?_
   refine aA H G G Tryz.func17 G G (hX _) ?_;clear H a
   rintro _ _ a ⟨A4,rfl,S2⟩ H
   replace S:=S.call S2;clear S2
   refine wpList_nil (And.intro (Or.inr (S.sel [3] G G)) ?_)
   refine aM rfl ?_
   refine aA H G G Tryz.func16 G G (cX true 1000 20 2000 20000 exBr A4 2 60 0 500 0 _ (ownM.inS S (i:=0) rfl) (by decide)) ?_;clear H a
   rintro _ _ a ⟨tl,th,rfl,S2⟩ H
   replace S:=S.call S2;clear S2
   rw [hH] at H
   refine wpList_nil (And.intro (Or.inr (S.sel [3] G G)) ?_)
   refine aH H G G (fun _ S=>aL rfl) ?_;clear H a;intro a H
   refine aH H G G (fun _ S=>aP G G) ?_;clear H a;intro a H
   refine aH H G G (fun _ S=>aP G G) ?_;clear H a;intro a H
   refine aH H G G (fun _ S=>aP G G) ?_;clear H a;intro a H
   refine aM rfl ?_
   refine aF H S (i:=2) G G G G aQ G G ?_
   clear H a S;intro _ a S H
   refine wpList_nil (And.intro (Or.inr (S.sel [3] G G)) ?_)
   refine aM rfl ?_
   refine aF H S (i:=1) G G G G aQ G G ?_
   clear H a S;intro _ a S H
   refine wpList_nil (And.intro (Or.inr (S.sel [3] G G)) ?_)
   refine aH H G G (fun _ S=>bJ rfl) ?_;clear H a;intro a H
   refine bE ?_
   refine k3 _ _ ?_
   clear k3 K3
   replace H:=H.keep [2,4] rfl
   refine seq_list fun K28 k28=>?_
   refine aA H G G Tryz.func18 G G (cN _) ?_;clear H a
   rintro _ _ a ⟨SA,B0,B1,B2,B3,B4,QA,TA,rfl,S2⟩ H
   replace S:=S.call S2;clear S2
   refine ls 3 H<|sr 3 rfl<|sE ?_;clear H a;intro a H
   refine aI H rfl S jP ?_;clear H a S;intro b5 _ a hb5 hbw5 S H
   refine aF H S (i:=0) G G G G dR G G ?_
   clear H a S;intro _ a S H
   refine ls 1 H<|sr 1 rfl<|sE ?_;clear H a;intro a H
   refine k28 _ _ ?_;clear k28 K28
   replace H:=H.keep [2,4,5] rfl
   refine seq_list fun K29 k29=>?_
   refine ls 1 H<|sd ((aC eN dR rfl S (i:=0) G G))<|sE ?_;clear H a;intro a H
   refine aA H G G Tryz.func19 G G (dZ 2 exSw SA 4 exWs QA 5 (exOA B0 B1 B2 B3 B4) exOc _ (ownM.inS S (i:=1) rfl) (ownM.inS S (i:=7) rfl) (fun k hk=>by
     rcases k with _|_|_|_|_|k
     · exact ownM.inS S (i:=2) rfl
     · exact ownM.inS S (i:=3) rfl
     · exact ownM.inS S (i:=4) rfl
     · exact ownM.inS S (i:=5) rfl
     · exact ownM.inS S (i:=6) rfl
     · exact absurd hk (by simp [exWs])
   ) exCir) ?_;clear H a
   rintro _ _ a ⟨A6,c6,rfl,S2⟩ H
   replace S:=S.call S2;clear S2
   rw [fY] at H
   refine ls 5 H<|sr 5 rfl<|sE ?_;clear H a;intro a H
   refine k29 _ _ ?_;clear k29 K29
   replace H:=H.keep [2,4,7,8] rfl
   refine sS H fun K30 k30=>sr 3 rfl<|sg 2 2 29 31 true G G (fun hg3=>sy hg3<|sr 1 rfl<|sy hg3<|sr 1 rfl<|sz 2 G G G)<|sa G G G<|sr 1 rfl<|sg 3 6 33 36 true G G (fun hg7=>sy hg7<|sd ((aC bD aQ rfl S (i:=10) G G))<|sy hg7<|sd (aN dV G G)<|sy hg7<|sd (cF G G)<|sz 3 G G G)<|sa G G G<|sr 1 rfl<|sg 3 11 38 41 true G G (fun hg12=>sy hg12<|sr 1 rfl<|sy hg12<|sL jY rfl<|sy hg12<|sr 1 rfl<|sz 3 G G G)<|sa G G G<|sr 1 rfl<|sE ?_;clear H a;intro a H
   refine k30 _ ?_;clear k30 K30
   refine wp_ret ?_
   refine ret1 (fn:=Tryz.f6) rfl H rfl ?_
   exact ⟨rfl,(S.sel [] G G)⟩
 ·skip
  refine aI H rfl S cC ?_;clear H a S;intro b3 _ a hb3 hbw3 S H
  refine wpList_nil (And.intro (Or.inr (S.sel [1] G G)) ?_)
  refine eA G G ?_ ?_
  ·skip
   refine aA H G G Tryz.func17 G G (hX _) ?_;clear H a
   rintro _ _ a ⟨A4,rfl,S2⟩ H
   replace S:=S.call S2;clear S2
   refine wpList_nil (And.intro (Or.inr (S.sel [2] G G)) ?_)
   refine eA G G ?_ ?_
   ·skip
    refine aA H G G Tryz.func16 G G (cX true 1000 20 2000 20000 exBr A4 2 60 0 500 0 _ (ownM.inS S (i:=0) rfl) (by decide)) ?_;clear H a
    rintro _ _ a ⟨tl,th,rfl,S2⟩ H
    replace S:=S.call S2;clear S2
    rw [hH] at H
    refine wpList_nil (And.intro (Or.inr (S.sel [2] G G)) ?_)
    refine aH H G G (fun _ S=>aL rfl) ?_;clear H a;intro a H
    refine aH H G G (fun _ S=>aP G G) ?_;clear H a;intro a H
    refine aH H G G (fun _ S=>aP G G) ?_;clear H a;intro a H
    refine aH H G G (fun _ S=>aP G G) ?_;clear H a;intro a H
    refine aM rfl ?_
    refine aI H rfl S cC ?_;clear H a S;intro b2 _ a hb2 hbw2 S H
    refine wpList_nil (And.intro (Or.inr (S.sel [3] G G)) ?_)
    refine aM rfl ?_
    refine aF H S (i:=0) G G G G aQ G G ?_
    clear H a S;intro _ a S H
    refine wpList_nil (And.intro (Or.inr (S.sel [3] G G)) ?_)
    refine aM rfl ?_
    refine aF H S (i:=2) G G G G aQ G G ?_
    clear H a S;intro _ a S H
    refine wpList_nil (And.intro (Or.inr (S.sel [3] G G)) ?_)
    refine aH H G G (fun _ S=>bJ rfl) ?_;clear H a;intro a H
    refine bE ?_
    refine k3 _ _ ?_
    clear k3 K3
    replace H:=H.keep [2,4] rfl
    refine seq_list fun K31 k31=>?_
    refine aA H G G Tryz.func18 G G (cN _) ?_;clear H a
    rintro _ _ a ⟨SA,B0,B1,B2,B3,B4,QA,TA,rfl,S2⟩ H
    replace S:=S.call S2;clear S2
    refine ls 3 H<|sr 3 rfl<|sE ?_;clear H a;intro a H
    refine aI H rfl S jP ?_;clear H a S;intro b5 _ a hb5 hbw5 S H
    refine aF H S (i:=0) G G G G dR G G ?_
    clear H a S;intro _ a S H
    refine ls 1 H<|sr 1 rfl<|sE ?_;clear H a;intro a H
    refine k31 _ _ ?_;clear k31 K31
    replace H:=H.keep [2,4,5] rfl
    refine seq_list fun K32 k32=>?_
    refine ls 1 H<|sd ((aC eN dR rfl S (i:=0) G G))<|sE ?_;clear H a;intro a H
    refine aA H G G Tryz.func19 G G (dZ 2 exSw SA 4 exWs QA 5 (exOA B0 B1 B2 B3 B4) exOc _ (ownM.inS S (i:=1) rfl) (ownM.inS S (i:=7) rfl) (fun k hk=>by
      rcases k with _|_|_|_|_|k
      · exact ownM.inS S (i:=2) rfl
      · exact ownM.inS S (i:=3) rfl
      · exact ownM.inS S (i:=4) rfl
      · exact ownM.inS S (i:=5) rfl
      · exact ownM.inS S (i:=6) rfl
      · exact absurd hk (by simp [exWs])
    ) exCir) ?_;clear H a
    rintro _ _ a ⟨A6,c6,rfl,S2⟩ H
    replace S:=S.call S2;clear S2
    rw [fY] at H
    refine ls 5 H<|sr 5 rfl<|sE ?_;clear H a;intro a H
    refine k32 _ _ ?_;clear k32 K32
    replace H:=H.keep [2,4,7,8] rfl
    refine sS H fun K33 k33=>sr 3 rfl<|sg 2 2 29 31 true G G (fun hg3=>sy hg3<|sr 1 rfl<|sy hg3<|sr 1 rfl<|sz 2 G G G)<|sa G G G<|sr 1 rfl<|sg 3 6 33 36 true G G (fun hg7=>sy hg7<|sd ((aC bD aQ rfl S (i:=8) G G))<|sy hg7<|sd (aN dV G G)<|sy hg7<|sd (cF G G)<|sz 3 G G G)<|sa G G G<|sr 1 rfl<|sg 3 11 38 41 true G G (fun hg12=>sy hg12<|sr 1 rfl<|sy hg12<|sL jY rfl<|sy hg12<|sr 1 rfl<|sz 3 G G G)<|sa G G G<|sr 1 rfl<|sE ?_;clear H a;intro a H
    refine k33 _ ?_;clear k33 K33
    refine wp_ret ?_
    refine ret1 (fn:=Tryz.f6) rfl H rfl ?_
    exact ⟨rfl,(S.sel [] G G)⟩
   ·skip
    refine aI H rfl S cC ?_;clear H a S;intro b2 _ a hb2 hbw2 S H
    refine wpList_nil (And.intro (Or.inr (S.sel [3] G G)) ?_)
    refine aM rfl ?_
    refine aA H G G Tryz.func16 G G (cX true 1000 20 2000 20000 exBr A4 2 60 0 500 0 _ (ownM.inS S (i:=1) rfl) (by decide)) ?_;clear H a
    rintro _ _ a ⟨tl,th,rfl,S2⟩ H
    replace S:=S.call S2;clear S2
    rw [hH] at H
    refine wpList_nil (And.intro (Or.inr (S.sel [3] G G)) ?_)
    refine aH H G G (fun _ S=>aL rfl) ?_;clear H a;intro a H
    refine aH H G G (fun _ S=>aP G G) ?_;clear H a;intro a H
    refine aH H G G (fun _ S=>aP G G) ?_;clear H a;intro a H
    refine aH H G G (fun _ S=>aP G G) ?_;clear H a;intro a H
    refine aM rfl ?_
    refine aF H S (i:=0) G G G G aQ G G ?_
    clear H a S;intro _ a S H
    refine wpList_nil (And.intro (Or.inr (S.sel [3] G G)) ?_)
    refine aM rfl ?_
    refine aF H S (i:=2) G G G G aQ G G ?_
    clear H a S;intro _ a S H
    refine wpList_nil (And.intro (Or.inr (S.sel [3] G G)) ?_)
    refine aH H G G (fun _ S=>bJ rfl) ?_;clear H a;intro a H
    refine bE ?_
    refine k3 _ _ ?_
    clear k3 K3
    replace H:=H.keep [2,4] rfl
    refine seq_list fun K34 k34=>?_
    refine aA H G G Tryz.func18 G G (cN _) ?_;clear H a
    rintro _ _ a ⟨SA,B0,B1,B2,B3,B4,QA,TA,rfl,S2⟩ H
    replace S:=S.call S2;clear S2
    refine ls 3 H<|sr 3 rfl<|sE ?_;clear H a;intro a H
    refine aI H rfl S jP ?_;clear H a S;intro b5 _ a hb5 hbw5 S H
    refine aF H S (i:=0) G G G G dR G G ?_
    clear H a S;intro _ a S H
    refine ls 1 H<|sr 1 rfl<|sE ?_;clear H a;intro a H
    refine k34 _ _ ?_;clear k34 K34
    replace H:=H.keep [2,4,5] rfl
    refine seq_list fun K35 k35=>?_
    refine ls 1 H<|sd ((aC eN dR rfl S (i:=0) G G))<|sE ?_;clear H a;intro a H
    refine aA H G G Tryz.func19 G G (dZ 2 exSw SA 4 exWs QA 5 (exOA B0 B1 B2 B3 B4) exOc _ (ownM.inS S (i:=1) rfl) (ownM.inS S (i:=7) rfl) (fun k hk=>by
      rcases k with _|_|_|_|_|k
      · exact ownM.inS S (i:=2) rfl
      · exact ownM.inS S (i:=3) rfl
      · exact ownM.inS S (i:=4) rfl
      · exact ownM.inS S (i:=5) rfl
      · exact ownM.inS S (i:=6) rfl
      · exact absurd hk (by simp [exWs])
    ) exCir) ?_;clear H a
    rintro _ _ a ⟨A6,c6,rfl,S2⟩ H
    replace S:=S.call S2;clear S2
    rw [fY] at H
    refine ls 5 H<|sr 5 rfl<|sE ?_;clear H a;intro a H
    refine k35 _ _ ?_;clear k35 K35
    replace H:=H.keep [2,4,7,8] rfl
    refine sS H fun K36 k36=>sr 3 rfl<|sg 2 2 29 31 true G G (fun hg3=>sy hg3<|sr 1 rfl<|sy hg3<|sr 1 rfl<|sz 2 G G G)<|sa G G G<|sr 1 rfl<|sg 3 6 33 36 true G G (fun hg7=>sy hg7<|sd ((aC bD aQ rfl S (i:=8) G G))<|sy hg7<|sd (aN dV G G)<|sy hg7<|sd (cF G G)<|sz 3 G G G)<|sa G G G<|sr 1 rfl<|sg 3 11 38 41 true G G (fun hg12=>sy hg12<|sr 1 rfl<|sy hg12<|sL jY rfl<|sy hg12<|sr 1 rfl<|sz 3 G G G)<|sa G G G<|sr 1 rfl<|sE ?_;clear H a;intro a H
    refine k36 _ ?_;clear k36 K36
    refine wp_ret ?_
    refine ret1 (fn:=Tryz.f6) rfl H rfl ?_
    exact ⟨rfl,(S.sel [] G G)⟩
  ·skip
   refine aI H rfl S cC ?_;clear H a S;intro b2 _ a hb2 hbw2 S H
   refine wpList_nil (And.intro (Or.inr (S.sel [2] G G)) ?_)
   refine aM rfl ?_
   refine aA H G G Tryz.func17 G G (hX _) ?_;clear H a
   rintro _ _ a ⟨A4,rfl,S2⟩ H
   replace S:=S.call S2;clear S2
   refine wpList_nil (And.intro (Or.inr (S.sel [3] G G)) ?_)
   refine aM rfl ?_
   refine aA H G G Tryz.func16 G G (cX true 1000 20 2000 20000 exBr A4 2 60 0 500 0 _ (ownM.inS S (i:=0) rfl) (by decide)) ?_;clear H a
   rintro _ _ a ⟨tl,th,rfl,S2⟩ H
   replace S:=S.call S2;clear S2
   rw [hH] at H
   refine wpList_nil (And.intro (Or.inr (S.sel [3] G G)) ?_)
   refine aH H G G (fun _ S=>aL rfl) ?_;clear H a;intro a H
   refine aH H G G (fun _ S=>aP G G) ?_;clear H a;intro a H
   refine aH H G G (fun _ S=>aP G G) ?_;clear H a;intro a H
   refine aH H G G (fun _ S=>aP G G) ?_;clear H a;intro a H
   refine aM rfl ?_
   refine aF H S (i:=1) G G G G aQ G G ?_
   clear H a S;intro _ a S H
   refine wpList_nil (And.intro (Or.inr (S.sel [3] G G)) ?_)
   refine aM rfl ?_
   refine aF H S (i:=2) G G G G aQ G G ?_
   clear H a S;intro _ a S H
   refine wpList_nil (And.intro (Or.inr (S.sel [3] G G)) ?_)
   refine aH H G G (fun _ S=>bJ rfl) ?_;clear H a;intro a H
   refine bE ?_
   refine k3 _ _ ?_
   clear k3 K3
   replace H:=H.keep [2,4] rfl
   refine seq_list fun K37 k37=>?_
   refine aA H G G Tryz.func18 G G (cN _) ?_;clear H a
   rintro _ _ a ⟨SA,B0,B1,B2,B3,B4,QA,TA,rfl,S2⟩ H
   replace S:=S.call S2;clear S2
   refine ls 3 H<|sr 3 rfl<|sE ?_;clear H a;intro a H
   refine aI H rfl S jP ?_;clear H a S;intro b5 _ a hb5 hbw5 S H
   refine aF H S (i:=0) G G G G dR G G ?_
   clear H a S;intro _ a S H
   refine ls 1 H<|sr 1 rfl<|sE ?_;clear H a;intro a H
   refine k37 _ _ ?_;clear k37 K37
   replace H:=H.keep [2,4,5] rfl
   refine seq_list fun K38 k38=>?_
   refine ls 1 H<|sd ((aC eN dR rfl S (i:=0) G G))<|sE ?_;clear H a;intro a H
   refine aA H G G Tryz.func19 G G (dZ 2 exSw SA 4 exWs QA 5 (exOA B0 B1 B2 B3 B4) exOc _ (ownM.inS S (i:=1) rfl) (ownM.inS S (i:=7) rfl) (fun k hk=>by
     rcases k with _|_|_|_|_|k
     · exact ownM.inS S (i:=2) rfl
     · exact ownM.inS S (i:=3) rfl
     · exact ownM.inS S (i:=4) rfl
     · exact ownM.inS S (i:=5) rfl
     · exact ownM.inS S (i:=6) rfl
     · exact absurd hk (by simp [exWs])
   ) exCir) ?_;clear H a
   rintro _ _ a ⟨A6,c6,rfl,S2⟩ H
   replace S:=S.call S2;clear S2
   rw [fY] at H
   refine ls 5 H<|sr 5 rfl<|sE ?_;clear H a;intro a H
   refine k38 _ _ ?_;clear k38 K38
   replace H:=H.keep [2,4,7,8] rfl
   refine sS H fun K39 k39=>sr 3 rfl<|sg 2 2 29 31 true G G (fun hg3=>sy hg3<|sr 1 rfl<|sy hg3<|sr 1 rfl<|sz 2 G G G)<|sa G G G<|sr 1 rfl<|sg 3 6 33 36 true G G (fun hg7=>sy hg7<|sd ((aC bD aQ rfl S (i:=9) G G))<|sy hg7<|sd (aN dV G G)<|sy hg7<|sd (cF G G)<|sz 3 G G G)<|sa G G G<|sr 1 rfl<|sg 3 11 38 41 true G G (fun hg12=>sy hg12<|sr 1 rfl<|sy hg12<|sL jY rfl<|sy hg12<|sr 1 rfl<|sz 3 G G G)<|sa G G G<|sr 1 rfl<|sE ?_;clear H a;intro a H
   refine k39 _ ?_;clear k39 K39
   refine wp_ret ?_
   refine ret1 (fn:=Tryz.f6) rfl H rfl ?_
   exact ⟨rfl,(S.sel [] G G)⟩
end
section
theorem Cj {w0:World} {F0:Nat→Prop} {R:List Mem} {w:World} {e sz n m c i:Nat} {A:Option Addr} {cell:Nat→Nat→Value} (S:St w0 F0 R w) (hi:R[i]?=some (ownM e sz A n c cell)) (h:n=m):St w0 F0 (R.set i (ownM e sz A m c cell)) w:=by
  subst h
  exact S.recell hi (fun _ _ _ _=>rfl)
theorem Qg {w0 w:World} {F0:Nat→Prop} {R:List Mem} {i e c:Nat} {A:Option Addr} {zs:List Int} (S:St w0 F0 R w) (hi:R[i]?=some (ownM e 1 A zs.length c (icl zs))) (hz:zs.length≤1000) :
    Calls Tryz.prog 26 [.slice A zs.length c].toArray w (Ret fun v w'=>v = .tuple #[]∧St w0 F0 (R.set i (ownM e 1 A zs.length c (icl (zs.mergeSort fun x y=>decide (x≤y))))) w'):=by
  rcases S.holds hi with ⟨rfl,hn,rfl⟩|⟨b,cs,rfl,hb,h1,h2,h3,hc⟩
  · obtain rfl:=List.eq_nil_of_length_eq_zero hn
    refine Calls.mono (Tryz.slices_Sort_int_none none 0 w) fun e' w' he=>?_
    obtain ⟨rfl,rfl⟩:=he
    exact ⟨rfl,S.recell hi fun k j hk _=>absurd hk (Nat.not_lt_zero k)⟩
  · have hcz:zs.length≤cs.size:=by omega
    have ht:cs.toList.take zs.length=zs.map (Value.int .i64):=by
      apply List.ext_getElem?
      intro k
      by_cases hk:k<zs.length
      · have h9:=hc k 0 hk (by omega)
        rw [Nat.mul_one,Nat.add_zero] at h9
        rw [List.getElem?_take_of_lt hk,Array.getElem?_toList,h9,List.getElem?_map,List.getElem?_eq_getElem hk]
        unfold icl
        rw [List.getD_eq_getElem?_getD,List.getElem?_eq_getElem hk]
        rfl
      · rw [List.getElem?_take_eq_none (by omega),List.getElem?_eq_none (by simp;omega)]
    refine Calls.mono (Tryz.slices_Sort_int b 0 c zs w (holds_of_blockI hb ht) (dQ hb) (by omega)) fun e' w' he=>?_
    obtain ⟨rfl,n,os,rfl⟩:=he
    refine ⟨rfl,S.updSame hi ((Keeps.of_grown (grownBy_sortedI _)).mono fun k hk=>?_) ?_ fun k hk=>hk⟩
    · cases hk;exact ⟨_,rfl,rfl⟩
    · refine .inr ⟨b,_,rfl,heap_sortedI _ hb,h1,h2,by simp [Go.Sort.putCells,h3],fun k j hk hj=>?_⟩
      have hj0:j=0:=by omega
      subst hj0
      have h9:=take_putCellsI cs (zs.mergeSort fun x y=>decide (x≤y)) (by rw [List.length_mergeSort];omega)
      have h8:=congrArg (fun l:List Value=>l[k]?) h9
      rw [List.length_mergeSort,List.getElem?_take_of_lt hk,Array.getElem?_toList,List.getElem?_map] at h8
      rw [Nat.mul_one,Nat.add_zero,h8]
      have hk':k<(zs.mergeSort fun x y=>decide (x≤y)).length:=by rw [List.length_mergeSort];exact hk
      unfold icl
      rw [List.getD_eq_getElem?_getD,List.getElem?_eq_getElem hk']
      rfl
section
variable {P T:Nat} {ps:List Psg} {xs:List Int} {out:Int} {pe:List Int} {k:Nat}
theorem mov3 (a b:Int):(¬ a=3)∨(a=3∧¬ b%2=0)∨(a=3∧b%2=0):=by omega
theorem Gu (h:(ps.getD k Psg.zero).kind=3∧out/2^(ps.getD k Psg.zero).mach.toNat%2=0) (h2:¬ mfv P T pe xs (hds (out+2^(ps.getD k Psg.zero).mach.toNat) xs ps)=sumI pe pe.length):movB ps out (mustB P T ps xs out pe) k=true:=
  mI.2 ⟨h,by unfold mustB allB bI;rw [decide_eq_false h2];rfl⟩
theorem Gv (h2:mfv P T pe xs (hds (out+2^(ps.getD k Psg.zero).mach.toNat) xs ps)=sumI pe pe.length):movB ps out (mustB P T ps xs out pe) k=false:=by
  unfold movB mustB allB bI;rw [decide_eq_true h2];simp
theorem zM {f:Nat→Bool} (h:¬ (ps.getD k Psg.zero).kind=3):movB ps out f k=false:=by unfold movB;rw [decide_eq_false h];rfl
theorem zN {f:Nat→Bool} (h:¬ out/2^(ps.getD k Psg.zero).mach.toNat%2=0):movB ps out f k=false:=by unfold movB bI;rw [decide_eq_false h,Bool.and_false];rfl
theorem Qh {m:Int} (h:0≤m∧m≤11):(0:Int)≤2^m.toNat∧(2:Int)^m.toNat≤2048:=by
  obtain ⟨n,rfl⟩:=Int.eq_ofNat_of_zero_le h.1
  exact Se (by omega)
end
theorem xC (pl:Int) (ps:List Psg) (PA:Option Addr) (pc:Nat) (xs:List Int) (XA:Option Addr) (xc:Nat) (out:Int) (pe:List Int) (BA:Option Addr) (bc:Nat) (T0:Int) (w:World) (hps:InS w noF 7 PA ps.length (pcell ps)) (hpn:ps.length≤9223372036854775807) (hxs:InS w noF 1 XA xs.length (icl xs)) (hxn:xs.length≤9223372036854775807) (hpe:InS w noF 1 BA pe.length (icl pe)) (hpen:pe.length≤9223372036854775807) :
    Calls Tryz.prog 9 [.agg [.int .i64 pl,.slice PA ps.length pc,.slice XA xs.length xc].toArray,.int .i64 out,.slice BA pe.length bc,.int .i64 T0].toArray w (Ret (fun u w'=>∃ A c,u = .tuple #[.slice A (mustV pl ps xs out pe T0).1.length c,.int .i64 (mustV pl ps xs out pe T0).2]∧St w noF [ownM 3 1 A (mustV pl ps xs out pe T0).1.length c (icl (mustV pl ps xs out pe T0).1)] w')):=by
 refine enter Tryz.func9 rfl Tryz.ntmps9 rfl (fun a H=>?_)
 have S:=St.start w
 refine seq_list fun K1 k1=>?_
 refine aO H rfl S G G ?_;clear H a S;intro b4 _ a hb4 hbw4 S H
 refine ls 2 H<|sr 2 rfl<|sE ?_;clear H a;intro a H
 refine k1 _ _ ?_;clear k1 K1
 refine wp_seq_k fun K2 k2=>?_
 refine seq_list fun K3 k3=>?_
 refine ls 4 H<|sd ((aC cA cZ rfl S (i:=0) G G))<|sr 3 rfl<|sE ?_;clear H a;intro a H
 refine aA H G G Tryz.func24 G G (pD pl ps PA pc xs XA xc out pe BA bc T0 _ (hps.now S) hpn (hxs.now S) hxn (hpe.now S) hpen) ?_;clear H a
 rintro _ _ a ⟨rfl,S2⟩ H
 replace S:=S.call S2;clear S2
 refine ls 1 H<|sr 1 rfl<|sE ?_;clear H a;intro a H
 refine k3 _ _ ?_;clear k3 K3
 replace H:=H.keep [1,2,3,4,10] rfl
 refine sS H fun K4 k4=>sr 2 rfl<|sE ?_;clear H a;intro a H
 refine k4 _ ?_;clear k4 K4
 refine condN H rfl (fun hc1=>?_) (fun hc1=>?_)
 ·skip
  refine sS H fun K5 k5=>sr 3 rfl<|sE ?_;clear H a;intro a H
  refine k5 _ ?_;clear k5 K5
  refine wp_ret ?_
  refine ret2 (fn:=Tryz.f9) rfl H G G ?_
  rw [Pi hc1]
  exact ⟨none,0,rfl,(S.sel [] G G).newNil _ _ _⟩
 obtain ⟨hst,hou,hcr,hti⟩:=jH hc1
 have hV0:=gV hst
 obtain ⟨P,rfl⟩:∃ P:Nat,pl=P:=⟨pl.toNat,by have:=hV0.size;omega⟩
 have hV:=hV0
 obtain ⟨hpp,hpl'⟩:=pB hcr
 have hpl:pe.length=P:=by omega
 obtain ⟨T,rfl⟩:∃ T:Nat,T0=T:=⟨T0.toNat,by omega⟩
 have hT:T≤60:=by omega
 have hP10:=hV.size
 refine wp_skip ?_
 refine k2 _ _ ?_
 refine wp_seq_k fun K6 k6=>?_
 replace H:=H.keep [1,2,3,4] rfl
 refine seq_list fun K7 k7=>?_
 refine ls 4 H<|sd ((aC cA cZ rfl S (i:=0) G G))<|sr 3 rfl<|sE ?_;clear H a;intro a H
 refine aA H G G Tryz.func25 G G (Ca P T ps PA pc xs XA xc out pe BA bc _ (hps.now S) hpn (hxs.now S) hxn (hpe.now S) hpl hV hou hpp hT) ?_;clear H a
 rintro _ _ a ⟨rfl,S2⟩ H
 replace S:=S.call S2;clear S2
 refine ls 1 H<|sr 1 rfl<|sE ?_;clear H a;intro a H
 refine k7 _ _ ?_;clear k7 K7
 refine cond_ H rfl (fun hc2=>?_) (fun hc2=>?_)
 ·skip
  try simp only [o1,o2,o3,o4,o5,o6,o7,o8,o9,oa] at hc2
  refine sS H fun K8 k8=>sr 2 rfl<|sE ?_;clear H a;intro a H
  refine k8 _ ?_;clear k8 K8
  refine wp_ret ?_
  refine ret2 (fn:=Tryz.f9) rfl H G G ?_
  rw [wU hc1 hc2]
  exact ⟨none,0,rfl,(S.sel [] G G).newNil _ _ _⟩
 try simp only [o1,o2,o3,o4,o5,o6,o7,o8,o9,oa] at hc2
 refine wp_skip ?_
 refine k6 _ _ ?_
 refine sS H fun K9 k9=>sr 1 rfl<|sE ?_;clear H a;intro a H
 refine k9 _ ?_;clear k9 K9
 refine wp_seq_k fun K10 k10=>?_
 replace H:=H.keep [1,2,3,4,11] rfl
 refine sS H fun K11 k11=>sf eO rfl<|sl S 0 fZ G G G<|sL fS rfl<|sr 1 rfl<|sE ?_;clear H a;intro a H
 refine k11 _ ?_;clear k11 K11
 refine wp_block ?_
 replace S:=S.newNil 3 1 (wcl [])
 refine loop_st (X:=Nat×List Nat×Option Addr×Nat) (R0:=_) [1,2,3,4,29,30] H rfl (fun ⟨k,wl,A9,c9⟩=>[(11,.slice A9 wl.length c9),(31,.int .i64 (k:Int))]) (fun ⟨k,wl,A9,c9⟩=>[ownM 3 1 A9 wl.length c9 (wcl wl)]) (fun g ⟨k,wl,A9,c9⟩=>k≤ps.length∧g+k=ps.length∧wl=mustP ps out (mustB P T ps xs out pe) k) (ps.length) (0,[],none,0) ?_ (S.sel [0,1] G G) (H.keep [11,31,1,2,3,4,29,30] rfl) ?_
 · exact ⟨by omega,by omega,rfl⟩
 clear H S a
 intro g1 x1 a w1 hp S H K12 k12
 obtain ⟨k,wl,A9,c9⟩:=x1
 dsimp only at hp S H
 obtain ⟨hkl,hgk,hW⟩:=hp
 have hwn:wl.length≤k:=by rw [hW];exact Jr k
 refine sS H fun K13 k13=>sr 1 rfl<|sE ?_;clear H a;intro a H
 refine k13 _ ?_;clear k13 K13
 refine wp_seq_k fun K14 k14=>?_
 refine condL H rfl (fun hc3=>?_) (fun hc3=>?_)
 ·skip
  refine wp_skip ?_
  refine k14 _ _ ?_
  refine wp_seq_k fun K15 k15=>?_
  refine wp_block ?_
  refine seq_list fun K16 k16=>?_
  refine ls 2 H<|si fS eK G G (hps.adr (by omega)) (by omega)<|sd ((aW jM eK rfl S hps (by omega) (by omega)))<|sE ?_;clear H a;intro a H
  refine aI H rfl S rE ?_;clear H a S;intro b13 _ a hb13 hbw13 S H
  refine aF H S (i:=0) G G G G eK G G ?_
  clear H a S;intro _ a S H
  refine k16 _ _ ?_;clear k16 K16
  rcases mov3 (ps.getD k Psg.zero).kind (out/2^(ps.getD k Psg.zero).mach.toNat) with hB|hB|hB
  ·skip
   skip
   replace H:=H.keep [1,2,3,4,11,13,29,30,31] rfl
   replace S:=S.drew
   refine seq_wq [(0,true),(1,true),(2,true),(3,true),(4,true),(5,true),(6,true),(7,true),(8,true),(9,true),(10,true),(11,true),(12,true),(13,true),(14,true),(15,true),(16,true),(17,true),(18,true),(19,true),(20,true),(21,true),(22,true)] (by kernel_rfl) (by kernel_rfl) (S.sel [0,1,2] G G) fun K17 k17=>?_
   refine qF H<|qd rfl (fun _ S=>(aB eP rfl))<|qd rfl (fun _ S=>aE aD rfl (boxM.rd S (i:=0) G G))<|qd rfl (fun _ S=>(eI G G).to (congrArg Value.bool (decide_eq_false hB)))<|qr 1 rfl<|qK ?_;clear H a;intro a H
   refine aJ H G G G G G ?_;clear H a;intro a H
   refine aJ H G G G G G ?_;clear H a;intro a H
   refine aJ H G G G G G ?_;clear H a;intro a H
   refine aJ H G G G G G ?_;clear H a;intro a H
   refine aJ H G G G G G ?_;clear H a;intro a H
   refine aJ H G G G G G ?_;clear H a;intro a H
   refine qF H<|qd rfl (fun _ S=>(aR G G G))<|qr 1 rfl<|qK ?_;clear H a;intro a H
   refine aJ H G G G G G ?_;clear H a;intro a H
   refine aJ H G G G G G ?_;clear H a;intro a H
   refine aJ H G G G G G ?_;clear H a;intro a H
   refine aJ H G G G G G ?_;clear H a;intro a H
   refine aJ H G G G G G ?_;clear H a;intro a H
   refine aJ H G G G G G ?_;clear H a;intro a H
   refine aJ H G G G G G ?_;clear H a;intro a H
   refine aJ H G G G G G ?_;clear H a;intro a H
   refine aJ H G G G G G ?_;clear H a;intro a H
   refine aJ H G G G G G ?_;clear H a;intro a H
   refine qF H<|qd rfl (fun _ S=>(aR G G G))<|qK ?_;clear H a;intro a H
   refine bF ?_
   refine k17 _ _ ?_
   clear k17 K17
   refine cond_ H rfl (fun hc4=>?_) (fun hc4=>?_)
   ·skip
    skip
    cases hc4
   skip
   refine wp_skip ?_
   refine k15 _ _ ?_
   replace H:=H.keep [1,2,3,4,11,29,30,31] rfl
   refine sO H<|sd (aK G G (by unfold i64ok;omega))<|sr 1 rfl<|sE ?_;clear H a;intro a H
   exact k12 (g1-1) (k+1,_,_,_) a _ (by omega) (by first|exact ⟨by omega,by omega,nC hW (Gu hB hc6)⟩|exact ⟨by omega,by omega,eX hW (Gv hc6)⟩|exact ⟨by omega,by omega,eX hW (zM hB)⟩|exact ⟨by omega,by omega,eX hW (zN hB.2)⟩) (S.sel [1,2] G G) (H.keep [11,31,1,2,3,4,29,30] rfl)
  ·skip
   have hmm:0≤(ps.getD k Psg.zero).mach∧(ps.getD k Psg.zero).mach≤11:=mJ hV (by omega) hB.1
   replace H:=H.keep [1,2,3,4,11,13,29,30,31] rfl
   replace S:=S.drew
   refine seq_wq [(0,true),(1,true),(2,true),(3,true),(4,true),(5,true),(6,true),(7,true),(8,true),(9,true),(10,true),(11,true),(12,true),(13,true),(14,true),(15,true),(16,true),(17,true),(18,true),(19,true),(20,true),(21,true),(22,true)] (by kernel_rfl) (by kernel_rfl) (S.sel [0,1,2] G G) fun K19 k19=>?_
   refine qF H<|qd rfl (fun _ S=>(aB eP rfl))<|qd rfl (fun _ S=>aE aD rfl (boxM.rd S (i:=0) G G))<|qd rfl (fun _ S=>(eI G G).to (congrArg Value.bool (decide_eq_true hB.1)))<|qr 1 rfl<|qK ?_;clear H a;intro a H
   refine aG H G G G G (fun _ S=>aL rfl) ?_;clear H a;intro a H
   refine aG H G G G G (fun _ S=>(aB dO rfl)) ?_;clear H a;intro a H
   refine aG H G G G G (fun _ S=>aE aD rfl (boxM.rd S (i:=0) G G)) ?_;clear H a;intro a H
   refine aG H G G G G (fun _ S=>fQ G G (by omega) (by omega)) ?_;clear H a;intro a H
   refine aG H G G G G (fun _ S=>eY G G) ?_;clear H a;intro a H
   refine aG H G G G G (fun _ S=>(eI G G).to (congrArg Value.bool (decide_eq_false hB.2))) ?_;clear H a;intro a H
   refine qF H<|qd rfl (fun _ S=>(fD G G G))<|qr 1 rfl<|qK ?_;clear H a;intro a H
   refine aJ H G G G G G ?_;clear H a;intro a H
   refine aJ H G G G G G ?_;clear H a;intro a H
   refine aJ H G G G G G ?_;clear H a;intro a H
   refine aJ H G G G G G ?_;clear H a;intro a H
   refine aJ H G G G G G ?_;clear H a;intro a H
   refine aJ H G G G G G ?_;clear H a;intro a H
   refine aJ H G G G G G ?_;clear H a;intro a H
   refine aJ H G G G G G ?_;clear H a;intro a H
   refine aJ H G G G G G ?_;clear H a;intro a H
   refine aJ H G G G G G ?_;clear H a;intro a H
   refine qF H<|qd rfl (fun _ S=>(aR G G G))<|qK ?_;clear H a;intro a H
   refine bF ?_
   refine k19 _ _ ?_
   clear k19 K19
   refine cond_ H rfl (fun hc5=>?_) (fun hc5=>?_)
   ·skip
    skip
    cases hc5
   skip
   refine wp_skip ?_
   refine k15 _ _ ?_
   replace H:=H.keep [1,2,3,4,11,29,30,31] rfl
   refine sO H<|sd (aK G G (by unfold i64ok;omega))<|sr 1 rfl<|sE ?_;clear H a;intro a H
   exact k12 (g1-1) (k+1,_,_,_) a _ (by omega) (by first|exact ⟨by omega,by omega,nC hW (Gu hB hc6)⟩|exact ⟨by omega,by omega,eX hW (Gv hc6)⟩|exact ⟨by omega,by omega,eX hW (zM hB)⟩|exact ⟨by omega,by omega,eX hW (zN hB.2)⟩) (S.sel [1,2] G G) (H.keep [11,31,1,2,3,4,29,30] rfl)
  have hmm:0≤(ps.getD k Psg.zero).mach∧(ps.getD k Psg.zero).mach≤11:=mJ hV (by omega) hB.1
  have hpw:=Qh hmm
  have hbr:=Na hou (show (ps.getD k Psg.zero).mach.toNat<12 by omega) (by omega)
  replace H:=H.keep [1,2,3,4,11,13,29,30,31] rfl
  replace S:=S.drew
  refine seq_wq [(0,true),(1,true),(2,true),(3,true),(4,true),(5,true),(6,true),(7,true),(8,true),(9,true),(10,true),(11,true),(12,true),(13,true),(14,true),(15,true),(16,true),(17,true),(18,true),(19,true),(20,false),(21,true),(22,true)] (by kernel_rfl) (by kernel_rfl) (S.sel [0,1,2] G G) fun K21 k21=>?_
  refine qF H<|qd rfl (fun _ S=>(aB eP rfl))<|qd rfl (fun _ S=>aE aD rfl (boxM.rd S (i:=0) G G))<|qd rfl (fun _ S=>(eI G G).to (congrArg Value.bool (decide_eq_true hB.1)))<|qr 1 rfl<|qK ?_;clear H a;intro a H
  refine aG H G G G G (fun _ S=>aL rfl) ?_;clear H a;intro a H
  refine aG H G G G G (fun _ S=>(aB dO rfl)) ?_;clear H a;intro a H
  refine aG H G G G G (fun _ S=>aE aD rfl (boxM.rd S (i:=0) G G)) ?_;clear H a;intro a H
  refine aG H G G G G (fun _ S=>fQ G G (by omega) (by omega)) ?_;clear H a;intro a H
  refine aG H G G G G (fun _ S=>eY G G) ?_;clear H a;intro a H
  refine aG H G G G G (fun _ S=>(eI G G).to (congrArg Value.bool (decide_eq_true hB.2))) ?_;clear H a;intro a H
  refine qF H<|qd rfl (fun _ S=>(fD G G G))<|qr 1 rfl<|qK ?_;clear H a;intro a H
  refine aG H G G G G (fun _ S=>(aC cA cZ rfl S (i:=2) G G)) ?_;clear H a;intro a H
  refine aG H G G G G (fun _ S=>aL rfl) ?_;clear H a;intro a H
  refine aG H G G G G (fun _ S=>(aB dO rfl)) ?_;clear H a;intro a H
  refine aG H G G G G (fun _ S=>aE aD rfl (boxM.rd S (i:=0) G G)) ?_;clear H a;intro a H
  refine aG H G G G G (fun _ S=>eJ G G (by omega) (by omega) (by unfold i64ok;omega)) ?_;clear H a;intro a H
  refine aG H G G G G (fun _ S=>Lc G G hou (by omega) hB.2) ?_;clear H a;intro a H
  refine aG H G G G G (fun _ S=>aL rfl) ?_;clear H a;intro a H
  refine aG H G G G G (fun _ S=>aL rfl) ?_;clear H a;intro a H
  refine aS rfl ?_
  refine aX H G G ?_
  refine aA H G G Tryz.func25 G G (Ca P T ps PA pc xs XA xc (out+2^(ps.getD k Psg.zero).mach.toNat) pe BA bc _ (hps.now S) hpn (hxs.now S) hxn (hpe.now S) hpl hV hbr hpp hT) ?_;clear H a
  rintro _ _ a ⟨rfl,S2⟩ H
  replace S:=S.call S2;clear S2
  refine wpList_nil (And.intro (S.sel [0,1,2] G G) ?_)
  refine aG H G G G G (fun _ S=>cL rfl) ?_;clear H a;intro a H
  refine qF H<|qd rfl (fun _ S=>(fD G G G))<|qK ?_;clear H a;intro a H
  refine bF ?_
  refine k21 _ _ ?_
  clear k21 K21
  refine cond_ H rfl (fun hc6=>?_) (fun hc6=>?_)
  ·skip
   simp only [Bool.true_and,o1,o2,o3,o4,o5,o6,o7,o8,o9,oa] at hc6
   replace H:=H.keep [1,2,3,4,11,13,29,30,31] rfl
   refine one_list ?_
   refine ls 3 H<|sr 1 rfl<|sf dO rfl<|sl S 0 aD G G G<|sE ?_;clear H a;intro a H
   refine aZ H rfl S aT bA fO G G G G G G G G G ?_;clear H a S;intro A1 _ a hA1 S H
   refine bW H rfl S aT bA fO oY G G (i:=2) G G G (ownM.inS S (i:=0) rfl) (mA (w8one rfl)) (by omega) (by omega) ?_;clear H a S;intro A2 c2 _ a S H
   replace S:=S.recell (i:=2) rfl (cell':=wcl (wl++[(bI ps k).toNat])) (fun k j hk hj=>Aq (congrArg (Value.int .i64) (Int.toNat_of_nonneg hmm.1).symm) k j hk hj)
   rw [show wl.length+1=(wl++[(bI ps k).toNat]).length by simp] at H S
   refine ls 1 H<|sr 1 rfl<|sE ?_;clear H a;intro a H
   refine k15 _ _ ?_
   refine sO H<|sd (aK G G (by unfold i64ok;omega))<|sr 1 rfl<|sE ?_;clear H a;intro a H
   exact k12 (g1-1) (k+1,_,_,_) a _ (by omega) (by first|exact ⟨by omega,by omega,nC hW (Gu hB hc6)⟩|exact ⟨by omega,by omega,eX hW (Gv hc6)⟩|exact ⟨by omega,by omega,eX hW (zM hB)⟩|exact ⟨by omega,by omega,eX hW (zN hB.2)⟩) (S.sel [2,3] G G) (H.keep [11,31,1,2,3,4,29,30] rfl)
  simp only [Bool.true_and,o1,o2,o3,o4,o5,o6,o7,o8,o9,oa] at hc6
  refine wp_skip ?_
  refine k15 _ _ ?_
  replace H:=H.keep [1,2,3,4,11,29,30,31] rfl
  refine sO H<|sd (aK G G (by unfold i64ok;omega))<|sr 1 rfl<|sE ?_;clear H a;intro a H
  exact k12 (g1-1) (k+1,_,_,_) a _ (by omega) (by first|exact ⟨by omega,by omega,nC hW (Gu hB hc6)⟩|exact ⟨by omega,by omega,eX hW (Gv hc6)⟩|exact ⟨by omega,by omega,eX hW (zM hB)⟩|exact ⟨by omega,by omega,eX hW (zN hB.2)⟩) (S.sel [1,2] G G) (H.keep [11,31,1,2,3,4,29,30] rfl)
 refine wp_exit ?_
 refine k10 _ _ ?_
 obtain rfl:k=ps.length:=by omega
 replace S:=Cj S (i:=0) rfl (mW wl).symm
 replace S:=(S.sel [0,1] G G)
 rw [Sb] at S
 rw [show Value.slice A9 wl.length c9 = .slice A9 (toI wl).length c9 by rw [mW]] at H
 have hso:=Jt (f:=(mustB P T ps xs out pe)) (out:=out) hV
 rw [←hW] at hso
 refine seq_list fun K25 k25=>?_
 refine ls 1 H<|sr 1 rfl<|sE ?_;clear H a;intro a H
 refine aA H G G Tryz.func26 G G (Qg S (i:=0) rfl (by rw [mW];omega)) ?_;clear H a
 rintro _ _ a ⟨rfl,S2⟩ H
 replace S:=S2;clear S2
 refine k25 _ _ ?_;clear k25 K25
 refine sS H fun K26 k26=>sr 3 rfl<|sE ?_;clear H a;intro a H
 refine k26 _ ?_;clear k26 K26
 refine wp_ret ?_
 refine ret2 (fn:=Tryz.f9) rfl H G G ?_
 rw [wV hc1 hc2]
 rw [hso] at S
 replace S:=Cj S (i:=0) rfl (show (toI wl).length=(toI (mustL P T ps xs out pe)).length by unfold mustL;rw [←hso,List.length_mergeSort])
 refine ⟨A9,c9,?_,(S.sel [0] G G)⟩
 rw [show (toI (mustL P T ps xs out pe)).length=(toI wl).length by unfold mustL;rw [←hso,List.length_mergeSort]]
end
section
theorem Un {P T:Nat} {ps:List Psg} {xs:List Int} {out:Int} {pe:List Int} (h:cH P ps xs out pe T=0):∃ (mu:List Nat) (me:Int),mustV P ps xs out pe T=(toI mu,me)∧mu.length≤288∧(me=0∧mfv P T pe xs (hds out xs ps)=sumI pe pe.length∧mu=mustL P T ps xs out pe∨me=3∧¬ mfv P T pe xs (hds out xs ps)=sumI pe pe.length∧mu=[]):=by
  have hl:(mustL P T ps xs out pe).length≤288:=by
    have h1:=Ie (ps:=ps) (out:=out) (kind:=3) (gV (jH h).1).size.2.2 12
    exact Nat.le_trans (List.length_filter_le ..) h1
  by_cases ha:mfv P T pe xs (hds out xs ps)=sumI pe pe.length
  · exact ⟨_,0,wV h ha,hl,.inl ⟨rfl,ha,rfl⟩⟩
  · exact ⟨[],3,wU h ha,Nat.zero_le _,.inr ⟨rfl,ha,rfl⟩⟩
theorem Uo {y:Yr} {l:List Tsk} {w w':World} {v:Value} (hte:taskE y l=0) (h:(taskE y l≠0∧v = .tuple #[.slice none 0 0,.int .i64 (taskE y l)]∧St w noF [] w')∨(taskE y l=0∧∃ A c,v = .tuple #[.slice A y.days.toNat c,.int .i64 0]∧St w noF [ownM 3 1 A y.days.toNat c (setsV y l y.us.length)] w')):∃ A c,v = .tuple #[.slice A y.days.toNat c,.int .i64 0]∧St w noF [ownM 3 1 A y.days.toNat c (setsV y l y.us.length)] w':=by
  rcases h with ⟨h0,_⟩|⟨_,h⟩
  · exact absurd hte h0
  · exact h
theorem Ck {y:Yr} {l:List Tsk} {w w':World} {v:Value} (hte:taskE y l=0) (h:(taskE y l≠0∧v = .tuple #[.int .i64 0,.int .i64 0,.int .i64 (taskE y l)]∧St w noF [] w')∨(taskE y l=0∧v = .tuple #[.int .i64 (gF y l).1,.int .i64 (gF y l).2,.int .i64 0]∧St w noF [] w')):v = .tuple #[.int .i64 (gF y l).1,.int .i64 (gF y l).2,.int .i64 0]∧St w noF [] w':=by
  rcases h with ⟨h0,_⟩|⟨_,h⟩
  · exact absurd hte h0
  · exact h
section
variable {y:Yr} {o:Int} {out:Int}
theorem Cl {m:Nat} (ho:0≤o):landI o (1*2^m)=0↔¬ o/2^m%2=1:=by
  obtain ⟨n,rfl⟩:=Int.eq_ofNat_of_zero_le ho
  unfold landI
  have e:(1:Int)*2^m=((2^m:Nat):Int):=by rw [Int.one_mul];exact (Int.natCast_pow 2 m).symm
  have e2:((n:Nat):Int)/2^m%2=((n/2^m%2:Nat):Int):=by push_cast;rfl
  rw [e,Int.toNat_natCast,Int.toNat_natCast,e2]
  have hb:n.testBit m=decide (n/2^m%2=1):=Nat.testBit_eq_decide_div_mod_eq
  constructor
  · intro h h3
    have h4:n &&& 2^m=0:=by omega
    have h5:(n &&& 2^m).testBit m=(n.testBit m&&(2^m).testBit m):=Nat.testBit_and ..
    rw [h4,Nat.zero_testBit,Nat.testBit_two_pow_self,Bool.and_true,hb,decide_eq_true (by exact_mod_cast h3)] at h5
    cases h5
  · intro h3
    have h6:¬ n/2^m%2=1:=fun h7=>h3 (by exact_mod_cast h7)
    have h4:n &&& 2^m=0:=Nat.eq_of_testBit_eq fun k=>by
      rw [Nat.testBit_and,Nat.zero_testBit,Nat.testBit_two_pow]
      by_cases hk:m=k
      · subst hk;rw [hb,decide_eq_false h6];rfl
      · rw [decide_eq_false hk,Bool.and_false]
    rw [h4];rfl
theorem Xk {m:Nat} (ho:0≤o) (h:o/2^m%2=1):(2:Int)^m≤o:=by
  refine Classical.byContradiction fun h2=>?_
  rw [Int.ediv_eq_zero_of_lt ho (by omega)] at h
  cases h
theorem Gw (hok:YOk y) (ho:0≤out∧out≤4095):∃ (mu:List Nat) (me:Int),mustV y.pl y.ps y.xs out y.pe y.limit=(toI mu,me)∧mu.length≤288∧(me=0∧leavB y out=true∧mu=mustL y.pl.toNat y.limit.toNat y.ps y.xs out y.pe∨me=3∧leavB y out=false∧mu=[]):=by
  have h:=hok.leave ho
  have hp:((y.pl.toNat:Nat):Int)=y.pl:=by have:=hok.V.size;omega
  have hT:((y.limit.toNat:Nat):Int)=y.limit:=by have:=(jH h).2.2.2;omega
  have h':cH ((y.pl.toNat:Nat):Int) y.ps y.xs out y.pe ((y.limit.toNat:Nat):Int)=0:=by rw [hp,hT];exact h
  obtain ⟨mu,me,h1,h2,h3⟩:=Un h'
  rw [hp,hT] at h1
  refine ⟨mu,me,h1,h2,?_⟩
  rcases h3 with ⟨h4,h5,h6⟩|⟨h4,h5,h6⟩
  · exact .inl ⟨h4,decide_eq_true h5,h6⟩
  · exact .inr ⟨h4,decide_eq_false h5,h6⟩
end
theorem Ey (y:Yr) (l:List Tsk) (LA:Option Addr) (lc:Nat) (day:Int) (w:World) (hy:YIn w noF y) (hyb:YBd y) (hl:InS w noF 3 LA l.length (cM l)) (hln:l.length≤9223372036854775807) (hlc:l.length≤lc) :
    Calls Tryz.prog 3 [.agg [.int .i64 y.days,.int .i64 y.pl,.slice y.PA y.ps.length y.pc,.slice y.XA y.xs.length y.xc,.slice y.BA y.pe.length y.bc,.int .i64 y.limit,.bool y.help,.slice y.QA y.prs.length y.qc,.slice y.VA y.us.length y.vc,.int .i64 y.crew,.slice y.SA y.sps.length y.sc].toArray,.slice LA l.length lc,.int .i64 day].toArray w (Ret (fun v w'=>v = .bool true∧St w noF [] w')):=by
 have husn:=hyb.usn
 refine enter Tryz.func3 rfl Tryz.ntmps3 rfl (fun a H=>?_)
 have S:=St.start w
 refine seq_list fun K1 k1=>?_
 refine aO H rfl S G G ?_;clear H a S;intro b3 _ a hb3 hbw3 S H
 refine ls 1 H<|sr 1 rfl<|sE ?_;clear H a;intro a H
 refine k1 _ _ ?_;clear k1 K1
 refine wp_seq_k fun K2 k2=>?_
 replace H:=H.keep [1,2,3] rfl
 refine seq_list fun K3 k3=>?_
 refine ls 1 H<|sd ((aC fA hY rfl S (i:=0) G G))<|sE ?_;clear H a;intro a H
 refine aA H G G Tryz.func4 G G (Ep y _ (hy.now S) hyb) ?_;clear H a
 rintro _ _ a ⟨bL,rfl,hbL,S2⟩ H
 replace S:=S.call S2;clear S2
 refine ls 1 H<|sr 1 rfl<|sE ?_;clear H a;intro a H
 apply cG (i:=2) (g:=24) (t:=28) (b:=false) 4 H S G G (by kernel_rfl) (by kernel_rfl) G G
 case h1=>
  intro hg3
  have hq3:=hg3;try simp only [o1,o2,o3,o4,o5,o6,o7,o8,o9,oa] at hq3
  refine ls 2 H<|sy hg3<|sd ((aC fA hY rfl S (i:=0) G G))<|sy hg3<|sr 1 rfl<|sE ?_;intro a H
  refine dC H G G (by assumption) ?_
  refine aA H G G Tryz.func5 G G (Pu y l LA lc _ (hy.now S) hyb (hl.now S) hln) ?_
  rintro _ _ a ⟨rfl,S2⟩ H
  replace S:=S.call S2;clear S2
  refine ls 1 H<|sy hg3<|sr 1 rfl<|sE ?_;intro a H
  exact wpList_nil ⟨H.strip 4 G G,(S.sel [0] G G)⟩
 clear H a S;intro a _ H S
 refine ls 16 H<|so G G G<|sr 1 rfl<|sg 3 8 30 33 false G G (fun hg9=>by
     have hq9:=hg9;try simp only [o1,o2,o3,o4,o5,o6,o7,o8,o9,oa] at hq9
     exact sy hg9<|sr 1 rfl<|sy hg9<|sL dE rfl<|sy hg9<|sr 1 rfl<|sz 3 G G G)<|so G G G<|sr 1 rfl<|sg 2 13 35 37 false G G (fun hg14=>by
     have hq14:=hg14;try simp only [o1,o2,o3,o4,o5,o6,o7,o8,o9,oa] at hq14
     exact sy hg14<|sr 1 rfl<|sy hg14<|sr 1 rfl<|sz 2 G G G)<|so G G G<|sr 1 rfl<|sg 4 17 39 43 false G G (fun hg18=>by
     have hq18:=hg18;try simp only [o1,o2,o3,o4,o5,o6,o7,o8,o9,oa] at hq18
     exact sy hg18<|sr 1 rfl<|sy hg18<|sf dH rfl<|sy hg18<|sl S 0 aD G G G<|sy hg18<|sr 1 rfl<|sz 4 G G G)<|so G G G<|sE ?_;clear H a;intro a H
 refine k3 _ _ ?_;clear k3 K3
 refine cond_ H rfl (fun hc1=>?_) (fun hc1=>?_)
 ·skip
  try simp only [o1,o2,o3,o4,o5,o6,o7,o8,o9,oa] at hc1
  replace H:=H.keep [] rfl
  refine seq_list fun K4 k4=>?_
  refine aA H G G Tryz.func6 G G (lJ _) ?_;clear H a
  rintro _ _ a ⟨rfl,S2⟩ H
  replace S:=S.call S2;clear S2
  refine ls 1 H<|sr 1 rfl<|sE ?_;clear H a;intro a H
  refine k4 _ _ ?_;clear k4 K4
  refine wp_ret ?_
  refine ret1 (fn:=Tryz.f3) rfl H rfl ?_
  exact ⟨rfl,(S.sel [] G G)⟩
 try simp only [o1,o2,o3,o4,o5,o6,o7,o8,o9,oa] at hc1
 obtain ⟨⟨⟨⟨hb1,hte⟩,hl30⟩,hd0⟩,hd1⟩:=hc1
 have htk0:=pM hte
 have hok:=pL htk0.1
 have hdy:=hok.days
 have hD:((y.days.toNat:Nat):Int)=y.days:=by omega
 have hmx:maxLen=9223372036854775807:=rfl
 obtain ⟨d,rfl⟩:∃ d:Nat,day=d:=⟨day.toNat,by omega⟩
 have hdn:d<y.days.toNat:=by omega
 have hob:=sM (l:=l) (d:=d) hok (Nat.le_refl _)
 refine wp_skip ?_
 refine k2 _ _ ?_
 replace H:=H.keep [1,2,3] rfl
 refine seq_list fun K5 k5=>?_
 refine ls 2 H<|sd ((aC fA hY rfl S (i:=0) G G))<|sr 1 rfl<|sE ?_;clear H a;intro a H
 have hcl9:=eD (Cc y l LA lc _ (hy.now S) hyb (hl.now S) hln) (fun _ _ h=>Ck hte h)
 refine aA H G G Tryz.func7 G G hcl9 ?_;clear H a hcl9
 rintro _ _ a ⟨rfl,S2⟩ H
 replace S:=S.call S2;clear S2
 refine ls 7 H<|sr 7 rfl<|sE ?_;clear H a;intro a H
 refine k5 _ _ ?_;clear k5 K5
 replace H:=H.keep [1,2,3,8,9] rfl
 refine seq_list fun K6 k6=>?_
 refine ls 2 H<|sd ((aC fA hY rfl S (i:=0) G G))<|sr 1 rfl<|sE ?_;clear H a;intro a H
 have hcl9:=eD (Ws y l LA lc _ (hy.now S) hyb (hl.now S) (by first|omega|(rw [List.length_take];omega))) (fun _ _ h=>Uo hte h)
 refine aA H G G Tryz.func8 G G hcl9 ?_;clear H a hcl9
 rintro _ _ a ⟨A6,c6,rfl,S2⟩ H
 replace S:=S.call S2;clear S2
 refine ls 5 H<|sr 5 rfl<|sE ?_;clear H a;intro a H
 refine k6 _ _ ?_;clear k6 K6
 refine wp_seq_k fun K7 k7=>?_
 replace H:=H.keep [1,2,3,8,9,10,11] rfl
 refine sS H fun K8 k8=>sr 3 rfl<|sg 2 2 61 63 false G G (fun hg3=>by
     have hq3:=hg3;try simp only [o1,o2,o3,o4,o5,o6,o7,o8,o9,oa] at hq3
     exact sy hg3<|sr 1 rfl<|sy hg3<|sr 1 rfl<|sz 2 G G G)<|so G G G<|sr 1 rfl<|sg 5 6 65 70 false G G (fun hg7=>by
     have hq7:=hg7;try simp only [o1,o2,o3,o4,o5,o6,o7,o8,o9,oa] at hq7
     exact sy hg7<|sr 1 rfl<|sy hg7<|sL aT rfl<|sy hg7<|sf dH rfl<|sy hg7<|sl S 1 aD G G G<|sy hg7<|sr 1 rfl<|sz 5 G G G)<|so G G G<|sE ?_;clear H a;intro a H
 refine k8 _ ?_;clear k8 K8
 refine cond_ H rfl (fun hc2=>?_) (fun hc2=>?_)
 ·skip
  try simp only [o1,o2,o3,o4,o5,o6,o7,o8,o9,oa] at hc2
  exfalso;simp only [not_true_eq_false,false_or] at hc2;omega
 try simp only [o1,o2,o3,o4,o5,o6,o7,o8,o9,oa] at hc2
 refine wp_skip ?_
 refine k7 _ _ ?_
 refine wp_seq_k fun K9 k9=>?_
 replace H:=H.keep [1,2,3,8,10] rfl
 refine sS H fun K10 k10=>sr 2 rfl<|sE ?_;clear H a;intro a H
 refine k10 _ ?_;clear k10 K10
 refine condN H rfl (fun hc3=>?_) (fun hc3=>?_)
 ·skip
  refine seq_list fun K11 k11=>?_
  refine aA H G G Tryz.func6 G G (lJ _) ?_;clear H a
  rintro _ _ a ⟨rfl,S2⟩ H
  replace S:=S.call S2;clear S2
  refine ls 1 H<|sr 1 rfl<|sE ?_;clear H a;intro a H
  refine k11 _ _ ?_;clear k11 K11
  refine wp_ret ?_
  refine ret1 (fn:=Tryz.f3) rfl H rfl ?_
  exact ⟨rfl,(S.sel [] G G)⟩
 have hR:Right y l:=rM hc3
 refine wp_skip ?_
 refine k9 _ _ ?_
 refine wp_seq_k fun K12 k12=>?_
 refine sS H fun K13 k13=>sr 1 rfl<|sE ?_;clear H a;intro a H
 refine k13 _ ?_;clear k13 K13
 refine wp_block ?_
 refine loop_st (X:=Nat) (R0:=_) [1,2,3,10] H rfl (fun i=>[(12,.int .i64 (i:Int))]) (fun i=>[]) (fun g i=>i≤y.us.length∧g+i=y.us.length) (y.us.length) 0 ?_ (S.sel [0,1] G G) (H.keep [12,1,2,3,10] rfl) ?_
 · exact ⟨by omega,by omega⟩
 clear H S a
 intro g1 x1 a w1 hp S H K14 k14
 obtain ⟨i,rfl⟩:∃ y,y=x1:=⟨_,rfl⟩
 refine wp_seq_k fun K15 k15=>?_
 refine sS H fun K16 k16=>sr 1 rfl<|sf cP rfl<|sl S 1 dT G G G<|sL eM rfl<|sr 1 rfl<|sE ?_;clear H a;intro a H
 refine k16 _ ?_;clear k16 K16
 refine condL H rfl (fun hc4=>?_) (fun hc4=>?_)
 ·skip
  refine wp_skip ?_
  refine k15 _ _ ?_
  refine wp_seq_k fun K17 k17=>?_
  refine wp_block ?_
  have hi:i<y.us.length:=by omega
  have hmm:=(jJ hok.V (iT.1 (hok.un i hi))).1
  have hpw:=Qh hmm
  replace H:=H.keep [1,2,3,10,12] rfl
  refine sS H fun K18 k18=>sf cP rfl<|sl S 1 dT G G G<|sr 1 rfl<|si eM gN G G (hy.us.adr (by omega)) (by omega)<|sp iL rfl<|slm aD rfl (hy.us.rd S (by omega) (by omega))<|sd (jB Tryz.underlying3 Tryz.underlying40 rfl (by first|omega|exact IntWalk.i64_in _ (by omega)|exact IntWalk.u64_in _ (by omega)))<|sd (eJ G G (by omega) (by omega) (by unfold i64ok;omega))<|sr 1 rfl<|sE ?_;clear H a;intro a H
  refine k18 _ ?_;clear k18 K18
  refine wp_seq_k fun K19 k19=>?_
  replace H:=H.keep [1,2,3,10,12,13] rfl
  refine sS H fun K20 k20=>sr 2 rfl<|si aT bA G G (ownM.adr S (i:=0) rfl (by omega)) (by omega)<|slm aD rfl (ownM.rd S (i:=0) (k:=d) (j:=0) rfl (by omega) (by omega))<|sr 1 rfl<|sd (wX G G (by omega) (by omega))<|sr 1 rfl<|sE ?_;clear H a;intro a H
  refine k20 _ ?_;clear k20 K20
  refine condN H rfl (fun hc5=>?_) (fun hc5=>?_)
  ·skip
   have hbt:(outY y l d y.us.length)/2^(y.us.getD i Unt.zero).mach.toNat%2=1:=by
     refine Classical.byContradiction fun h9=>hc5 ((Cl hob.1).2 h9)
   have hge:=Xk hob.1 hbt
   replace H:=H.keep [1,2,3,10,12,13] rfl
   replace S:=S.drew
   refine seq_wq [(0,true),(1,true),(2,true),(3,true),(4,true),(5,true),(6,true),(7,true),(8,true),(9,true),(10,true),(11,true),(12,false),(13,true),(14,true),(15,true),(16,true),(17,true)] (by kernel_rfl) (by kernel_rfl) (S.sel [0,1] G G) fun K21 k21=>?_
   refine qF H<|qd rfl (fun _ S=>(aB eB rfl))<|qd rfl (fun _ S=>(aC cA cZ rfl S (i:=1) G G))<|qr 2 rfl<|qd rfl (fun _ S=>bC aT bA G G (ownM.adr S (i:=0) rfl (by omega)) (by omega))<|qd rfl (fun _ S=>aE aD rfl (ownM.rd S (i:=0) (k:=d) (j:=0) rfl (by omega) (by omega)))<|qr 1 rfl<|qd rfl (fun _ S=>aU G G (by unfold i64ok;omega))<|qd rfl (fun _ S=>(aB iK rfl))<|qd rfl (fun _ S=>aE bM rfl (boxM.rd S (i:=1) G G))<|qd rfl (fun _ S=>(aB jZ rfl))<|qd rfl (fun _ S=>aE aD rfl (boxM.rd S (i:=1) G G))<|qK ?_;clear H a;intro a H
   refine aS rfl ?_
   refine aA H G G Tryz.func9 G G (xC y.pl y.ps y.PA y.pc y.xs y.XA y.xc ((outY y l d y.us.length)-1*2^(y.us.getD i Unt.zero).mach.toNat) y.pe y.BA y.bc y.limit _ (hy.ps.now S) hyb.psn (hy.xs.now S) hyb.xsn (hy.pe.now S) hyb.pen) ?_;clear H a
   rintro _ _ a ⟨A7,c7,rfl,S2⟩ H
   replace S:=S.call S2;clear S2
   obtain ⟨mu,me,hmu,hml,hmc⟩:=Gw (out:=((outY y l d y.us.length)-1*2^(y.us.getD i Unt.zero).mach.toNat)) hok (by omega)
   simp only [hmu] at H S
   refine wpList_nil (And.intro (S.sel [1,2] G G) ?_)
   refine qF H<|qr 5 rfl<|qK ?_;clear H a;intro a H
   refine bF ?_
   refine k21 _ _ ?_
   clear k21 K21
   refine wp_seq_k fun K22 k22=>?_
   rcases hmc with ⟨rfl,hmL,hmul⟩|⟨rfl,_,_⟩
   ·skip
    have hnm:nmB (toI mu) (y.us.getD i Unt.zero).mach=false:=Po (oC hR hdn) (by omega) (by rw [←Int.one_mul (2^_)];exact hmul)
    replace H:=H.keep [1,2,3,10,12,14,15] rfl
    refine seq_list fun K23 k23=>?_
    refine ls 10 H<|sr 1 rfl<|sd ((eI G G).to (congrArg Value.bool (decide_eq_true (by decide))))<|sr 1 rfl<|sy rfl<|sr 1 rfl<|sy rfl<|sf cP rfl<|sy rfl<|sl S 2 dT G G G<|sy rfl<|sr 1 rfl<|sy rfl<|si eM gN G G (hy.us.adr (by omega)) (by omega)<|sy rfl<|sp iL rfl<|sy rfl<|slm aD rfl (hy.us.rd S (by omega) (by omega))<|sE ?_;clear H a;intro a H
    refine aX H G G ?_
    refine aA H G G Tryz.func10 G G (qT (toI mu) A7 c7 (y.us.getD i Unt.zero).mach _ (ownM.inS S (i:=0) rfl) (by rw [mW];omega)) ?_;clear H a
    rintro _ _ a ⟨rfl,S2⟩ H
    replace S:=S.call S2;clear S2
    rw [hnm] at H
    refine ls 9 H<|sa G G G<|sr 1 rfl<|sy rfl<|sr 1 rfl<|sy rfl<|sd (kK G G G)<|sy rfl<|sr 1 rfl<|sn G G G<|sn G G G<|sy rfl<|sd ((aR G G G))<|so G G G<|sE ?_;clear H a;intro a H
    refine k23 _ _ ?_;clear k23 K23
    refine cond_ H rfl (fun hc6=>?_) (fun hc6=>?_)
    ·skip
     skip
     cases hc6
    skip
    refine wp_skip ?_
    refine k22 _ _ ?_
    refine wp_exit ?_
    refine k17 _ _ ?_
    replace H:=H.keep [1,2,3,10,12] rfl
    refine sO H<|sr 1 rfl<|sd (aK G G (by unfold i64ok;omega))<|sr 1 rfl<|sE ?_;clear H a;intro a H
    exact k14 (g1-1) (i+1) a _ (by omega) (⟨by omega,by omega⟩) (S.sel [1,2] G G) (H.keep [12,1,2,3,10] rfl)
   skip
   replace H:=H.keep [1,2,3,10,12,14,15] rfl
   refine seq_list fun K25 k25=>?_
   refine ls 20 H<|sr 1 rfl<|sd ((eI G G).to (congrArg Value.bool (decide_eq_false (by decide))))<|sr 1 rfl<|sn G G G<|sn G G G<|sn G G G<|sn G G G<|sn G G G<|sn G G G<|sn G G G<|sn G G G<|sd ((aR G G G))<|sr 1 rfl<|sy rfl<|sr 1 rfl<|sy rfl<|sd (Hl G G (by decide))<|sy rfl<|sr 1 rfl<|sy rfl<|sr 1 rfl<|sy rfl<|sd (kK G G G)<|sy rfl<|sa G G G<|so G G G<|sE ?_;clear H a;intro a H
   refine k25 _ _ ?_;clear k25 K25
   refine cond_ H rfl (fun hc7=>?_) (fun hc7=>?_)
   ·skip
    skip
    cases hc7
   skip
   refine wp_skip ?_
   refine k22 _ _ ?_
   refine wp_exit ?_
   refine k17 _ _ ?_
   replace H:=H.keep [1,2,3,10,12] rfl
   refine sO H<|sr 1 rfl<|sd (aK G G (by unfold i64ok;omega))<|sr 1 rfl<|sE ?_;clear H a;intro a H
   exact k14 (g1-1) (i+1) a _ (by omega) (⟨by omega,by omega⟩) (S.sel [1,2] G G) (H.keep [12,1,2,3,10] rfl)
  have hbt:¬ (outY y l d y.us.length)/2^(y.us.getD i Unt.zero).mach.toNat%2=1:=(Cl hob.1).1 hc5
  have hr:=Pn hok hi hbt
  have htp:=Wz hte (by omega) hi hd1 hr
  refine wp_skip ?_
  refine k19 _ _ ?_
  replace H:=H.keep [1,2,3,10,12] rfl
  replace S:=S.drew
  refine seq_wq [(0,true),(1,true),(2,true),(3,true),(4,true),(5,true),(6,true),(7,true),(8,true),(9,true),(10,false),(11,true),(12,true),(13,true),(14,true),(15,true)] (by kernel_rfl) (by kernel_rfl) (S.sel [0,1] G G) fun K27 k27=>?_
  refine qF H<|qd rfl (fun _ S=>(aB eB rfl))<|qd rfl (fun _ S=>(aC cA cZ rfl S (i:=1) G G))<|qr 2 rfl<|qd rfl (fun _ S=>bC aT bA G G (ownM.adr S (i:=0) rfl (by omega)) (by omega))<|qd rfl (fun _ S=>aE aD rfl (ownM.rd S (i:=0) (k:=d) (j:=0) rfl (by omega) (by omega)))<|qd rfl (fun _ S=>(aB iK rfl))<|qd rfl (fun _ S=>aE bM rfl (boxM.rd S (i:=1) G G))<|qd rfl (fun _ S=>(aB jZ rfl))<|qd rfl (fun _ S=>aE aD rfl (boxM.rd S (i:=1) G G))<|qK ?_;clear H a;intro a H
  refine aS rfl ?_
  refine aA H G G Tryz.func9 G G (xC y.pl y.ps y.PA y.pc y.xs y.XA y.xc (outY y l d y.us.length) y.pe y.BA y.bc y.limit _ (hy.ps.now S) hyb.psn (hy.xs.now S) hyb.xsn (hy.pe.now S) hyb.pen) ?_;clear H a
  rintro _ _ a ⟨A7,c7,rfl,S2⟩ H
  replace S:=S.call S2;clear S2
  obtain ⟨mu,me,hmu,hml,hmc⟩:=Gw (out:=(outY y l d y.us.length)) hok (hob)
  obtain ⟨rfl,_,hmul⟩:=hmc.resolve_right (fun h9=>by rw [oC hR hdn] at h9;cases h9.2.1)
  simp only [hmu] at H S
  refine wpList_nil (And.intro (S.sel [1,2] G G) ?_)
  refine qF H<|qr 5 rfl<|qK ?_;clear H a;intro a H
  refine bF ?_
  refine k27 _ _ ?_
  clear k27 K27
  refine wp_seq_k fun K28 k28=>?_
  replace H:=H.keep [1,2,3,10,12,16,17] rfl
  refine sS H fun K29 k29=>sr 1 rfl<|sd (kK G G G)<|sE ?_;clear H a;intro a H
  refine k29 _ ?_;clear k29 K29
  refine cond_ H rfl (fun hc8=>?_) (fun hc8=>?_)
  ·skip
   skip
   cases hc8
  skip
  refine wp_skip ?_
  refine k28 _ _ ?_
  refine seq_list fun K30 k30=>?_
  refine ls 4 H<|sr 3 rfl<|sd (aN Yp G G)<|sE ?_;clear H a;intro a H
  refine aA H G G Tryz.func11 G G (En l LA lc (d:Int) (i:Int) _ (hl.now S) hln hlc (by omega) (fun q hq=>(yP (htk0.2.2 q hq)).2.2.1)) ?_;clear H a
  rintro _ _ a ⟨A9,c9,rfl,S2⟩ H
  replace S:=S.call S2;clear S2
  refine ls 1 H<|sr 1 rfl<|sE ?_;clear H a;intro a H
  refine k30 _ _ ?_;clear k30 K30
  replace H:=H.keep [1,2,3,10,12,16,18] rfl
  refine seq_list fun K31 k31=>?_
  refine ls 2 H<|sd ((aC fA hY rfl S (i:=3) G G))<|sr 1 rfl<|sE ?_;clear H a;intro a H
  have hcl9:=eD (Cc y (putT l (⟨(d:Int),(i:Int),1⟩:Tsk)) A9 c9 _ (hy.now S) hyb (ownM.inS S (i:=0) rfl) (by rw [Gl];omega)) (fun _ _ h=>Ck htp h)
  refine aA H G G Tryz.func7 G G hcl9 ?_;clear H a hcl9
  rintro _ _ a ⟨rfl,S2⟩ H
  replace S:=S.call S2;clear S2
  refine ls 7 H<|sr 7 rfl<|sE ?_;clear H a;intro a H
  refine k31 _ _ ?_;clear k31 K31
  cases hnm:nmB (toI mu) (y.us.getD i Unt.zero).mach
  ·skip
   skip
   replace H:=H.keep [1,2,3,10,12,16,20,21] rfl
   refine seq_list fun K32 k32=>?_
   refine ls 10 H<|sr 1 rfl<|sd (kK G G G)<|sr 1 rfl<|sy rfl<|sr 1 rfl<|sy rfl<|sf cP rfl<|sy rfl<|sl S 3 dT G G G<|sy rfl<|sr 1 rfl<|sy rfl<|si eM gN G G (hy.us.adr (by omega)) (by omega)<|sy rfl<|sp iL rfl<|sy rfl<|slm aD rfl (hy.us.rd S (by omega) (by omega))<|sE ?_;clear H a;intro a H
   refine aX H G G ?_
   refine aA H G G Tryz.func10 G G (qT (toI mu) A7 c7 (y.us.getD i Unt.zero).mach _ (ownM.inS S (i:=1) rfl) (by rw [mW];omega)) ?_;clear H a
   rintro _ _ a ⟨rfl,S2⟩ H
   replace S:=S.call S2;clear S2
   rw [hnm] at H
   refine ls 5 H<|sy rfl<|sr 1 rfl<|sn G G G<|sn G G G<|sy rfl<|sd ((aR G G G))<|so G G G<|sE ?_;clear H a;intro a H
   refine k32 _ _ ?_;clear k32 K32
   refine cond_ H rfl (fun hc9=>?_) (fun hc9=>?_)
   ·skip
    skip
    cases hc9
   skip
   refine wp_skip ?_
   refine k17 _ _ ?_
   replace H:=H.keep [1,2,3,10,12] rfl
   refine sO H<|sr 1 rfl<|sd (aK G G (by unfold i64ok;omega))<|sr 1 rfl<|sE ?_;clear H a;intro a H
   exact k14 (g1-1) (i+1) a _ (by omega) (⟨by omega,by omega⟩) (S.sel [2,3] G G) (H.keep [12,1,2,3,10] rfl)
  have hne:=Pp hok hR hi hdn hr hmul hnm
  replace H:=H.keep [1,2,3,10,12,16,20,21] rfl
  refine seq_list fun K34 k34=>?_
  refine ls 10 H<|sr 1 rfl<|sd (kK G G G)<|sr 1 rfl<|sy rfl<|sr 1 rfl<|sy rfl<|sf cP rfl<|sy rfl<|sl S 3 dT G G G<|sy rfl<|sr 1 rfl<|sy rfl<|si eM gN G G (hy.us.adr (by omega)) (by omega)<|sy rfl<|sp iL rfl<|sy rfl<|slm aD rfl (hy.us.rd S (by omega) (by omega))<|sE ?_;clear H a;intro a H
  refine aX H G G ?_
  refine aA H G G Tryz.func10 G G (qT (toI mu) A7 c7 (y.us.getD i Unt.zero).mach _ (ownM.inS S (i:=1) rfl) (by rw [mW];omega)) ?_;clear H a
  rintro _ _ a ⟨rfl,S2⟩ H
  replace S:=S.call S2;clear S2
  rw [hnm] at H
  refine ls 5 H<|sy rfl<|sr 1 rfl<|sy rfl<|sr 1 rfl<|sy rfl<|sd ((eI G G).to (congrArg Value.bool (decide_eq_false hne)))<|sy rfl<|sa G G G<|so G G G<|sE ?_;clear H a;intro a H
  refine k34 _ _ ?_;clear k34 K34
  refine cond_ H rfl (fun hc10=>?_) (fun hc10=>?_)
  ·skip
   skip
   cases hc10
  skip
  refine wp_skip ?_
  refine k17 _ _ ?_
  replace H:=H.keep [1,2,3,10,12] rfl
  refine sO H<|sr 1 rfl<|sd (aK G G (by unfold i64ok;omega))<|sr 1 rfl<|sE ?_;clear H a;intro a H
  exact k14 (g1-1) (i+1) a _ (by omega) (⟨by omega,by omega⟩) (S.sel [2,3] G G) (H.keep [12,1,2,3,10] rfl)
 refine wp_exit ?_
 refine k12 _ _ ?_
 refine seq_list fun K36 k36=>?_
 refine aA H G G Tryz.func6 G G (lJ _) ?_;clear H a
 rintro _ _ a ⟨rfl,S2⟩ H
 replace S:=S.call S2;clear S2
 refine ls 1 H<|sr 1 rfl<|sE ?_;clear H a;intro a H
 refine k36 _ _ ?_;clear k36 K36
 refine wp_ret ?_
 refine ret1 (fn:=Tryz.f3) rfl H rfl ?_
 exact ⟨rfl,(S.sel [] G G)⟩
theorem vR {B:Nat} (x0n0 x0n1:Int) (x0l2:List Psg) (x0A2:Option Addr) (x0c2:Nat) (x0l3:List Int) (x0A3:Option Addr) (x0c3:Nat) (x0l4:List Int) (x0A4:Option Addr) (x0c4:Nat) (x0n5:Int) (x0b6:Bool) (x0l7:List Prm) (x0A7:Option Addr) (x0c7:Nat) (x0l8:List Unt) (x0A8:Option Addr) (x0c8:Nat) (x0n9:Int) (x0l10:List Spr) (x0A10:Option Addr) (x0c10:Nat) (x1l0:List Tsk) (x1A0:Option Addr) (x1c0:Nat) (x2n0:Int) (W:World) (f02:InS W noF 7 x0A2 x0l2.length (pcell x0l2)) (g02:x0l2.length*56≤140737488351232) (k02:x0l2.length≤x0c2) (f03:InS W noF 1 x0A3 x0l3.length (icl x0l3)) (g03:x0l3.length*8≤140737488351232) (k03:x0l3.length≤x0c3) (f04:InS W noF 1 x0A4 x0l4.length (icl x0l4)) (g04:x0l4.length*8≤140737488351232) (k04:x0l4.length≤x0c4) (f07:InS W noF 5 x0A7 x0l7.length (nW x0l7)) (g07:x0l7.length*40≤140737488351232) (k07:x0l7.length≤x0c7) (f08:InS W noF 12 x0A8 x0l8.length (vcell x0l8)) (g08:x0l8.length*128≤140737488351232) (k08:x0l8.length≤x0c8) (hD:∀ k,k<x0l8.length→InS W noF 2 (x0l8.getD k Unt.zero).RA (x0l8.getD k Unt.zero).rates.length (scell (x0l8.getD k Unt.zero).rates)∧(x0l8.getD k Unt.zero).rates.length*16≤140737488351232∧(x0l8.getD k Unt.zero).rates.length≤B∧(x0l8.getD k Unt.zero).rates.length≤(x0l8.getD k Unt.zero).rc∧InS W noF 6 (x0l8.getD k Unt.zero).UA (x0l8.getD k Unt.zero).uses.length (ucell (x0l8.getD k Unt.zero).uses)∧(x0l8.getD k Unt.zero).uses.length*48≤140737488351232∧(x0l8.getD k Unt.zero).uses.length≤B∧(x0l8.getD k Unt.zero).uses.length≤(x0l8.getD k Unt.zero).uc) (f010:InS W noF 3 x0A10 x0l10.length (uQ x0l10)) (g010:x0l10.length*24≤140737488351232) (k010:x0l10.length≤x0c10) (f10:InS W noF 3 x1A0 x1l0.length (cM x1l0)) (g10:x1l0.length*24≤140737488351232) (k10:x1l0.length≤x1c0) :
    Calls Tryz.prog 3 [.agg [.int .i64 x0n0,.int .i64 x0n1,.slice x0A2 x0l2.length x0c2,.slice x0A3 x0l3.length x0c3,.slice x0A4 x0l4.length x0c4,.int .i64 x0n5,.bool x0b6,.slice x0A7 x0l7.length x0c7,.slice x0A8 x0l8.length x0c8,.int .i64 x0n9,.slice x0A10 x0l10.length x0c10].toArray,.slice x1A0 x1l0.length x1c0,.int .i64 x2n0].toArray W (Ret fun v w'=>v = .bool true∧St W noF [] w'):=Ey (⟨x0n0,x0n1,x0l2,x0A2,x0c2,x0l3,x0A3,x0c3,x0l4,x0A4,x0c4,x0n5,x0b6,x0l7,x0A7,x0c7,x0l8,x0A8,x0c8,x0n9,x0l10,x0A10,x0c10⟩:Yr) x1l0 x1A0 x1c0 x2n0 W (⟨f02,f03,f04,f07,f08,f010,fun k hk=>(hD k hk).1,fun k hk=>(hD k hk).2.2.2.2.1⟩:YIn W noF (⟨x0n0,x0n1,x0l2,x0A2,x0c2,x0l3,x0A3,x0c3,x0l4,x0A4,x0c4,x0n5,x0b6,x0l7,x0A7,x0c7,x0l8,x0A8,x0c8,x0n9,x0l10,x0A10,x0c10⟩:Yr)) (⟨g02,g03,g04,g07,(show x0l8.length*120≤140737488351232 by omega),g010,fun k hk=>(hD k hk).2.1,fun k hk=>(hD k hk).2.2.2.2.2.1,fun k hk=>(hD k hk).2.2.2.2.2.2.2⟩:YBd (⟨x0n0,x0n1,x0l2,x0A2,x0c2,x0l3,x0A3,x0c3,x0l4,x0A4,x0c4,x0n5,x0b6,x0l7,x0A7,x0c7,x0l8,x0A8,x0c8,x0n9,x0l10,x0A10,x0c10⟩:Yr)) f10 (by omega) k10
end
end Go.Proofs.YtoekeohiokcefaaGreat
