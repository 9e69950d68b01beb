/- Part 4 of the proof. -/
import Derived.Test.YtinghmelkmblmaaGreatQbc
namespace Go.Proofs.YtinghmelkmblmaaGreat
open Go.RowKit
set_option linter.unusedVariables false
set_option linter.unusedSimpArgs false
set_option maxRecDepth 100000
set_option maxHeartbeats 4000000
section
theorem Ct {sz:Nat} {vs:List Value} (h:∀ j,j<sz→(vs.getD j undef).oneCell'=true):∀ k j,k<1→j<sz→(([vs].getD k []).getD j undef).oneCell'=true:=by
  intro k j hk hj
  have e:k=0:=by omega
  subst e
  exact h j hj
theorem Gc {k sz:Nat} {cell:Nat→Nat→Value} {vs:List Value} (h:∀ j,j<sz→vs.getD j undef=cell k j):∀ q j,q<k+1→j<sz→capp k cell (fun k' j=>([vs].getD k' []).getD j undef) q j=cell q j:=by
  intro q j hq hj
  unfold capp
  by_cases hc:q<k
  · rw [if_pos hc]
  · rw [if_neg hc]
    obtain rfl:q=k:=by omega
    rw [←h j hj]
    simp
theorem Og {k q j:Nat} (hj:j<1):cput (fun q _ => .int .i64 (if q<k then -1 else 0)) k 0 (.int .i64 (-1)) q j = .int .i64 (if q<k+1 then -1 else 0):=by
  have:j=0:=by omega
  subst this
  unfold cput
  by_cases e:q=k
  · subst e;rw [if_pos ⟨rfl,rfl⟩,if_pos (by omega)]
  · rw [if_neg (fun h=>e h.1)]
    dsimp only
    by_cases h:q<k
    · rw [if_pos h,if_pos (by omega)]
    · rw [if_neg h,if_neg (by omega)]
theorem Oh {x:Tsk} {vs:List Value} (h0:vs.getD 0 undef = .int .i64 x.day) (h1:vs.getD 1 undef = .int .i64 x.unit) (h2:vs.getD 2 undef = .int .i64 x.kind):∀ k j,k<1→j<3→([vs].getD k []).getD j undef=dX [x] k j:=fun k j hk hj=>by
  have:k=0:=by omega
  subst this
  match j,hj with
  | 0,_=>exact h0
  | 1,_=>exact h1
  | 2,_=>exact h2
theorem zE (l:List Tsk):∀ k j,k<l.length→j<3→(dX l k j).oneCell'=true:=fun k j _ _=>by
  unfold dX Tsk.cell
  split <;> rfl
theorem zF {l m:List Tsk}:∀ k j,k<l.length+m.length→j<3→capp l.length (dX l) (dX m) k j=dX (l++m) k j:=by
  intro k j hk hj
  unfold capp dX
  by_cases h:k<l.length
  · rw [if_pos h,List.getD_eq_getElem?_getD,List.getD_eq_getElem?_getD,List.getElem?_append_left h]
  · rw [if_neg h,List.getD_eq_getElem?_getD,List.getD_eq_getElem?_getD,List.getElem?_append_right (by omega)]
theorem wI (pl:Int) (ps:List Psg) (PA:Option Addr) (pc:Nat) (xs:List Int) (XA:Option Addr) (xc:Nat) (mm:Int) (js:List Jq) (JA:Option Addr) (jc:Nat) (AA:Nat→Option Addr) (ac:Nat→Nat) (nv:List Int) (NA:Option Addr) (nc:Nat) (cr un:Int) (st:List Int) (SA:Option Addr) (sc:Nat) (pe:List Int) (BA:Option Addr) (bc:Nat) (hlp:Bool) (T0:Int) (prs:List Prm) (QA:Option Addr) (qc:Nat) (w:World) (hps:InS w noF 7 PA ps.length (pcell ps)) (hps8:ps.length*56≤140737488351232) (hxs:InS w noF 1 XA xs.length (icl xs)) (hxs8:xs.length*8≤140737488351232) (hpe:InS w noF 1 BA pe.length (icl pe)) (hpe8:pe.length*8≤140737488351232) (hjs:InS w noF 3 JA js.length (gF js AA ac)) (hnv:InS w noF 1 NA nv.length (icl nv)) (haf:∀ k,k<js.length→InS w noF 1 (AA k) (js.getD k Jq.zero).after.length (icl (js.getD k Jq.zero).after)) (hjn:js.length≤9223372036854775807) (hnn:nv.length≤9223372036854775807) (han:∀ k,k<js.length→(js.getD k Jq.zero).after.length≤9223372036854775807) (hst:InS w noF 1 SA st.length (icl st)) (hsl:st.length=js.length) (hprs:InS w noF 5 QA prs.length (fB prs)) (hprn:prs.length≤9223372036854775807) (V:WkV mm js nv cr un) (hsb:∀ k,k<js.length→0≤st.getD k 0∧st.getD k 0≤24) (hpr6:prs.length≤6) :
    Calls Tryz.prog 11 [.agg [.int .i64 pl,.slice PA ps.length pc,.slice XA xs.length xc].toArray,.agg [.int .i64 mm,.slice JA js.length jc,.slice NA nv.length nc,.int .i64 cr,.int .i64 un].toArray,.slice SA st.length sc,.agg [.slice BA pe.length bc,.bool hlp,.int .i64 T0,.slice QA prs.length qc].toArray].toArray w (Ret (fun v w'=>∃ (QA2:Option Addr) (qc2:Nat) (RA:Nat→Option Addr) (rc:Nat→Nat) (VA:Option Addr) (vc:Nat) (LA:Option Addr) (lc:Nat),v = .tuple #[.agg [.int .i64 (calY un pl ps PA pc xs XA xc pe BA bc T0 hlp prs QA2 qc2 (calM js js.length) RA rc VA vc cr).days,.int .i64 (calY un pl ps PA pc xs XA xc pe BA bc T0 hlp prs QA2 qc2 (calM js js.length) RA rc VA vc cr).pl,.slice (calY un pl ps PA pc xs XA xc pe BA bc T0 hlp prs QA2 qc2 (calM js js.length) RA rc VA vc cr).PA (calY un pl ps PA pc xs XA xc pe BA bc T0 hlp prs QA2 qc2 (calM js js.length) RA rc VA vc cr).ps.length (calY un pl ps PA pc xs XA xc pe BA bc T0 hlp prs QA2 qc2 (calM js js.length) RA rc VA vc cr).pc,.slice (calY un pl ps PA pc xs XA xc pe BA bc T0 hlp prs QA2 qc2 (calM js js.length) RA rc VA vc cr).XA (calY un pl ps PA pc xs XA xc pe BA bc T0 hlp prs QA2 qc2 (calM js js.length) RA rc VA vc cr).xs.length (calY un pl ps PA pc xs XA xc pe BA bc T0 hlp prs QA2 qc2 (calM js js.length) RA rc VA vc cr).xc,.slice (calY un pl ps PA pc xs XA xc pe BA bc T0 hlp prs QA2 qc2 (calM js js.length) RA rc VA vc cr).BA (calY un pl ps PA pc xs XA xc pe BA bc T0 hlp prs QA2 qc2 (calM js js.length) RA rc VA vc cr).pe.length (calY un pl ps PA pc xs XA xc pe BA bc T0 hlp prs QA2 qc2 (calM js js.length) RA rc VA vc cr).bc,.int .i64 (calY un pl ps PA pc xs XA xc pe BA bc T0 hlp prs QA2 qc2 (calM js js.length) RA rc VA vc cr).limit,.bool (calY un pl ps PA pc xs XA xc pe BA bc T0 hlp prs QA2 qc2 (calM js js.length) RA rc VA vc cr).help,.slice (calY un pl ps PA pc xs XA xc pe BA bc T0 hlp prs QA2 qc2 (calM js js.length) RA rc VA vc cr).QA (calY un pl ps PA pc xs XA xc pe BA bc T0 hlp prs QA2 qc2 (calM js js.length) RA rc VA vc cr).prs.length (calY un pl ps PA pc xs XA xc pe BA bc T0 hlp prs QA2 qc2 (calM js js.length) RA rc VA vc cr).qc,.slice (calY un pl ps PA pc xs XA xc pe BA bc T0 hlp prs QA2 qc2 (calM js js.length) RA rc VA vc cr).VA (calY un pl ps PA pc xs XA xc pe BA bc T0 hlp prs QA2 qc2 (calM js js.length) RA rc VA vc cr).us.length (calY un pl ps PA pc xs XA xc pe BA bc T0 hlp prs QA2 qc2 (calM js js.length) RA rc VA vc cr).vc,.int .i64 (calY un pl ps PA pc xs XA xc pe BA bc T0 hlp prs QA2 qc2 (calM js js.length) RA rc VA vc cr).crew,.slice (calY un pl ps PA pc xs XA xc pe BA bc T0 hlp prs QA2 qc2 (calM js js.length) RA rc VA vc cr).SA (calY un pl ps PA pc xs XA xc pe BA bc T0 hlp prs QA2 qc2 (calM js js.length) RA rc VA vc cr).sps.length (calY un pl ps PA pc xs XA xc pe BA bc T0 hlp prs QA2 qc2 (calM js js.length) RA rc VA vc cr).sc].toArray,.slice LA (calL (calM js js.length) js st un.toNat).length lc,.bool (decide (taskE (calY un pl ps PA pc xs XA xc pe BA bc T0 hlp prs QA2 qc2 (calM js js.length) RA rc VA vc cr) (calL (calM js js.length) js st un.toNat)=0))]∧St w noF [ownM 98 5 QA2 (prs.map (calP un)).length qc2 (fB (prs.map (calP un))),ownM 58 12 VA (calUs (calM js js.length) RA rc).length vc (vcell (calUs (calM js js.length) RA rc)),ragM 88 2 (fun q=>q<(calUs (calM js js.length) RA rc).length) RA (fun _=>1) rc (fun _=>scell [(0,0)]),ownM 74 3 LA (calL (calM js js.length) js st un.toNat).length lc (dX (calL (calM js js.length) js st un.toNat))] w')):=by
 have hjl:=V.nj
 have hub:=V.unb
 have hmb:=V.mmb
 have hM:((mm.toNat:Nat):Int)=mm:=by omega
 refine enter Tryz.func11 rfl Tryz.ntmps11 rfl (fun a H=>?_)
 have S:=St.start w
 refine seq_list fun K1 k1=>?_
 refine aN H rfl S G G ?_;clear H a S;intro b4 _ a hb4 hbw4 S H
 refine aN H rfl S G G ?_;clear H a S;intro b5 _ a hb5 hbw5 S H
 refine aN H rfl S G G ?_;clear H a S;intro b7 _ a hb7 hbw7 S H
 refine aI H rfl S Bp ?_;clear H a S;intro b8 _ a hb8 hbw8 S H
 refine ls 2 H<|sr 2 rfl<|sE ?_;clear H a;intro a H
 refine k1 _ _ ?_;clear k1 K1
 replace H:=H.keep [2,4,5,7,8] rfl
 refine seq_list fun K2 k2=>?_
 refine ls 12 H<|sf eW rfl<|sl S 2 aE G G G<|sd ((aB eQ hX rfl S (i:=3) G G))<|sf Ly rfl<|sl S 1 bD G G G<|sf Ma rfl<|sl S 1 aE G G G<|sf Lz rfl<|sl S 1 jE G G G<|sf pR rfl<|sl S 2 aE G G G<|sd (aP Tw G G)<|sE ?_;clear H a;intro a H
 refine aI H rfl S Bp ?_;clear H a S;intro b11 _ a hb11 hbw11 S H
 refine aD H S (i:=0) G G G G gQ G G ?_
 clear H a S;intro _ a S H
 refine k2 _ _ ?_;clear k2 K2
 refine wp_seq_k fun K3 k3=>?_
 replace H:=H.keep [2,5,7,8,11] rfl
 refine sS H fun K4 k4=>sr 1 rfl<|sE ?_;clear H a;intro a H
 refine k4 _ ?_;clear k4 K4
 refine wp_block ?_
 replace S:=S.newNil 98 5 (fB (prs.map (calP un)))
 refine loop_st (X:=Nat×Option Addr×Nat) (R0:=_) [2,5,7,8,11] H rfl (fun ⟨k,A5,c5⟩=>[(12,.int .i64 (k:Int))]) (fun ⟨k,A5,c5⟩=>[boxM b11 43 [.int .i64 un,.int .i64 pl,.slice PA ps.length pc,.slice XA xs.length xc,.slice BA pe.length bc,.int .i64 T0,.bool hlp,.slice A5 k c5,.slice none 0 0,.int .i64 cr,.slice none 0 0],ownM 98 5 A5 k c5 (fB (prs.map (calP un)))]) (fun g ⟨k,A5,c5⟩=>k≤prs.length∧g+k=prs.length) (prs.length) (0,none,0) ?_ (S.sel [1,0,2,3,4,5] G G) (H.keep [12,2,5,7,8,11] rfl) ?_
 · exact ⟨by omega,by omega⟩
 clear H S a
 intro g1 x1 a w1 hp S H K5 k5
 obtain ⟨k,A5,c5⟩:=x1
 dsimp only at hp S H
 refine wp_seq_k fun K6 k6=>?_
 refine sS H fun K7 k7=>sr 1 rfl<|sf vD rfl<|sl S 3 oO G G G<|sL jR rfl<|sr 1 rfl<|sE ?_;clear H a;intro a H
 refine k7 _ ?_;clear k7 K7
 refine condL H rfl (fun hc1=>?_) (fun hc1=>?_)
 ·skip
  refine wp_skip ?_
  refine k6 _ _ ?_
  refine wp_seq_k fun K8 k8=>?_
  refine wp_block ?_
  replace H:=H.keep [2,5,7,8,11,12] rfl
  refine seq_list fun K9 k9=>?_
  refine ls 5 H<|sf vD rfl<|sl S 3 oO G G G<|sr 1 rfl<|si jR iU G G (hprs.adr (by omega)) (by omega)<|sd ((aV qY iU rfl S hprs (by omega) (by omega)))<|sE ?_;clear H a;intro a H
  refine aI H rfl S tS ?_;clear H a S;intro b13 _ a hb13 hbw13 S H
  refine aD H S (i:=0) G G G G iU G G ?_
  clear H a S;intro _ a S H
  refine k9 _ _ ?_;clear k9 K9
  have SR:=(S.sel [1,2,3,4,5,6] G G)
  refine meet_sr (X:=Unit) [2,5,7,8,11,12,13] H rfl (fun _z9=>[]) (fun _z9=>[boxM b13 98 [.int .i64 (prs.getD k Prm.zero).fr,.int .i64 (prs.getD k Prm.zero).to,.int .i64 0,.int .i64 (un-1),.bool (prs.getD k Prm.zero).helped]]) (fun _z9=>True) SR (fun K10 k10=>?_) ?_
  ·skip
   replace H:=H.keep [2,5,7,8,11,12,13] rfl
   replace S:=S.drew
   refine one_wt 999999 (.q 0 (.q 1 (.q 2 (.q 3 (.e 4 (.q 5 (.e 6 .nil))))))) (by kernel_rfl) (by kernel_rfl) (S.sel [1,2,3,4,5,6] G G) ?_
   refine aG H G G (fun _ S=>(aC eW rfl)) ?_;clear H a;intro a H
   refine aG H G G (fun _ S=>aH aE rfl (boxM.rd S (i:=4) G G)) ?_;clear H a;intro a H
   refine aG H G G (fun _ S=>aR G G (by unfold i64ok;omega)) ?_;clear H a;intro a H
   refine aG H G G (fun _ S=>(aC nN rfl)) ?_;clear H a;intro a H
   refine aM rfl ?_
   refine aD H S (i:=0) G G G G bA G G ?_
   clear H a S;intro _ a S H
   refine wpList_nil (And.intro (Or.inr (S.sel [1,2,3,4,5,6] G G)) ?_)
   refine aG H G G (fun _ S=>(aC lY rfl)) ?_;clear H a;intro a H
   refine aM rfl ?_
   refine aD H S (i:=0) G G G G bA G G ?_
   clear H a S;intro _ a S H
   refine wpList_nil (And.intro (Or.inr (S.sel [1,2,3,4,5,6] G G)) ?_)
   refine bC ?_
   exact k10 () a _ (trivial) (S.sel [0,1,2,3,4,5,6] G G) (H.keep [2,5,7,8,11,12,13] rfl)
  clear SR H S a
  intro xm a wm hp S H
  obtain ⟨_z9,rfl⟩:∃ y,y=xm:=⟨_,rfl⟩
  replace H:=H.keep [2,5,7,8,11,12,13] rfl
  refine one_list ?_
  refine ls 3 H<|sf pT rfl<|sl S 1 oO G G G<|sd ((aB qY iU rfl S (i:=0) G G))<|sE ?_;clear H a;intro a H
  refine aY H rfl S jR iU tS G G G G G G G G G ?_;clear H a S;intro A1 _ a hA1 S H
  refine cB H rfl S jR iU tS Tv G G (i:=3) G G G (ownM.inS S (i:=0) rfl) (Ct (fiveI G G G G G)) (by omega) (by omega) ?_;clear H a S;intro A2 c2 _ a S H
  replace S:=S.recell (i:=3) rfl (cell':=fB (prs.map (calP un))) (Gc (Sb (by omega) (fiveI G G G G G)))
  refine ls 1 H<|sf pT rfl<|sE ?_;clear H a;intro a H
  refine aD H S (i:=2) G G G G To G G ?_
  clear H a S;intro _ a S H
  refine k8 _ _ ?_
  replace H:=H.keep [2,5,7,8,11,12] rfl
  refine sO H<|sr 1 rfl<|sd (aK G G (by unfold i64ok;omega))<|sr 1 rfl<|sE ?_;clear H a;intro a H
  exact k5 (g1-1) (k+1,_,_) a _ (by omega) (⟨by omega,by omega⟩) (S.sel [2,3,4,5,6,7] G G) (H.keep [12,2,5,7,8,11] rfl)
 refine wp_exit ?_
 refine k3 _ _ ?_
 refine seq_list fun K14 k14=>?_
 refine ls 2 H<|sf jH rfl<|sl S 4 aE G G G<|sE ?_;clear H a;intro a H
 refine lS (n:=mm.toNat) H rfl S aS bA iC rG rfl (by decide) (by rw [hM];rfl) (by rw [hM];rfl) (by omega) (by omega) ?_;clear H a S;intro A3 _ a hA3 S H
 generalize A3=AU at S H
 replace S:=S.recell (i:=0) rfl (cell':=fun q _ => .int .i64 (if q<0 then -1 else 0)) (fun k9 j9 _ hj9=>by
   obtain rfl:j9=0:=by omega
   rfl)
 refine ls 1 H<|sr 1 rfl<|sE ?_;clear H a;intro a H
 refine k14 _ _ ?_;clear k14 K14
 refine wp_seq_k fun K15 k15=>?_
 refine sS H fun K16 k16=>sr 1 rfl<|sE ?_;clear H a;intro a H
 refine k16 _ ?_;clear k16 K16
 refine wp_block ?_
 obtain rfl:k=prs.length:=by omega
 refine loop_st (X:=Nat) (R0:=_) [2,5,8,11,14] H rfl (fun k=>[(15,.int .i64 (k:Int))]) (fun k=>[ownM 3 1 AU mm.toNat mm.toNat (fun q _ => .int .i64 (if q<k then -1 else 0))]) (fun g k=>k≤mm.toNat∧g+k=mm.toNat) (mm.toNat) 0 ?_ (S.sel [0,1,2,3,4,5,6] G G) (H.keep [15,2,5,8,11,14] rfl) ?_
 · exact ⟨by omega,by omega⟩
 clear H S a
 intro g2 x2 a w2 hp S H K17 k17
 obtain ⟨k,rfl⟩:∃ y,y=x2:=⟨_,rfl⟩
 refine wp_seq_k fun K18 k18=>?_
 refine sS H fun K19 k19=>sr 1 rfl<|sf jH rfl<|sl S 5 aE G G G<|sr 1 rfl<|sE ?_;clear H a;intro a H
 refine k19 _ ?_;clear k19 K19
 refine condL H rfl (fun hc2=>?_) (fun hc2=>?_)
 ·skip
  refine wp_skip ?_
  refine k18 _ _ ?_
  refine wp_seq_k fun K20 k20=>?_
  refine wp_block ?_
  refine one_list ?_
  refine ls 3 H<|sr 2 rfl<|si aS bA G G (ownM.adr S (i:=0) rfl (by omega)) (by omega)<|sE ?_;clear H a;intro a H
  refine cL H S (i:=0) (kk:=k) G G G (by omega) (by omega) bA rfl ?_
  clear H a S;intro _ a S H
  replace S:=S.recell (i:=0) rfl (cell':=fun q _ => .int .i64 (if q<k+1 then -1 else 0)) (fun k9 j9 _ hj9=>Og hj9)
  refine k20 _ _ ?_
  replace H:=H.keep [2,5,8,11,14,15] rfl
  refine sO H<|sr 1 rfl<|sd (aK G G (by unfold i64ok;omega))<|sr 1 rfl<|sE ?_;clear H a;intro a H
  exact k17 (g2-1) (k+1) a _ (by omega) (⟨by omega,by omega⟩) (S.sel [0,1,2,3,4,5,6] G G) (H.keep [15,2,5,8,11,14] rfl)
 refine wp_exit ?_
 refine k15 _ _ ?_
 refine wp_seq_k fun K23 k23=>?_
 refine sS H fun K24 k24=>sr 1 rfl<|sE ?_;clear H a;intro a H
 refine k24 _ ?_;clear k24 K24
 refine wp_block ?_
 replace S:=S.recell (i:=0) rfl (cell':=fun q _ => .int .i64 (posI [] (q:Int))) (fun k9 j9 hk9 _=>by rw [if_pos (by omega)];rfl)
 replace S:=S.newNil 58 12 (vcell (calUs [] (fun _=>none) (fun _=>0)))
 replace S:=ragM.none S 88 2 (fun _=>none) (fun _=>1) (fun _=>0) (fun _=>scell [(0,0)])
 refine loop_st (X:=Nat×List Int×Option Addr×Nat×(Nat→Option Addr)×(Nat→Nat)) (R0:=_) [2,5,8,11,14] H rfl (fun ⟨i,ms,A8,c8,RA,rc⟩=>[(16,.int .i64 (i:Int))]) (fun ⟨i,ms,A8,c8,RA,rc⟩=>[boxM b11 43 [.int .i64 un,.int .i64 pl,.slice PA ps.length pc,.slice XA xs.length xc,.slice BA pe.length bc,.int .i64 T0,.bool hlp,.slice A5 prs.length c5,.slice A8 ms.length c8,.int .i64 cr,.slice none 0 0],ownM 3 1 AU mm.toNat mm.toNat (fun q _ => .int .i64 (posI ms (q:Int))),ownM 58 12 A8 ms.length c8 (vcell (calUs ms RA rc)),ragM 88 2 (fun q=>q<ms.length) RA (fun _=>1) rc (fun _=>scell [(0,0)])]) (fun g ⟨i,ms,A8,c8,RA,rc⟩=>i≤js.length∧g+i=js.length∧ms=calM js i) (js.length) (0,[],none,0,(fun _=>none),(fun _=>0)) ?_ (S.sel [3,2,1,0,4,5,6,7,8] G G) (H.keep [16,2,5,8,11,14] rfl) ?_
 · exact ⟨by omega,by omega,rfl⟩
 clear H S a
 intro g3 x3 a w3 hp S H K25 k25
 obtain ⟨i,ms,A8,c8,RA,rc⟩:=x3
 dsimp only at hp S H
 obtain ⟨hil,hgi,hms⟩:=hp
 refine wp_seq_k fun K26 k26=>?_
 refine sS H fun K27 k27=>sr 1 rfl<|sf cG rfl<|sl S 7 dA G G G<|sL eC rfl<|sr 1 rfl<|sE ?_;clear H a;intro a H
 refine k27 _ ?_;clear k27 K27
 refine condL H rfl (fun hc3=>?_) (fun hc3=>?_)
 ·skip
  refine wp_skip ?_
  refine k26 _ _ ?_
  refine wp_seq_k fun K28 k28=>?_
  refine wp_block ?_
  have hji:=V.job i (by omega)
  have hmt:(((js.getD i Jq.zero).mach.toNat:Nat):Int)=(js.getD i Jq.zero).mach:=by omega
  have hmsl:ms.length≤i:=by rw [hms];exact sH i
  have hpb:=Nm (ms:=ms) (m:=(((js.getD i Jq.zero).mach.toNat:Nat):Int))
  replace H:=H.keep [2,5,8,11,14,16] rfl
  refine sS H fun K29 k29=>sf cG rfl<|sl S 7 dA G G G<|sr 1 rfl<|si eC eF G G (hjs.adr (by omega)) (by omega)<|sp iV rfl<|slm aE rfl (hjs.rd S (by omega) (by omega))<|sr 1 rfl<|sE ?_;clear H a;intro a H
  refine k29 _ ?_;clear k29 K29
  replace H:=H.keep [2,5,8,11,14,16,17] rfl
  refine sS H fun K30 k30=>sr 2 rfl<|sI aS bA G G (ownM.adr S (i:=1) rfl (by omega)) (by omega) (by omega)<|slm aE rfl (ownM.rd S (i:=1) rfl (by omega) (by omega))<|sr 1 rfl<|sE ?_;clear H a;intro a H
  refine k30 _ ?_;clear k30 K30
  refine condL H rfl (fun hc4=>?_) (fun hc4=>?_)
  ·skip
   have hpn:posI ms (js.getD i Jq.zero).mach<0:=by rw [←hmt];exact hc4
   replace H:=H.keep [2,5,8,11,14,16,17] rfl
   refine seq_list fun K31 k31=>?_
   refine ls 6 H<|sr 2 rfl<|sf cM rfl<|sl S 0 dL G G G<|sL eI rfl<|sI aS bA G G (ownM.adr S (i:=1) rfl (by omega)) (by omega) (by omega)<|sE ?_;clear H a;intro a H
   refine cL H S (i:=1) (kk:=(js.getD i Jq.zero).mach.toNat) G G G (by omega) (by omega) bA rfl ?_
   clear H a S;intro _ a S H
   replace S:=S.recell (i:=1) rfl (cell':=fun q _ => .int .i64 (posI (ms++[(js.getD i Jq.zero).mach]) (q:Int))) (fun k9 j9 _ hj9=>Sc hpn (by omega) k9 j9 hj9)
   refine k31 _ _ ?_;clear k31 K31
   replace H:=H.keep [2,5,8,11,14,16,17] rfl
   refine one_list ?_
   refine ls 4 H<|sf cM rfl<|sl S 0 dL G G G<|sr 1 rfl<|sd (aP dI G G)<|sE ?_;clear H a;intro a H
   refine aY H rfl S cW aQ bS G G G G G G G G G ?_;clear H a S;intro A4 _ a hA4 S H
   obtain ⟨AR,rfl⟩:∃ y,y=A4:=⟨_,rfl⟩
   replace S:=S.recell (i:=0) rfl (cell':=scell [(0,0)]) (fun k9 j9 hk9 hj9=>by
     obtain rfl:k9=0:=by omega
     rcases (show j9=0∨j9=1 by omega) with rfl|rfl <;> rfl)
   refine ls 2 H<|sd (aP Tx G G)<|sd (aP Ty G G)<|sE ?_;clear H a;intro a H
   refine aY H rfl S eI hY tR G G G G G G G G G ?_;clear H a S;intro A5 _ a hA5 S H
   refine cB H rfl S eI hY tR Ts G G (i:=4) G G G (ownM.inS S (i:=0) rfl) (Ct (Co G G G G G G G G G G G G)) (by omega) (by omega) ?_;clear H a S;intro A6 c6 _ a S H
   replace S:=S.recell (i:=4) rfl (cell':=vcell (calUs (ms++[(js.getD i Jq.zero).mach]) (upd RA ms.length AR) (upd rc ms.length 1))) (Np (Co G G G G G G G G G G G G))
   refine ls 1 H<|sf cM rfl<|sE ?_;clear H a;intro a H
   refine aD H S (i:=2) G G G G Tq G G ?_
   clear H a S;intro _ a S H
   replace S:=Ka (S.sel [1,5,0,2,3,4,6,7,8,9,10] G G) rfl
   rw [show ms.length+1=(ms++[(js.getD i Jq.zero).mach]).length by rw [List.length_append];rfl] at S
   refine k28 _ _ ?_
   replace H:=H.keep [2,5,8,11,14,16] rfl
   refine sO H<|sr 1 rfl<|sd (aK G G (by unfold i64ok;omega))<|sr 1 rfl<|sE ?_;clear H a;intro a H
   exact k25 (g3-1) (i+1,_,_,_,_,_) a _ (by omega) (⟨by omega,by omega,by rw [calM,←hms,if_pos hpn]⟩) (S.sel [2,3,4,0,5,6,7,8,9] G G) (H.keep [16,2,5,8,11,14] rfl)
  refine wp_skip ?_
  refine k28 _ _ ?_
  refine sO H<|sr 1 rfl<|sd (aK G G (by unfold i64ok;omega))<|sr 1 rfl<|sE ?_;clear H a;intro a H
  exact k25 (g3-1) (i+1,_,_,_,_,_) a _ (by omega) (⟨by omega,by omega,by rw [calM,←hms,if_neg (by rw [←hmt];omega)]⟩) (S.sel [0,1,2,3,4,5,6,7,8] G G) (H.keep [16,2,5,8,11,14] rfl)
 refine wp_exit ?_
 refine k23 _ _ ?_
 refine sS H fun K35 k35=>sr 1 rfl<|sE ?_;clear H a;intro a H
 refine k35 _ ?_;clear k35 K35
 refine wp_seq_k fun K36 k36=>?_
 refine sS H fun K37 k37=>sr 1 rfl<|sE ?_;clear H a;intro a H
 refine k37 _ ?_;clear k37 K37
 refine wp_block ?_
 obtain rfl:i=js.length:=by omega
 have hmsl:ms.length≤js.length:=by rw [hms];exact sH _
 replace S:=S.newNil 74 3 (dX [])
 refine loop_st (X:=Nat×List Tsk×Option Addr×Nat) (R0:=_) [2,5,8,11,14] H rfl (fun ⟨d,l9,A9,c9⟩=>[(18,.slice A9 l9.length c9),(19,.int .i64 (d:Int))]) (fun ⟨d,l9,A9,c9⟩=>[ownM 74 3 A9 l9.length c9 (dX l9)]) (fun g ⟨d,l9,A9,c9⟩=>(d:Int)≤un∧g+d=un.toNat∧l9=calL ms js st d) (un.toNat) (0,[],none,0) ?_ (S.sel [0,1,2,3,4,5,6,7,8,9] G G) (H.keep [18,19,2,5,8,11,14] rfl) ?_
 · exact ⟨by omega,by omega,rfl⟩
 clear H S a
 intro g4 x4 a w4 hp S H K38 k38
 obtain ⟨d,l9,A9,c9⟩:=x4
 dsimp only at hp S H
 obtain ⟨hdl,hgd,hl9⟩:=hp
 refine wp_seq_k fun K39 k39=>?_
 refine sS H fun K40 k40=>sr 1 rfl<|sf eW rfl<|sl S 8 aE G G G<|sr 1 rfl<|sE ?_;clear H a;intro a H
 refine k40 _ ?_;clear k40 K40
 refine condL H rfl (fun hc5=>?_) (fun hc5=>?_)
 ·skip
  refine wp_skip ?_
  refine k39 _ _ ?_
  refine wp_seq_k fun K41 k41=>?_
  refine wp_block ?_
  refine sS H fun K42 k42=>sr 1 rfl<|sE ?_;clear H a;intro a H
  refine k42 _ ?_;clear k42 K42
  refine wp_block ?_
  refine loop_st (X:=Nat×List Tsk×Option Addr×Nat) (R0:=_) [2,5,8,11,14,19] H rfl (fun ⟨u,l9,A9,c9⟩=>[(18,.slice A9 l9.length c9),(20,.int .i64 (u:Int))]) (fun ⟨u,l9,A9,c9⟩=>[ownM 74 3 A9 l9.length c9 (dX l9)]) (fun g ⟨u,l9,A9,c9⟩=>u≤ms.length∧g+u=ms.length∧l9=calL ms js st d++calV ms js st d u) (ms.length) (0,_,_,_) ?_ (S.sel [0,1,2,3,4,5,6,7,8,9] G G) (H.keep [18,20,2,5,8,11,14,19] rfl) ?_
  · exact ⟨by omega,by omega,by rw [hl9];exact (List.append_nil _).symm⟩
  clear H S a
  intro g5 x5 a w5 hp S H K43 k43
  obtain ⟨u,l9,A9,c9⟩:=x5
  dsimp only at hp S H
  refine wp_seq_k fun K44 k44=>?_
  refine sS H fun K45 k45=>sr 1 rfl<|sf cM rfl<|sl S 1 dL G G G<|sL eI rfl<|sr 1 rfl<|sE ?_;clear H a;intro a H
  refine k45 _ ?_;clear k45 K45
  refine condL H rfl (fun hc6=>?_) (fun hc6=>?_)
  ·skip
   refine wp_skip ?_
   refine k44 _ _ ?_
   refine wp_seq_k fun K46 k46=>?_
   refine wp_block ?_
   refine sS H fun K47 k47=>sr 1 rfl<|sE ?_;clear H a;intro a H
   refine k47 _ ?_;clear k47 K47
   refine wp_block ?_
   obtain ⟨hul,hgu,hl9⟩:=hp
   refine loop_st (X:=Nat×List Tsk×Option Addr×Nat) (R0:=_) [2,5,8,11,14,19,20] H rfl (fun ⟨q,l9,A9,c9⟩=>[(18,.slice A9 l9.length c9),(21,.int .i64 (q:Int))]) (fun ⟨q,l9,A9,c9⟩=>[ownM 74 3 A9 l9.length c9 (dX l9)]) (fun g ⟨q,l9,A9,c9⟩=>q≤js.length∧g+q=js.length∧l9=(calL ms js st d++calV ms js st d u)++calI ms js st d u q) (js.length) (0,_,_,_) ?_ (S.sel [0,1,2,3,4,5,6,7,8,9] G G) (H.keep [18,21,2,5,8,11,14,19,20] rfl) ?_
   · exact ⟨by omega,by omega,by rw [hl9];exact (List.append_nil _).symm⟩
   clear H S a
   intro g6 x6 a w6 hp S H K48 k48
   obtain ⟨q,l9,A9,c9⟩:=x6
   dsimp only at hp S H
   obtain ⟨hql,hgq,hl9⟩:=hp
   refine wp_seq_k fun K49 k49=>?_
   refine sS H fun K50 k50=>sr 1 rfl<|sf cG rfl<|sl S 8 dA G G G<|sL eC rfl<|sr 1 rfl<|sE ?_;clear H a;intro a H
   refine k50 _ ?_;clear k50 K50
   refine condL H rfl (fun hc7=>?_) (fun hc7=>?_)
   ·skip
    refine wp_skip ?_
    refine k49 _ _ ?_
    refine wp_seq_k fun K51 k51=>?_
    refine wp_block ?_
    have hjq:=V.job q (by omega)
    have hsq:=hsb q (by omega)
    replace H:=H.keep [2,5,8,11,14,18,19,20,21] rfl
    replace S:=S.drew
    refine sD H fun K52 k52=>sr 1 rfl<|sf cG rfl<|sl S 8 dA G G G<|sr 1 rfl<|si eC eF G G (hjs.adr (by omega)) (by omega)<|sp iV rfl<|slm aE rfl (hjs.rd S (by omega) (by omega))<|sI aS bA G G (ownM.adr S (i:=2) rfl (by omega)) (by omega) (by omega)<|slm aE rfl (ownM.rd S (i:=2) rfl (by omega) (by omega))<|sr 3 rfl<|sg 6 11 134 140 true G G (fun hg12=>by
        have hq12:=hg12;try simp only [o1,o2,o3,o4,o5,o6,o7,o8,o9,oa] at hq12
        exact sy hg12<|sr 1 rfl<|sy hg12<|sr 1 rfl<|sy hg12<|si aS bA G G (hst.adr (by omega)) (by omega)<|sy hg12<|slm aE rfl (hst.rd S (by omega) (by omega))<|sy hg12<|sr 1 rfl<|sy hg12<|sr 1 rfl<|sz 6 G G G)<|sa G G G<|sr 1 rfl<|sg 13 19 142 155 true G G (fun hg20=>by
        have hq20:=hg20;try simp only [o1,o2,o3,o4,o5,o6,o7,o8,o9,oa] at hq20
        exact sy hg20<|sr 1 rfl<|sy hg20<|sr 1 rfl<|sy hg20<|sr 1 rfl<|sy hg20<|si aS bA G G (hst.adr (by omega)) (by omega)<|sy hg20<|slm aE rfl (hst.rd S (by omega) (by omega))<|sy hg20<|sf cG rfl<|sy hg20<|sl S 8 dA G G G<|sy hg20<|sr 1 rfl<|sy hg20<|si eC eF G G (hjs.adr (by omega)) (by omega)<|sy hg20<|sp iW rfl<|sy hg20<|slm aE rfl (hjs.rd S (by omega) (by omega))<|sy hg20<|sd (aK G G (by unfold i64ok;omega))<|sy hg20<|sr 1 rfl<|sz 13 G G G)<|sa G G G<|sE ?_;clear H a;intro a H
    refine k52 _ ?_;clear k52 K52
    refine cond_ H rfl (fun hc8=>?_) (fun hc8=>?_)
    ·skip
     try simp only [o1,o2,o3,o4,o5,o6,o7,o8,o9,oa] at hc8
     have hcb:calB ms js st d u q=true:=Sd (by omega) hc8
     have hlb:l9.length≤1000:=by rw [hl9];exact Cn (by omega) (by omega) (by omega) (by omega) (by omega)
     replace H:=H.keep [2,5,8,11,14,18,19,20,21] rfl
     refine one_list ?_
     refine ls 4 H<|sr 3 rfl<|sd (aP Tz G G)<|sE ?_;clear H a;intro a H
     refine aY H rfl S eN eB xT G G G G G G G G G ?_;clear H a S;intro A7 _ a hA7 S H
     replace S:=S.recell (i:=0) rfl (cell':=dX [(⟨(d:Int),(u:Int),1⟩:Tsk)]) (fun k9 j9 hk9 hj9=>Oh G G G k9 j9 hk9 hj9)
     refine cB H rfl S eN eB xT Tt G G (i:=1) G G G (ownM.inS S (i:=0) rfl) (zE [(⟨(d:Int),(u:Int),1⟩:Tsk)]) (by show (_+1)*_≤_;omega) (by show _+1≤_;omega) ?_;clear H a S;intro A8 c8 _ a S H
     replace S:=S.recell (i:=1) rfl (cell':=dX (l9++[(⟨(d:Int),(u:Int),1⟩:Tsk)])) (fun k9 j9 hk9 hj9=>zF (m:=[(⟨(d:Int),(u:Int),1⟩:Tsk)]) k9 j9 hk9 hj9)
     rw [show l9.length+1=(l9++[(⟨(d:Int),(u:Int),1⟩:Tsk)]).length by rw [List.length_append];rfl] at S H
     refine ls 1 H<|sr 1 rfl<|sE ?_;clear H a;intro a H
     refine k51 _ _ ?_
     replace H:=H.keep [2,5,8,11,14,18,19,20,21] rfl
     refine sO H<|sr 1 rfl<|sd (aK G G (by unfold i64ok;omega))<|sr 1 rfl<|sE ?_;clear H a;intro a H
     exact k48 (g6-1) (q+1,_,_,_) a _ (by omega) (⟨by omega,by omega,by rw [hl9];exact Nq hcb⟩) (S.sel [1,2,3,4,5,6,7,8,9,10] G G) (H.keep [18,21,2,5,8,11,14,19,20] rfl)
    try simp only [o1,o2,o3,o4,o5,o6,o7,o8,o9,oa] at hc8
    refine wp_skip ?_
    refine k51 _ _ ?_
    refine sO H<|sr 1 rfl<|sd (aK G G (by unfold i64ok;omega))<|sr 1 rfl<|sE ?_;clear H a;intro a H
    exact k48 (g6-1) (q+1,_,_,_) a _ (by omega) (⟨by omega,by omega,by rw [hl9];exact Nr (Se (a:=(((js.getD q Jq.zero).mach.toNat:Nat):Int)) (by omega) (by omega))⟩) (S.sel [0,1,2,3,4,5,6,7,8,9] G G) (H.keep [18,21,2,5,8,11,14,19,20] rfl)
   refine wp_exit ?_
   refine k46 _ _ ?_
   refine sO H<|sr 1 rfl<|sd (aK G G (by unfold i64ok;omega))<|sr 1 rfl<|sE ?_;clear H a;intro a H
   obtain rfl:q=js.length:=by omega
   exact k43 (g5-1) (u+1,_,_,_) a _ (by omega) (⟨by omega,by omega,by rw [hl9];exact Ns⟩) (S.sel [0,1,2,3,4,5,6,7,8,9] G G) (H.keep [18,20,2,5,8,11,14,19] rfl)
  refine wp_exit ?_
  refine k41 _ _ ?_
  replace H:=H.keep [2,5,8,11,14,18,19] rfl
  refine sO H<|sr 1 rfl<|sd (aK G G (by unfold i64ok;omega))<|sr 1 rfl<|sE ?_;clear H a;intro a H
  obtain rfl:u=ms.length:=by omega
  exact k38 (g4-1) (d+1,_,_,_) a _ (by omega) (⟨by omega,by omega,hp.2.2⟩) (S.sel [0,1,2,3,4,5,6,7,8,9] G G) (H.keep [18,19,2,5,8,11,14] rfl)
 refine wp_exit ?_
 refine k36 _ _ ?_
 have hlb:l9.length≤1000:=by
   rw [hl9,←List.append_nil (calL ms js st d),←List.append_nil (calL ms js st d++[])]
   exact Cn (u:=0) (i:=0) (by omega) (by omega) (by omega) (by omega) (by omega)
 obtain rfl:d=un.toNat:=by omega
 subst hms
 rw [show (calM js js.length).length=(calUs (calM js js.length) RA rc).length from calUs_len.symm,show prs.length=(prs.map (calP un)).length from (List.length_map ..).symm] at S
 replace H:=H.keep [8,11,18] rfl
 replace S:=S.drew
 refine seq_wt 999999 (.q 0 (.q 1 (.q 2 (.q 3 (.e 4 (.q 5 (.e 6 (.q 7 (.q 8 .nil))))))))) (by kernel_rfl) (by kernel_rfl) (S.sel [0,1,2,3,4,5,7,8,9] G G) fun K58 k58=>?_
 refine aG H G G (fun _ S=>(aB fL gQ rfl S (i:=1) G G)) ?_;clear H a;intro a H
 refine aG H G G (fun _ S=>aL rfl) ?_;clear H a;intro a H
 refine aG H G G (fun _ S=>(aB fL gQ rfl S (i:=1) G G)) ?_;clear H a;intro a H
 refine aG H G G (fun _ S=>aL rfl) ?_;clear H a;intro a H
 refine aM rfl ?_
 refine aA H G G Tryz.func16 G G (Kp (calY un pl ps PA pc xs XA xc pe BA bc T0 hlp prs A5 c5 (calM js js.length) RA rc A8 c8 cr) l9 A9 c9 _ (wB S hps hxs hpe (i:=5) rfl (j:=3) rfl (k:=4) rfl) (Cp hps8 hxs8 hpe8 (by omega) (by omega)) (ownM.inS S (i:=0) rfl) (by omega)) ?_;clear H a
 rintro _ _ a ⟨rfl,S2⟩ H
 replace S:=S.call S2;clear S2
 refine wpList_nil (And.intro (Or.inr (S.sel [0,1,2,3,4,5,7,8,9] G G)) ?_)
 refine aG H G G (fun _ S=>wV G G) ?_;clear H a;intro a H
 refine aM rfl ?_
 refine aD H S (i:=6) G G G G gQ G G ?_
 clear H a S;intro _ a S H
 refine wpList_nil (And.intro (Or.inr (S.sel [0,1,2,3,4,5,7,8,9] G G)) ?_)
 refine aG H G G (fun _ S=>bF rfl) ?_;clear H a;intro a H
 refine aG H G G (fun _ S=>bF rfl) ?_;clear H a;intro a H
 refine bC ?_
 refine k58 _ _ ?_
 clear k58 K58
 refine wp_ret ?_
 refine Qa (fn:=Tryz.f11) rfl H rfl fL (by exact gQ) (cQ S (i:=6) rfl) G G ?_
 exact ⟨_,_,_,_,_,_,_,_,by rw [hl9];rfl,by rw [←hl9];exact (S.sel [5,3,4,0] G G)⟩
end
section
theorem Oi {l:List Int} {q:Nat} (h:∀ z,z<q→lowA l 0 z≤l.getD z 0):0≤lowA l 0 q:=by
  induction q with
  | zero=>exact Int.le_refl 0
  | succ q ih=>
    have h1:=ih fun z hz=>h z (by omega)
    have h2:=h q (by omega)
    rw [vQ]
    omega
theorem Si {js:List Jq} {st:List Int} {n:Int} {i:Nat}:(decide (st.getD i 0≤n)&&decide (n-st.getD i 0<(js.getD i Jq.zero).nights))=atB js st n i:=by
  unfold atB
  congr 1
  rw [decide_eq_decide]
  omega
theorem Oj {mm cr un:Int} {js:List Jq} {nv:List Int} {i:Nat} (V:WkV mm js nv cr un) (hi:i<js.length):(js.getD i Jq.zero).after.length≤1000:=by
  have hl:∀ q,q≤(js.getD i Jq.zero).after.length→(q:Int)≤lowA (js.getD i Jq.zero).after 0 q:=by
    intro q
    induction q with
    | zero=>intro _;exact Int.le_refl 0
    | succ q ih=>
      intro hq
      have h1:=ih (by omega)
      have h2:=V.aft i hi q (by omega)
      rw [vQ]
      omega
  have hj:=V.nj
  by_cases h0:(js.getD i Jq.zero).after.length=0
  · omega
  · have h1:=hl ((js.getD i Jq.zero).after.length-1) (by omega)
    have h2:=V.aft i hi ((js.getD i Jq.zero).after.length-1) (by omega)
    omega
theorem Uk (mm:Int) (js:List Jq) (JA:Option Addr) (jc:Nat) (AA:Nat→Option Addr) (ac:Nat→Nat) (nv:List Int) (NA:Option Addr) (nc:Nat) (cr un:Int) (st:List Int) (SA:Option Addr) (sc:Nat) (i:Nat) (n:Int) (w:World) (hjs:InS w noF 3 JA js.length (gF js AA ac)) (hnv:InS w noF 1 NA nv.length (icl nv)) (haf:∀ k,k<js.length→InS w noF 1 (AA k) (js.getD k Jq.zero).after.length (icl (js.getD k Jq.zero).after)) (hst:InS w noF 1 SA st.length (icl st)) (hsl:st.length=js.length) (V:WkV mm js nv cr un) (hsb:∀ k,k<js.length→0≤st.getD k 0∧st.getD k 0≤24) (hn9 : -100≤n∧n≤100) (hi:i<js.length) :
    Calls Tryz.prog 123 [.agg [.int .i64 mm,.slice JA js.length jc,.slice NA nv.length nc,.int .i64 cr,.int .i64 un].toArray,.slice SA st.length sc,.int .i64 (i:Int),.int .i64 n].toArray w (Ret (fun u w'=>u = .bool (atB js st n i)∧St w noF [] w')):=by
 have hsi:=hsb i hi
 have hjl:=V.nj
 refine enter Tryz.func123 rfl Tryz.ntmps123 rfl (fun a H=>?_)
 have S:=St.start w
 refine seq_list fun K1 k1=>?_
 refine aN H rfl S G G ?_;clear H a S;intro b4 _ a hb4 hbw4 S H
 refine ls 1 H<|sr 1 rfl<|sE ?_;clear H a;intro a H
 refine k1 _ _ ?_;clear k1 K1
 replace H:=H.keep [1,2,3,4] rfl
 replace S:=S.drew
 refine sD H fun K2 k2=>sr 2 rfl<|si aS bA G G (hst.adr (by omega)) (by omega)<|slm aE rfl (hst.rd S (by omega) (by omega))<|sr 3 rfl<|sg 13 6 15 28 true G G (fun hg7=>by
     have hq7:=hg7;try simp only [o1,o2,o3,o4,o5,o6,o7,o8,o9,oa] at hq7
     exact sy hg7<|sr 1 rfl<|sy hg7<|sr 1 rfl<|sy hg7<|sr 1 rfl<|sy hg7<|si aS bA G G (hst.adr (by omega)) (by omega)<|sy hg7<|slm aE rfl (hst.rd S (by omega) (by omega))<|sy hg7<|sd (aR G G (by unfold i64ok;omega))<|sy hg7<|sf cG rfl<|sy hg7<|sl S 0 dA G G G<|sy hg7<|sr 1 rfl<|sy hg7<|si eC eF G G (hjs.adr (by omega)) (by omega)<|sy hg7<|sp iW rfl<|sy hg7<|slm aE rfl (hjs.rd S (by omega) (by omega))<|sy hg7<|sr 1 rfl<|sz 13 G G G)<|sa G G G<|sr 1 rfl<|sE ?_;clear H a;intro a H
 refine k2 _ ?_;clear k2 K2
 refine wp_ret ?_
 refine ret1 (fn:=Tryz.f123) rfl H rfl ?_
 rw [←Si];exact ⟨rfl,(S.sel [] G G)⟩
theorem Sj (mm:Int) (js:List Jq) (JA:Option Addr) (jc:Nat) (AA:Nat→Option Addr) (ac:Nat→Nat) (nv:List Int) (NA:Option Addr) (nc:Nat) (cr un:Int) (st:List Int) (SA:Option Addr) (sc:Nat) (n:Int) (w:World) (hjs:InS w noF 3 JA js.length (gF js AA ac)) (hnv:InS w noF 1 NA nv.length (icl nv)) (haf:∀ k,k<js.length→InS w noF 1 (AA k) (js.getD k Jq.zero).after.length (icl (js.getD k Jq.zero).after)) (hst:InS w noF 1 SA st.length (icl st)) (hsl:st.length=js.length) (V:WkV mm js nv cr un) (hsb:∀ k,k<js.length→0≤st.getD k 0∧st.getD k 0≤24) (hn9 : -100≤n∧n≤100) :
    Calls Tryz.prog 80 [.agg [.int .i64 mm,.slice JA js.length jc,.slice NA nv.length nc,.int .i64 cr,.int .i64 un].toArray,.slice SA st.length sc,.int .i64 n].toArray w (Ret (fun u w'=>∃ tb:Bool,u = .tuple #[.int .i64 (nSet js st n js.length),.int .i64 (nJobs js st n js.length),.bool tb]∧St w noF [] w')):=by
 have hjl:=V.nj
 have hmb:=V.mmb
 refine enter Tryz.func80 rfl Tryz.ntmps80 rfl (fun a H=>?_)
 have S:=St.start w
 refine seq_list fun K1 k1=>?_
 refine aN H rfl S G G ?_;clear H a S;intro b3 _ a hb3 hbw3 S H
 refine ls 3 H<|sr 3 rfl<|sE ?_;clear H a;intro a H
 refine k1 _ _ ?_;clear k1 K1
 refine wp_seq_k fun K2 k2=>?_
 refine sS H fun K3 k3=>sr 1 rfl<|sE ?_;clear H a;intro a H
 refine k3 _ ?_;clear k3 K3
 refine wp_block ?_
 refine loop_st (X:=Nat×Bool) (R0:=_) [1,2,3] H rfl (fun ⟨i,tb⟩=>[(6,.int .i64 (nSet js st n i)),(7,.int .i64 (nJobs js st n i)),(8,.bool tb),(9,.int .i64 (i:Int))]) (fun ⟨i,tb⟩=>[]) (fun g ⟨i,tb⟩=>i≤js.length∧g+i=js.length) (js.length) (0,false) ?_ (S.sel [0] G G) (H.keep [6,7,8,9,1,2,3] rfl) ?_
 · exact ⟨by omega,by omega⟩
 clear H S a
 intro g1 x1 a w1 hp S H K4 k4
 obtain ⟨i,tb⟩:=x1
 dsimp only at hp S H
 refine wp_seq_k fun K5 k5=>?_
 refine sS H fun K6 k6=>sr 1 rfl<|sf cG rfl<|sl S 0 dA G G G<|sL eC rfl<|sr 1 rfl<|sE ?_;clear H a;intro a H
 refine k6 _ ?_;clear k6 K6
 refine condL H rfl (fun hc1=>?_) (fun hc1=>?_)
 ·skip
  refine wp_skip ?_
  refine k5 _ _ ?_
  refine wp_seq_k fun K7 k7=>?_
  refine wp_block ?_
  have hji:=V.job i (by omega)
  have hpj:=pw12 (m:=(js.getD i Jq.zero).mach) (by omega)
  have hpm:=pw12 (m:=mm) (by omega)
  have hnb:=qB (st:=st) (d:=n) V i (by omega)
  have hjb:=xW (js:=js) (st:=st) (d:=n) i
  replace H:=H.keep [1,2,3,6,7,8,9] rfl
  refine seq_list fun K8 k8=>?_
  refine ls 4 H<|sd ((aB iS lD rfl S (i:=0) G G))<|sr 3 rfl<|sE ?_;clear H a;intro a H
  refine aA H G G Tryz.func123 G G (Uk mm js JA jc AA ac nv NA nc cr un st SA sc i n _ (hjs.now S) (hnv.now S) (fun k hk=>(haf k hk).now S) (hst.now S) hsl V hsb hn9 (by omega)) ?_;clear H a
  rintro _ _ a ⟨rfl,S2⟩ H
  replace S:=S.call S2;clear S2
  refine k8 _ _ ?_;clear k8 K8
  refine cond_ H rfl (fun hc2=>?_) (fun hc2=>?_)
  ·skip
   try simp only [o1,o2,o3,o4,o5,o6,o7,o8,o9,oa] at hc2
   replace H:=H.keep [1,2,3,6,7,8,9] rfl
   refine sS H fun K9 k9=>sf cG rfl<|sl S 0 dA G G G<|sr 1 rfl<|si eC eF G G (hjs.adr (by omega)) (by omega)<|sp iV rfl<|slm aE rfl (hjs.rd S (by omega) (by omega))<|sd (kH Tryz.underlying3 Tryz.underlying52 rfl (by first|omega|exact IntWalk.i64_in _ (by omega)|exact IntWalk.u64_in _ (by omega)))<|sd (dG G G (by omega) (by omega) (by unfold i64ok;omega))<|sr 1 rfl<|sE ?_;clear H a;intro a H
   refine k9 _ ?_;clear k9 K9
   replace H:=H.keep [1,2,3,6,7,8,9,10] rfl
   refine sS H fun K10 k10=>sr 2 rfl<|sg 4 1 32 36 false G G (fun hg2=>by
       have hq2:=hg2;try simp only [o1,o2,o3,o4,o5,o6,o7,o8,o9,oa] at hq2
       exact sy hg2<|sr 1 rfl<|sy hg2<|sr 1 rfl<|sy hg2<|sd (oU G G (by omega) (by omega))<|sy hg2<|sr 1 rfl<|sz 4 G G G)<|so G G G<|sr 1 rfl<|sE ?_;clear H a;intro a H
   refine k10 _ ?_;clear k10 K10
   replace H:=H.keep [1,2,3,6,7,8,9,10] rfl
   refine sS H fun K11 k11=>sr 2 rfl<|sd (tU G G (by omega) (by omega))<|sr 1 rfl<|sE ?_;clear H a;intro a H
   refine k11 _ ?_;clear k11 K11
   refine sO H<|sr 1 rfl<|sd (aK G G (by unfold i64ok;omega))<|sr 1 rfl<|sE ?_;clear H a;intro a H
   refine k7 _ _ ?_
   replace H:=H.keep [1,2,3,6,7,8,9] rfl
   refine sO H<|sr 1 rfl<|sd (aK G G (by unfold i64ok;omega))<|sr 1 rfl<|sE ?_;clear H a;intro a H
   rw [Io hc2,Ce hc2] at H
   exact k4 (g1-1) (i+1,_) a _ (by omega) (⟨by omega,by omega⟩) (S.sel [0] G G) (H.keep [6,7,8,9,1,2,3] rfl)
  try simp only [o1,o2,o3,o4,o5,o6,o7,o8,o9,oa] at hc2
  refine wp_skip ?_
  refine k7 _ _ ?_
  refine sO H<|sr 1 rfl<|sd (aK G G (by unfold i64ok;omega))<|sr 1 rfl<|sE ?_;clear H a;intro a H
  rw [Ip (by simpa using hc2),Cf (by simpa using hc2)] at H
  exact k4 (g1-1) (i+1,_) a _ (by omega) (⟨by omega,by omega⟩) (S.sel [0] G G) (H.keep [6,7,8,9,1,2,3] rfl)
 refine wp_exit ?_
 refine k2 _ _ ?_
 obtain rfl:i=js.length:=by omega
 replace H:=H.keep [6,7,8] rfl
 refine sS H fun K15 k15=>sr 6 rfl<|sE ?_;clear H a;intro a H
 refine k15 _ ?_;clear k15 K15
 refine wp_ret ?_
 refine ret3 (fn:=Tryz.f80) rfl H G G G ?_
 exact ⟨_,rfl,(S.sel [] G G)⟩
theorem Gd (mm:Int) (js:List Jq) (JA:Option Addr) (jc:Nat) (AA:Nat→Option Addr) (ac:Nat→Nat) (nv:List Int) (NA:Option Addr) (nc:Nat) (cr un:Int) (st:List Int) (SA:Option Addr) (sc:Nat) (w:World) (hjs:InS w noF 3 JA js.length (gF js AA ac)) (hnv:InS w noF 1 NA nv.length (icl nv)) (haf:∀ k,k<js.length→InS w noF 1 (AA k) (js.getD k Jq.zero).after.length (icl (js.getD k Jq.zero).after)) (hst:InS w noF 1 SA st.length (icl st)) (hsl:st.length=js.length) (V:WkV mm js nv cr un) :
    Calls Tryz.prog 38 [.agg [.int .i64 mm,.slice JA js.length jc,.slice NA nv.length nc,.int .i64 cr,.int .i64 un].toArray,.slice SA st.length sc].toArray w (Ret (fun u w'=>∃ a9 b9:Int,u = .tuple #[.int .i64 a9,.int .i64 b9]∧(a9=0→∀ i,i<js.length→0≤st.getD i 0∧st.getD i 0≤un-(js.getD i Jq.zero).nights)∧St w noF [] w')):=by
 have hjl:=V.nj
 have hub:=V.unb
 have hnl:=V.nn
 refine enter Tryz.func38 rfl Tryz.ntmps38 rfl (fun a H=>?_)
 have S:=St.start w
 refine seq_list fun K1 k1=>?_
 refine aN H rfl S G G ?_;clear H a S;intro b2 _ a hb2 hbw2 S H
 refine ls 2 H<|sr 2 rfl<|sE ?_;clear H a;intro a H
 refine k1 _ _ ?_;clear k1 K1
 refine wp_seq_k fun K2 k2=>?_
 refine sS H fun K3 k3=>sr 1 rfl<|sE ?_;clear H a;intro a H
 refine k3 _ ?_;clear k3 K3
 refine wp_block ?_
 refine loop_st (X:=Nat) (R0:=_) [1,2] H rfl (fun i=>[(6,.int .i64 (i:Int))]) (fun i=>[]) (fun g i=>i≤js.length∧g+i=js.length∧∀ k,k<i→(fun i=>0≤st.getD i 0∧st.getD i 0≤un-(js.getD i Jq.zero).nights) k) (js.length) 0 ?_ (S.sel [0] G G) (H.keep [6,1,2] rfl) ?_
 · exact ⟨by omega,by omega,fun k hk=>absurd hk (Nat.not_lt_zero k)⟩
 clear H S a
 intro g1 x1 a w1 hp S H K4 k4
 obtain ⟨i,rfl⟩:∃ y,y=x1:=⟨_,rfl⟩
 refine wp_seq_k fun K5 k5=>?_
 refine sS H fun K6 k6=>sr 1 rfl<|sf cG rfl<|sl S 0 dA G G G<|sL eC rfl<|sr 1 rfl<|sE ?_;clear H a;intro a H
 refine k6 _ ?_;clear k6 K6
 refine condL H rfl (fun hc1=>?_) (fun hc1=>?_)
 ·skip
  refine wp_skip ?_
  refine k5 _ _ ?_
  refine wp_seq_k fun K7 k7=>?_
  refine wp_block ?_
  have hji:=V.job i (by omega)
  replace H:=H.keep [1,2,6] rfl
  replace S:=S.drew
  refine sD H fun K8 k8=>sr 2 rfl<|si aS bA G G (hst.adr (by omega)) (by omega)<|slm aE rfl (hst.rd S (by omega) (by omega))<|sr 2 rfl<|sg 14 5 29 43 false G G (fun hg6=>by
      have hq6:=hg6;try simp only [o1,o2,o3,o4,o5,o6,o7,o8,o9,oa] at hq6
      exact sy hg6<|sr 1 rfl<|sy hg6<|sr 1 rfl<|sy hg6<|si aS bA G G (hst.adr (by omega)) (by omega)<|sy hg6<|slm aE rfl (hst.rd S (by omega) (by omega))<|sy hg6<|sf eW rfl<|sy hg6<|sl S 0 aE G G G<|sy hg6<|sf cG rfl<|sy hg6<|sl S 0 dA G G G<|sy hg6<|sr 1 rfl<|sy hg6<|si eC eF G G (hjs.adr (by omega)) (by omega)<|sy hg6<|sp iW rfl<|sy hg6<|slm aE rfl (hjs.rd S (by omega) (by omega))<|sy hg6<|sd (aR G G (by unfold i64ok;omega))<|sy hg6<|sr 1 rfl<|sz 14 G G G)<|so G G G<|sE ?_;clear H a;intro a H
  refine k8 _ ?_;clear k8 K8
  refine cond_ H rfl (fun hc2=>?_) (fun hc2=>?_)
  ·skip
   try simp only [o1,o2,o3,o4,o5,o6,o7,o8,o9,oa] at hc2
   replace H:=H.keep [6] rfl
   refine sS H fun K9 k9=>sr 3 rfl<|sE ?_;clear H a;intro a H
   refine k9 _ ?_;clear k9 K9
   refine wp_ret ?_
   refine ret2 (fn:=Tryz.f38) rfl H G G ?_
   first|exact ⟨_,_,rfl,fun h=>by omega,(S.sel [] G G)⟩|exact ⟨_,_,rfl,fun _=>hR1,(S.sel [] G G)⟩
  try simp only [o1,o2,o3,o4,o5,o6,o7,o8,o9,oa] at hc2
  refine wp_skip ?_
  refine k7 _ _ ?_
  refine sO H<|sr 1 rfl<|sd (aK G G (by unfold i64ok;omega))<|sr 1 rfl<|sE ?_;clear H a;intro a H
  exact k4 (g1-1) (i+1) a _ (by omega) (⟨by omega,by omega,lK hp.2.2 (by omega)⟩) (S.sel [0] G G) (H.keep [6,1,2] rfl)
 refine wp_exit ?_
 refine k2 _ _ ?_
 refine wp_seq_k fun K11 k11=>?_
 refine sS H fun K12 k12=>sr 1 rfl<|sE ?_;clear H a;intro a H
 refine k12 _ ?_;clear k12 K12
 refine wp_block ?_
 obtain ⟨hil,_,hR1⟩:=hp
 obtain rfl:i=js.length:=by omega
 refine loop_st (X:=Nat) (R0:=_) [1,2] H rfl (fun i=>[(7,.int .i64 (i:Int))]) (fun i=>[]) (fun g i=>i≤js.length∧g+i=js.length) (js.length) 0 ?_ (S.sel [0] G G) (H.keep [7,1,2] rfl) ?_
 · exact ⟨by omega,by omega⟩
 clear H S a
 intro g2 x2 a w2 hp S H K13 k13
 obtain ⟨i,rfl⟩:∃ y,y=x2:=⟨_,rfl⟩
 refine wp_seq_k fun K14 k14=>?_
 refine sS H fun K15 k15=>sr 1 rfl<|sf cG rfl<|sl S 0 dA G G G<|sL eC rfl<|sr 1 rfl<|sE ?_;clear H a;intro a H
 refine k15 _ ?_;clear k15 K15
 refine condL H rfl (fun hc3=>?_) (fun hc3=>?_)
 ·skip
  refine wp_skip ?_
  refine k14 _ _ ?_
  refine wp_seq_k fun K16 k16=>?_
  refine wp_block ?_
  refine sS H fun K17 k17=>sr 1 rfl<|sE ?_;clear H a;intro a H
  refine k17 _ ?_;clear k17 K17
  refine wp_block ?_
  have hqn:(js.getD i Jq.zero).after.length≤1000:=Oj V (show i<js.length by omega)
  refine loop_st (X:=Nat) (R0:=_) [1,2,7] H rfl (fun q=>[(8,.int .i64 (q:Int))]) (fun q=>[]) (fun g q=>q≤(js.getD i Jq.zero).after.length∧g+q=(js.getD i Jq.zero).after.length) ((js.getD i Jq.zero).after.length) 0 ?_ (S.sel [0] G G) (H.keep [8,1,2,7] rfl) ?_
  · exact ⟨by omega,by omega⟩
  clear H S a
  intro g3 x3 a w3 hp S H K18 k18
  obtain ⟨q,rfl⟩:∃ y,y=x3:=⟨_,rfl⟩
  refine wp_seq_k fun K19 k19=>?_
  refine sS H fun K20 k20=>sr 1 rfl<|sf cG rfl<|sl S 0 dA G G G<|sr 1 rfl<|si eC eF G G (hjs.adr (by omega)) (by omega)<|sp iX rfl<|slm bD rfl (hjs.rd S (by omega) (by omega))<|sL aS rfl<|sr 1 rfl<|sE ?_;clear H a;intro a H
  refine k20 _ ?_;clear k20 K20
  refine condL H rfl (fun hc4=>?_) (fun hc4=>?_)
  ·skip
   refine wp_skip ?_
   refine k19 _ _ ?_
   refine wp_seq_k fun K21 k21=>?_
   refine wp_block ?_
   have han:=V.aft i (by omega) q (by omega)
   replace H:=H.keep [1,2,7,8] rfl
   refine sS H fun K22 k22=>sf cG rfl<|sl S 0 dA G G G<|sr 1 rfl<|si eC eF G G (hjs.adr (by omega)) (by omega)<|sp iX rfl<|slm bD rfl (hjs.rd S (by omega) (by omega))<|sr 1 rfl<|si aS bA G G ((haf i (by omega)).adr (by omega)) (by omega)<|slm aE rfl ((haf i (by omega)).rd S (by omega) (by omega))<|sr 1 rfl<|sE ?_;clear H a;intro a H
   refine k22 _ ?_;clear k22 K22
   have hai:=V.aft i (by omega) q (by omega)
   have hlb:=Oi (l:=(js.getD i Jq.zero).after) (q:=q) (fun z hz=>(V.aft i (by omega) z (by omega)).1)
   have hta:((((js.getD i Jq.zero).after.getD q 0).toNat:Nat):Int)=(js.getD i Jq.zero).after.getD q 0:=by omega
   have hsa:=hR1 ((js.getD i Jq.zero).after.getD q 0).toNat (by omega)
   have hja:=V.job ((js.getD i Jq.zero).after.getD q 0).toNat (by omega)
   have hsi:=hR1 i (by omega)
   replace H:=H.keep [1,2,7,8,9] rfl
   replace S:=S.drew
   refine sD H fun K23 k23=>sr 2 rfl<|si aS bA G G (hst.adr (by omega)) (by omega)<|slm aE rfl (hst.rd S (by omega) (by omega))<|sr 2 rfl<|sI aS bA G G (hst.adr (by omega)) (by omega) (by omega)<|slm aE rfl (hst.rd S (by omega) (by omega))<|sf cG rfl<|sl S 0 dA G G G<|sr 1 rfl<|sI eC eF G G (hjs.adr (by omega)) (by omega) (by omega)<|sp iW rfl<|slm aE rfl (hjs.rd S (by omega) (by omega))<|sd (aK G G (by unfold i64ok;omega))<|sr 1 rfl<|sE ?_;clear H a;intro a H
   refine k23 _ ?_;clear k23 K23
   refine condL H rfl (fun hc5=>?_) (fun hc5=>?_)
   ·skip
    replace H:=H.keep [7] rfl
    refine sS H fun K24 k24=>sr 3 rfl<|sE ?_;clear H a;intro a H
    refine k24 _ ?_;clear k24 K24
    refine wp_ret ?_
    refine ret2 (fn:=Tryz.f38) rfl H G G ?_
    first|exact ⟨_,_,rfl,fun h=>by omega,(S.sel [] G G)⟩|exact ⟨_,_,rfl,fun _=>hR1,(S.sel [] G G)⟩
   refine wp_skip ?_
   refine k21 _ _ ?_
   refine sO H<|sr 1 rfl<|sd (aK G G (by unfold i64ok;omega))<|sr 1 rfl<|sE ?_;clear H a;intro a H
   exact k18 (g3-1) (q+1) a _ (by omega) (⟨by omega,by omega⟩) (S.sel [0] G G) (H.keep [8,1,2,7] rfl)
  refine wp_exit ?_
  refine k16 _ _ ?_
  refine sO H<|sr 1 rfl<|sd (aK G G (by unfold i64ok;omega))<|sr 1 rfl<|sE ?_;clear H a;intro a H
  exact k13 (g2-1) (i+1) a _ (by omega) (⟨by omega,by omega⟩) (S.sel [0] G G) (H.keep [7,1,2] rfl)
 refine wp_exit ?_
 refine k11 _ _ ?_
 refine wp_seq_k fun K27 k27=>?_
 replace H:=H.keep [1,2] rfl
 refine sS H fun K28 k28=>sr 1 rfl<|sE ?_;clear H a;intro a H
 refine k28 _ ?_;clear k28 K28
 refine wp_block ?_
 refine loop_st (X:=Nat) (R0:=_) [1,2] H rfl (fun k=>[(10,.int .i64 ((k:Int)+3))]) (fun k=>[]) (fun g k=>k≤3∧g+k=3) (3) 0 ?_ (S.sel [0] G G) (H.keep [10,1,2] rfl) ?_
 · exact ⟨by omega,by omega⟩
 clear H S a
 intro g4 x4 a w4 hp S H K29 k29
 obtain ⟨k,rfl⟩:∃ y,y=x4:=⟨_,rfl⟩
 refine wp_seq_k fun K30 k30=>?_
 refine sS H fun K31 k31=>sr 2 rfl<|sE ?_;clear H a;intro a H
 refine k31 _ ?_;clear k31 K31
 refine condG H rfl (fun hc6=>?_) (fun hc6=>?_)
 ·skip
  refine wp_skip ?_
  refine k30 _ _ ?_
  refine wp_seq_k fun K32 k32=>?_
  refine wp_block ?_
  refine sS H fun K33 k33=>sr 1 rfl<|sE ?_;clear H a;intro a H
  refine k33 _ ?_;clear k33 K33
  refine wp_block ?_
  refine loop_st (X:=Nat) (R0:=_) [1,2,10] H rfl (fun n=>[(11,.int .i64 (n:Int))]) (fun n=>[]) (fun g n=>(n:Int)≤un∧g+n=un.toNat) (un.toNat) 0 ?_ (S.sel [0] G G) (H.keep [11,1,2,10] rfl) ?_
  · exact ⟨by omega,by omega⟩
  clear H S a
  intro g5 x5 a w5 hp S H K34 k34
  obtain ⟨n,rfl⟩:∃ y,y=x5:=⟨_,rfl⟩
  refine wp_seq_k fun K35 k35=>?_
  refine sS H fun K36 k36=>sr 1 rfl<|sf eW rfl<|sl S 0 aE G G G<|sr 1 rfl<|sE ?_;clear H a;intro a H
  refine k36 _ ?_;clear k36 K36
  refine condL H rfl (fun hc7=>?_) (fun hc7=>?_)
  ·skip
   refine wp_skip ?_
   refine k35 _ _ ?_
   refine wp_seq_k fun K37 k37=>?_
   refine wp_block ?_
   replace H:=H.keep [1,2,10,11] rfl
   refine seq_list fun K38 k38=>?_
   refine ls 3 H<|sd ((aB iS lD rfl S (i:=0) G G))<|sr 2 rfl<|sE ?_;clear H a;intro a H
   refine aA H G G Tryz.func80 G G (Sj mm js JA jc AA ac nv NA nc cr un st SA sc (n:Int) _ (hjs.now S) (hnv.now S) (fun k hk=>(haf k hk).now S) (hst.now S) hsl V (fun k hk=>by have:=hR1 k hk;have:=V.job k hk;omega) (by omega)) ?_;clear H a
   rintro _ _ a ⟨tb,rfl,S2⟩ H
   replace S:=S.call S2;clear S2
   refine ls 7 H<|sr 7 rfl<|sE ?_;clear H a;intro a H
   refine k38 _ _ ?_;clear k38 K38
   replace H:=H.keep [1,2,10,11,12,13,14] rfl
   refine sS H fun K39 k39=>sr 1 rfl<|sE ?_;clear H a;intro a H
   refine k39 _ ?_;clear k39 K39
   refine wp_seq_k fun K40 k40=>?_
   refine sS H fun K41 k41=>sr 1 rfl<|sE ?_;clear H a;intro a H
   refine k41 _ ?_;clear k41 K41
   refine wp_block ?_
   refine loop_st (X:=Nat×Bool) (R0:=_) [1,2,10,11,12,13,14] H rfl (fun ⟨z,nb⟩=>[(15,.bool nb),(16,.int .i64 (z:Int))]) (fun ⟨z,nb⟩=>[]) (fun g ⟨z,nb⟩=>z≤nv.length∧g+z=nv.length) (nv.length) (0,false) ?_ (S.sel [0] G G) (H.keep [15,16,1,2,10,11,12,13,14] rfl) ?_
   · exact ⟨by omega,by omega⟩
   clear H S a
   intro g6 x6 a w6 hp S H K42 k42
   obtain ⟨z,nb⟩:=x6
   dsimp only at hp S H
   refine wp_seq_k fun K43 k43=>?_
   have hnn9:z≤nv.length:=hp.1
   refine sS H fun K44 k44=>sr 1 rfl<|sf iK rfl<|sl S 0 bD G G G<|sL aS rfl<|sr 1 rfl<|sE ?_;clear H a;intro a H
   refine k44 _ ?_;clear k44 K44
   refine condL H rfl (fun hc8=>?_) (fun hc8=>?_)
   ·skip
    refine wp_skip ?_
    refine k43 _ _ ?_
    refine wp_seq_k fun K45 k45=>?_
    refine wp_block ?_
    have hnz:=V.nev z (by omega)
    have hpm:=pwm V.mmb
    have h4:=Ec (st:=st) (n:=(n:Int)) V
    replace H:=H.keep [1,2,10,11,12,13,14,15,16] rfl
    replace S:=S.drew
    refine sP H<|sr 2 rfl<|sg 13 1 116 129 false G G (fun hg2=>by
        have hq2:=hg2;try simp only [o1,o2,o3,o4,o5,o6,o7,o8,o9,oa] at hq2
        exact sy hg2<|sr 1 rfl<|sy hg2<|sf iK rfl<|sy hg2<|sl S 0 bD G G G<|sy hg2<|sr 1 rfl<|sy hg2<|si aS bA G G (hnv.adr (by omega)) (by omega)<|sy hg2<|slm aE rfl (hnv.rd S (by omega) (by omega))<|sy hg2<|sd (oU G G (by omega) (by omega))<|sy hg2<|sf iK rfl<|sy hg2<|sl S 0 bD G G G<|sy hg2<|sr 1 rfl<|sy hg2<|si aS bA G G (hnv.adr (by omega)) (by omega)<|sy hg2<|slm aE rfl (hnv.rd S (by omega) (by omega))<|sy hg2<|sr 1 rfl<|sz 13 G G G)<|so G G G<|sr 1 rfl<|sE ?_;clear H a;intro a H
    refine k45 _ _ ?_
    replace H:=H.keep [1,2,10,11,12,13,14,15,16] rfl
    refine sO H<|sr 1 rfl<|sd (aK G G (by unfold i64ok;omega))<|sr 1 rfl<|sE ?_;clear H a;intro a H
    exact k42 (g6-1) (z+1,_) a _ (by omega) (⟨by omega,by omega⟩) (S.sel [0] G G) (H.keep [15,16,1,2,10,11,12,13,14] rfl)
   refine wp_exit ?_
   refine k40 _ _ ?_
   replace H:=H.keep [1,2,10,11,13,14,15] rfl
   refine sS H fun K48 k48=>sr 3 rfl<|sg 1 2 133 134 true G G (fun hg3=>by
       have hq3:=hg3;try simp only [o1,o2,o3,o4,o5,o6,o7,o8,o9,oa] at hq3
       exact sy hg3<|sr 1 rfl<|sz 1 G G G)<|sa G G G<|sr 1 rfl<|sg 8 5 136 144 false G G (fun hg6=>by
       have hq6:=hg6;try simp only [o1,o2,o3,o4,o5,o6,o7,o8,o9,oa] at hq6
       exact sy hg6<|sr 1 rfl<|sy hg6<|sr 1 rfl<|sy hg6<|sr 1 rfl<|sg 4 8 139 143 true G G (fun hg9=>by
            have hq9:=hg9;try simp only [o1,o2,o3,o4,o5,o6,o7,o8,o9,oa] at hq9
            exact sy hg9<|sr 1 rfl<|sy hg9<|sf pR rfl<|sy hg9<|sl S 0 aE G G G<|sy hg9<|sr 1 rfl<|sz 4 G G G)<|sy hg6<|sa G G G<|sz 5 G G G)<|so G G G<|sr 1 rfl<|sg 5 15 146 151 false G G (fun hg16=>by
       have hq16:=hg16;try simp only [o1,o2,o3,o4,o5,o6,o7,o8,o9,oa] at hq16
       exact sy hg16<|sr 1 rfl<|sy hg16<|sr 1 rfl<|sy hg16<|sr 1 rfl<|sg 1 18 149 150 true G G (fun hg19=>by
            have hq19:=hg19;try simp only [o1,o2,o3,o4,o5,o6,o7,o8,o9,oa] at hq19
            exact sy hg19<|sr 1 rfl<|sz 1 G G G)<|sy hg16<|sa G G G<|sz 5 G G G)<|so G G G<|sE ?_;clear H a;intro a H
   refine k48 _ ?_;clear k48 K48
   refine cond_ H rfl (fun hc9=>?_) (fun hc9=>?_)
   ·skip
    try simp only [o1,o2,o3,o4,o5,o6,o7,o8,o9,oa] at hc9
    replace H:=H.keep [10,11] rfl
    refine sS H fun K49 k49=>sr 4 rfl<|sE ?_;clear H a;intro a H
    refine k49 _ ?_;clear k49 K49
    refine wp_ret ?_
    refine ret2 (fn:=Tryz.f38) rfl H G G ?_
    first|exact ⟨_,_,rfl,fun h=>by omega,(S.sel [] G G)⟩|exact ⟨_,_,rfl,fun _=>hR1,(S.sel [] G G)⟩
   try simp only [o1,o2,o3,o4,o5,o6,o7,o8,o9,oa] at hc9
   refine wp_skip ?_
   refine k37 _ _ ?_
   refine sO H<|sr 1 rfl<|sd (aK G G (by unfold i64ok;omega))<|sr 1 rfl<|sE ?_;clear H a;intro a H
   exact k34 (g5-1) (n+1) a _ (by omega) (⟨by omega,by omega⟩) (S.sel [0] G G) (H.keep [11,1,2,10] rfl)
  refine wp_exit ?_
  refine k32 _ _ ?_
  replace H:=H.keep [1,2,10] rfl
  refine sO H<|sr 1 rfl<|sd (aK G G (by unfold i64ok;omega))<|sr 1 rfl<|sE ?_;clear H a;intro a H
  rw [show (k:Int)+3+1=((k+1:Nat):Int)+3 by omega] at H
  exact k29 (g4-1) (k+1) a _ (by omega) (⟨by omega,by omega⟩) (S.sel [0] G G) (H.keep [10,1,2] rfl)
 refine wp_exit ?_
 refine k27 _ _ ?_
 refine sS H fun K52 k52=>sr 2 rfl<|sE ?_;clear H a;intro a H
 refine k52 _ ?_;clear k52 K52
 refine wp_ret ?_
 refine ret2 (fn:=Tryz.f38) rfl H G G ?_
 first|exact ⟨_,_,rfl,fun h=>by omega,(S.sel [] G G)⟩|exact ⟨_,_,rfl,fun _=>hR1,(S.sel [] G G)⟩
theorem wJ (mm:Int) (js:List Jq) (JA:Option Addr) (jc:Nat) (AA:Nat→Option Addr) (ac:Nat→Nat) (nv:List Int) (NA:Option Addr) (nc:Nat) (cr un:Int) (st:List Int) (SA:Option Addr) (sc:Nat) (w:World) (hjs:InS w noF 3 JA js.length (gF js AA ac)) (hnv:InS w noF 1 NA nv.length (icl nv)) (haf:∀ k,k<js.length→InS w noF 1 (AA k) (js.getD k Jq.zero).after.length (icl (js.getD k Jq.zero).after)) (hjn:js.length≤9223372036854775807) (hnn:nv.length≤9223372036854775807) (han:∀ k,k<js.length→(js.getD k Jq.zero).after.length≤9223372036854775807) (hst:InS w noF 1 SA st.length (icl st)) (hstn:st.length≤9223372036854775807) :
    Calls Tryz.prog 10 [.agg [.int .i64 mm,.slice JA js.length jc,.slice NA nv.length nc,.int .i64 cr,.int .i64 un].toArray,.slice SA st.length sc].toArray w (Ret (fun u w'=>∃ a9 b9 e9:Int,u = .tuple #[.int .i64 a9,.int .i64 b9,.int .i64 e9]∧(e9=0→wksE mm js nv cr un=0∧st.length=js.length∧∀ i,i<js.length→0≤st.getD i 0∧st.getD i 0≤un-(js.getD i Jq.zero).nights)∧St w noF [] w')):=by
 refine enter Tryz.func10 rfl Tryz.ntmps10 rfl (fun a H=>?_)
 have S:=St.start w
 refine seq_list fun K1 k1=>?_
 refine aN H rfl S G G ?_;clear H a S;intro b2 _ a hb2 hbw2 S H
 refine ls 3 H<|sr 3 rfl<|sE ?_;clear H a;intro a H
 refine k1 _ _ ?_;clear k1 K1
 refine wp_seq_k fun K2 k2=>?_
 refine seq_list fun K3 k3=>?_
 refine ls 1 H<|sd ((aB iS lD rfl S (i:=0) G G))<|sE ?_;clear H a;intro a H
 refine aA H G G Tryz.func26 G G (tI mm js JA jc AA ac nv NA nc cr un _ (hjs.now S) (hnv.now S) (fun k hk=>(haf k hk).now S) hjn hnn han) ?_;clear H a
 rintro _ _ a ⟨rfl,S2⟩ H
 replace S:=S.call S2;clear S2
 refine ls 1 H<|sr 1 rfl<|sE ?_;clear H a;intro a H
 refine k3 _ _ ?_;clear k3 K3
 refine condN H rfl (fun hc1=>?_) (fun hc1=>?_)
 ·skip
  replace H:=H.keep [] rfl
  refine sS H fun K4 k4=>sr 3 rfl<|sE ?_;clear H a;intro a H
  refine k4 _ ?_;clear k4 K4
  refine wp_ret ?_
  refine ret3 (fn:=Tryz.f10) rfl H G G G ?_
  first|exact ⟨_,_,_,rfl,fun h=>by omega,(S.sel [] G G)⟩|exact ⟨_,_,_,rfl,fun _=>⟨hc1,by omega,hr9 hc3⟩,(S.sel [] G G)⟩
 refine wp_skip ?_
 refine k2 _ _ ?_
 refine wp_seq_k fun K5 k5=>?_
 refine sS H fun K6 k6=>sr 1 rfl<|sL aS rfl<|sf cG rfl<|sl S 0 dA G G G<|sL eC rfl<|sr 1 rfl<|sE ?_;clear H a;intro a H
 refine k6 _ ?_;clear k6 K6
 refine condN H rfl (fun hc2=>?_) (fun hc2=>?_)
 ·skip
  replace H:=H.keep [] rfl
  refine sS H fun K7 k7=>sr 3 rfl<|sE ?_;clear H a;intro a H
  refine k7 _ ?_;clear k7 K7
  refine wp_ret ?_
  refine ret3 (fn:=Tryz.f10) rfl H G G G ?_
  first|exact ⟨_,_,_,rfl,fun h=>by omega,(S.sel [] G G)⟩|exact ⟨_,_,_,rfl,fun _=>⟨hc1,by omega,hr9 hc3⟩,(S.sel [] G G)⟩
 refine wp_skip ?_
 refine k5 _ _ ?_
 replace H:=H.keep [1,2] rfl
 refine seq_list fun K8 k8=>?_
 refine ls 2 H<|sd ((aB iS lD rfl S (i:=0) G G))<|sr 1 rfl<|sE ?_;clear H a;intro a H
 refine aA H G G Tryz.func38 G G (Gd mm js JA jc AA ac nv NA nc cr un st SA sc _ (hjs.now S) (hnv.now S) (fun k hk=>(haf k hk).now S) (hst.now S) (by omega) (lZ hc1)) ?_;clear H a
 rintro _ _ a ⟨a9,b9,rfl,hr9,S2⟩ H
 replace S:=S.call S2;clear S2
 refine ls 5 H<|sr 5 rfl<|sE ?_;clear H a;intro a H
 refine k8 _ _ ?_;clear k8 K8
 refine wp_seq_k fun K9 k9=>?_
 replace H:=H.keep [4,5] rfl
 refine sS H fun K10 k10=>sr 2 rfl<|sE ?_;clear H a;intro a H
 refine k10 _ ?_;clear k10 K10
 refine condN H rfl (fun hc3=>?_) (fun hc3=>?_)
 ·skip
  refine sS H fun K11 k11=>sr 5 rfl<|sE ?_;clear H a;intro a H
  refine k11 _ ?_;clear k11 K11
  refine wp_ret ?_
  refine ret3 (fn:=Tryz.f10) rfl H G G G ?_
  first|exact ⟨_,_,_,rfl,fun h=>by omega,(S.sel [] G G)⟩|exact ⟨_,_,_,rfl,fun _=>⟨hc1,by omega,hr9 hc3⟩,(S.sel [] G G)⟩
 refine wp_skip ?_
 refine k9 _ _ ?_
 replace H:=H.keep [] rfl
 refine sS H fun K12 k12=>sr 3 rfl<|sE ?_;clear H a;intro a H
 refine k12 _ ?_;clear k12 K12
 refine wp_ret ?_
 refine ret3 (fn:=Tryz.f10) rfl H G G G ?_
 first|exact ⟨_,_,_,rfl,fun h=>by omega,(S.sel [] G G)⟩|exact ⟨_,_,_,rfl,fun _=>⟨hc1,by omega,hr9 hc3⟩,(S.sel [] G G)⟩
end
section
theorem six {p:Nat→Prop} (h0:p 0) (h1:p 1) (h2:p 2) (h3:p 3) (h4:p 4) (h5:p 5):∀ j,j<6→p j:=by
  intro j hj
  match j,hj with
  | 0,_=>exact h0
  | 1,_=>exact h1
  | 2,_=>exact h2
  | 3,_=>exact h3
  | 4,_=>exact h4
  | 5,_=>exact h5
theorem sW {l:List Use} {x:Use} {vs:List Value} (h:∀ j,j<6→vs.getD j undef=x.cell j):∀ q j,q<l.length+1→j<6→capp l.length (ucell l) (fun k' j=>([vs].getD k' []).getD j undef) q j=ucell (l++[x]) q j:=by
  intro q j hq hj
  unfold capp ucell
  by_cases h1:q<l.length
  · rw [if_pos h1,List.getD_eq_getElem?_getD,List.getD_eq_getElem?_getD,List.getElem?_append_left h1]
  · rw [if_neg h1]
    have e:q=l.length:=by omega
    subst e
    rw [Nat.sub_self,List.getD_eq_getElem?_getD (l:=l++[x]),List.getElem?_append_right (Nat.le_refl _),Nat.sub_self]
    exact h j hj
theorem Ol {w:World} {p:Part} {l:List Use} {v:Value} {w':World} (h:v = .tuple #[.int .i64 (dE p l Prod.snd).1,.int .i64 (dE p l Prod.snd).2]∧St w noF [] w'):∃ n e:Int,v = .tuple #[.int .i64 n,.int .i64 e]∧bydB p l=(!decide (e=0)||decide (0≤n))∧St w noF [] w':=⟨_,_,h.1,rfl,h.2⟩
theorem Kq {w:World} {F:Nat→Prop} {sz n:Nat} {A:Option Addr} {cell:Nat→Nat→Value} (h:InS w F sz A n cell):A=none→n=0∧n=0:=fun e=>by
  rcases Nat.eq_zero_or_pos n with h0|h0
  · exact ⟨h0,h0⟩
  · obtain ⟨b,o,h1,_⟩:=h h0
    rw [e] at h1;cases h1
theorem Ge (u:Unt) (l:List Use) (LA:Option Addr) (lc:Nat) (age:Int) (w:World) (hur:InS w noF 2 u.RA u.rates.length (scell u.rates)) (hurn:u.rates.length≤9223372036854775807) (huu:InS w noF 6 u.UA u.uses.length (ucell u.uses)) (huun:u.uses.length≤9223372036854775807) (hl:InS w noF 6 LA l.length (ucell l)) (hln:l.length≤1000000) (hlc:l.length≤lc) :
    Calls Tryz.prog 157 [.agg [.int .i64 u.mach,.int .i64 u.every,.int .i64 u.seen,.slice u.RA u.rates.length u.rc,.int .i64 u.worn,.int .i64 u.turns,.int .i64 u.age,.slice u.UA u.uses.length u.uc,.int .i64 u.old,.int .i64 u.tn,.int .i64 u.cl,.int .i64 u.kind].toArray,.slice LA l.length lc,.int .i64 age].toArray w (Ret (fun v w'=>v = .bool (bydB u.part (l++[⟨age,u.tn,u.cl,false,0,0⟩]))∧St w noF [] w')):=by
 refine enter Tryz.func157 rfl Tryz.ntmps157 rfl (fun a H=>?_)
 have S:=St.start w
 refine seq_list fun K1 k1=>?_
 refine aN H rfl S G G ?_;clear H a S;intro b3 _ a hb3 hbw3 S H
 refine ls 1 H<|sr 1 rfl<|sE ?_;clear H a;intro a H
 refine k1 _ _ ?_;clear k1 K1
 replace H:=H.keep [1,2,3] rfl
 refine seq_list fun K2 k2=>?_
 refine ls 6 H<|sr 1 rfl<|sf pX rfl<|sl S 0 aE G G G<|sf pY rfl<|sl S 0 aE G G G<|sd (aP Hy G G)<|sE ?_;clear H a;intro a H
 refine aI H rfl S jM ?_;clear H a S;intro b7 _ a hb7 hbw7 S H
 refine aD H S (i:=0) G G G G cS G G ?_
 clear H a S;intro _ a S H
 refine k2 _ _ ?_;clear k2 K2
 replace H:=H.keep [1,3,7] rfl
 replace S:=S.drew
 refine seq_wt 999999 (.q 0 (.q 1 (.q 2 (.q 3 (.q 4 (.q 5 (.q 6 (.q 7 (.q 8 (.e 9 (.e 10 (.e 11 (.q 12 (.q 13 (.q 14 (.q 15 (.q 16 .nil))))))))))))))))) (by kernel_rfl) (by kernel_rfl) (S.sel [0,1] G G) fun K3 k3=>?_
 refine aG H G G (fun _ S=>(aC lX rfl)) ?_;clear H a;intro a H
 refine aG H G G (fun _ S=>(aB eM gR rfl S (i:=1) G G)) ?_;clear H a;intro a H
 refine aG H G G (fun _ S=>aL rfl) ?_;clear H a;intro a H
 refine aG H G G (fun _ S=>aL rfl) ?_;clear H a;intro a H
 refine aG H G G (fun _ S=>cD cX rfl) ?_;clear H a;intro a H
 refine aG H G G (fun _ S=>aL rfl) ?_;clear H a;intro a H
 refine aG H G G (fun _ S=>cD cX rfl) ?_;clear H a;intro a H
 refine aG H G G (fun _ S=>pJ cX cS G G G hlc) ?_;clear H a;intro a H
 refine aG H G G (fun _ S=>(aB jG cS rfl S (i:=0) G G)) ?_;clear H a;intro a H
 refine aM rfl ?_
 refine aY H rfl S cX cS jM G G G G G G G G G ?_;clear H a S;intro A1 _ a hA1 S H
 refine wpList_nil (And.intro (Or.inr (S.sel [1,2] G G)) ?_)
 refine aM rfl ?_
 refine oB H rfl S cX cS jM Hv G G G G (n:=l.length) (cell:=ucell l) (cell':=_) (hl.now S) (Kq (hl.now S)) (by omega) (by omega) (ownM.inS S (i:=0) rfl) (iD (six G G G G G G)) (by omega) (by omega) ?_;clear H a S;intro A2 c2 _ a S H
 replace S:=S.recell (i:=0) rfl (cell':=ucell (l++[⟨age,u.tn,u.cl,false,0,0⟩])) (sW (x:=⟨age,u.tn,u.cl,false,0,0⟩) (six G G G G G G))
 refine wpList_nil (And.intro (Or.inr (S.sel [2,3] G G)) ?_)
 refine aM rfl ?_
 rw [show l.length+1=(l++[(⟨age,u.tn,u.cl,false,0,0⟩:Use)]).length by simp] at H S
 have hcl9:=fJ (wE u.rates u.worn u.turns u.age u.RA u.rc (l++[⟨age,u.tn,u.cl,false,0,0⟩]) A2 c2 _ (hur.now S) hurn ((ownM.inS S (i:=0) rfl)) (by simp;omega)) (fun _ _ h=>Ol h)
 refine aA H G G Tryz.func183 G G hcl9 ?_;clear H a hcl9
 rintro _ _ a ⟨n9,e9,rfl,hb9,S2⟩ H
 replace S:=S.call S2;clear S2
 refine wpList_nil (And.intro (Or.inr (S.sel [2,3] G G)) ?_)
 refine aG H G G (fun _ S=>aL rfl) ?_;clear H a;intro a H
 refine aG H G G (fun _ S=>aO G G) ?_;clear H a;intro a H
 refine aG H G G (fun _ S=>aO G G) ?_;clear H a;intro a H
 refine aG H G G (fun _ S=>bF rfl) ?_;clear H a;intro a H
 refine aG H G G (fun _ S=>bF rfl) ?_;clear H a;intro a H
 refine bC ?_
 refine k3 _ _ ?_
 clear k3 K3
 replace H:=H.keep [8,9] rfl
 refine sS H fun K4 k4=>sr 3 rfl<|sg 2 2 33 35 false G G (fun hg3=>sy hg3<|sr 1 rfl<|sy hg3<|sr 1 rfl<|sz 2 G G G)<|so G G G<|sr 1 rfl<|sE ?_;clear H a;intro a H
 refine k4 _ ?_;clear k4 K4
 refine wp_ret ?_
 refine ret1 (fn:=Tryz.f157) rfl H rfl ?_
 exact ⟨congrArg Value.bool hb9.symm,(S.sel [] G G)⟩
theorem Om (u:Unt) (J:Nat→Int) (dy:Nat) (w:World) (hur:InS w noF 2 u.RA u.rates.length (scell u.rates)) (hurn:u.rates.length≤9223372036854775807) (huu:InS w noF 6 u.UA u.uses.length (ucell u.uses)) (huun:u.uses.length≤9223372036854775807) (hucp:u.uses.length≤u.uc) (hui:untI u) (ho0:0≤u.old) (hJ:∀ d,0≤J d∧J d≤6) (hdy:dy≤20) :
    Calls Tryz.prog 125 [.agg [.int .i64 u.mach,.int .i64 u.every,.int .i64 u.seen,.slice u.RA u.rates.length u.rc,.int .i64 u.worn,.int .i64 u.turns,.int .i64 u.age,.slice u.UA u.uses.length u.uc,.int .i64 u.old,.int .i64 u.tn,.int .i64 u.cl,.int .i64 u.kind].toArray,.agg ((List.range 20).map fun k=>Value.int .i64 (J k)).toArray,.int .i64 (dy:Int)].toArray w (Ret (fun v w'=>v = .agg [.int .i64 (bsum (runB' u J) dy),.int .i64 (bsum (certB u J) dy)].toArray∧St w noF [] w')):=by
 have hmx:maxLen=9223372036854775807:=rfl
 unfold untI at hui
 refine enter Tryz.func125 rfl Tryz.ntmps125 rfl (fun a H=>?_)
 have S:=St.start w
 refine seq_list fun K1 k1=>?_
 refine aN H rfl S G G ?_;clear H a S;intro b3 _ a hb3 hbw3 S H
 refine aN H rfl S G G ?_;clear H a S;intro b4 _ a hb4 hbw4 S H
 refine aI H rfl S kP ?_;clear H a S;intro b6 _ a hb6 hbw6 S H
 refine k1 _ _ ?_;clear k1 K1
 replace S:=Ne S (i:=1) rfl (by omega)
 refine seq_list fun K2 k2=>?_
 refine aI H rfl S kP ?_;clear H a S;intro b7 _ a hb7 hbw7 S H
 refine k2 _ _ ?_;clear k2 K2
 replace H:=H.keep [2,3,4,6,7] rfl
 replace S:=S.drew
 refine sD H fun K3 k3=>sf fZ rfl<|sl S 3 iT G G G<|sf pW rfl<|sl S 3 aE G G G<|sd (hT rfl (by unfold i64ok;omega))<|sf vG rfl<|sl S 3 aE G G G<|sr 3 rfl<|sE ?_;clear H a;intro a H
 refine k3 _ ?_;clear k3 K3
 refine wp_seq_k fun K4 k4=>?_
 replace H:=H.keep [2,3,4,6,7,8,9,10] rfl
 refine sS H fun K5 k5=>sr 2 rfl<|sE ?_;clear H a;intro a H
 refine k5 _ ?_;clear k5 K5
 refine wp_block ?_
 replace S:=S.frz0
 refine loop_st (X:=Nat×LSt×Option Addr×Nat×(Nat→Prop)×World) (R0:=_) [3,4,6,7,21] H rfl (fun ⟨d,st,A9,c9,B9,wz⟩=>[(8,.slice A9 st.uses.length c9),(9,.int .i64 st.born),(10,.int .i64 st.seen),(22,.int .i64 (d:Int))]) (fun ⟨d,st,A9,c9,B9,wz⟩=>[boxM b7 139 [.int .i64 (bsum (runB' u J) d),.int .i64 (bsum (certB u J) d)],frzM B9 wz]) (fun g ⟨d,st,A9,c9,B9,wz⟩=>(d≤dy∧g+d=dy)∧(RdF w noF B9 wz 6 A9 st.uses.length (ucell st.uses)∧st.uses.length≤c9)∧st=lifeS u J d) (dy) (0,lifeS u J 0,u.UA,u.uc,noF,_) ?_ (S.sel [1,0,2,3,4] G G) (H.keep [8,9,10,22,3,4,6,7,21] rfl) ?_
 · exact ⟨⟨by omega,by omega⟩,⟨RdF.base huu,hucp⟩,rfl⟩
 clear H S a
 intro g1 x1 a w1 hp S H K6 k6
 obtain ⟨d,st,A9,c9,B9,wz⟩:=x1
 dsimp only at hp S H
 obtain ⟨⟨hdl,hgd⟩,⟨hrd,hcap⟩,hst9⟩:=hp
 subst hst9
 have hln:=Es (u:=u) (J:=J) d
 have hbo:=Am (u:=u) (J:=J) (by omega) d
 have hsn:=An (u:=u) (J:=J) (by omega) d
 skip
 refine sS H fun K7 k7=>sr 1 rfl<|sE ?_;clear H a;intro a H
 refine k7 _ ?_;clear k7 K7
 refine wp_seq_k fun K8 k8=>?_
 refine condL H rfl (fun hc1=>?_) (fun hc1=>?_)
 ·skip
  refine wp_skip ?_
  refine k8 _ _ ?_
  refine wp_seq_k fun K9 k9=>?_
  refine wp_block ?_
  refine sS H fun K10 k10=>sr 2 rfl<|sE ?_;clear H a;intro a H
  refine k10 _ ?_;clear k10 K10
  have hJd:=hJ d
  replace H:=H.keep [3,4,6,7,8,9,10,11,21,22] rfl
  replace S:=S.drew
  refine sD H fun K11 k11=>sr 1 rfl<|sd (fF Tryz.underlying239 bA G G (by omega) (by omega))<|slm aE rfl (ownM.rd S (i:=3) (k:=d) (j:=0) rfl (by omega) (by omega))<|sd (fD G G (by omega) (by omega))<|sd (eL G G)<|sr 2 rfl<|sd (fF Tryz.underlying239 bA G G (by omega) (by omega))<|slm aE rfl (ownM.rd S (i:=3) (k:=d) (j:=0) rfl (by omega) (by omega))<|sd (fD G G (by omega) (by omega))<|sd (eL G G)<|sr 3 rfl<|sE ?_;clear H a;intro a H
  refine k11 _ ?_;clear k11 K11
  have SR:=(S.sel [0,1,2,3,4] G G)
  refine meet_sr (X:=Int) [3,4,6,7,8,9,11,13,21,22] H rfl (fun x=>[(10,.int .i64 x)]) (fun x=>[]) (fun x=>x=seenN (lifeS u J d) (J d) d) SR (fun K13 k13=>?_) ?_
  ·skip
   replace H:=H.keep [3,4,6,7,8,9,10,11,12,13,21,22] rfl
   refine sS H fun K14 k14=>sr 1 rfl<|sE ?_;clear H a;intro a H
   refine k14 _ ?_;clear k14 K14
   refine condE H rfl (fun hc2=>?_) (fun hc2=>?_)
   ·skip
    refine sO H<|sr 2 rfl<|sE ?_;clear H a;intro a H
    exact k13 _ a _ ((if_pos (show insp (J d)=true from decide_eq_true hc2)).symm) (S.sel [0,1,2,3,4] G G) (H.keep [10,3,4,6,7,8,9,11,13,21,22] rfl)
   refine wp_skip ?_
   exact k13 _ a _ ((if_neg (show ¬ insp (J d)=true from fun h=>hc2 (of_decide_eq_true h))).symm) (S.sel [0,1,2,3,4] G G) (H.keep [10,3,4,6,7,8,9,11,13,21,22] rfl)
  clear SR H S a
  intro xm a wm hp S H
  obtain ⟨x,rfl⟩:∃ y,y=xm:=⟨_,rfl⟩
  have hx9:=hp
  have hxb:=yK (s:=(lifeS u J d)) (j:=J d) (d:=d) hsn
  rw [←hx9] at hxb
  have SR:=(S.sel [1,2,3,4] G G)
  refine meet_sr (X:=Unit) [3,4,6,7,8,9,10,11,13,21,22] H rfl (fun u3=>[]) (fun u3=>[boxM b7 139 [.int .i64 (bsum (runB' u J) d),.int .i64 (bsum (certB u J) (d+1))]]) (fun u3=>True) SR (fun K17 k17=>?_) ?_
  ·skip
   refine sS H fun K18 k18=>sr 2 rfl<|sd (aR G G (by unfold i64ok;omega))<|sf pV rfl<|sl S 4 aE G G G<|sr 1 rfl<|sE ?_;clear H a;intro a H
   refine k18 _ ?_;clear k18 K18
   refine condG H rfl (fun hc3=>?_) (fun hc3=>?_)
   ·skip
    replace H:=H.keep [3,4,6,7,8,9,10,11,13,21,22] rfl
    refine nD 6 (by kernel_rfl) (by kernel_rfl) ?_
    replace S:=S.drew
    refine sF H<|sf xK rfl<|sl S 0 aE G G G<|sr 1 rfl<|sd (dG G G (by omega) (by omega) (Al (by omega)))<|sd (rX G G (tY _ (by omega)) (by omega) (Ci (Nat.le_refl d)))<|sf xK rfl<|sE ?_;clear H a;intro a H
    refine aD H S (i:=0) G G G G bA G G ?_
    clear H a S;intro _ a S H
    replace S:=boxM.same S (i:=0) rfl (cs':=[.int .i64 (bsum (runB' u J) d),.int .i64 (bsum (certB u J) (d+1))]) (by rw [←Jf (f:=certB u J) (n:=d) ((yM u J d x hx9).symm.trans (decide_eq_true hc3))] <;> rfl)
    exact k17 () a _ (trivial) (S.sel [0,1,2,3,4] G G) (H.keep [3,4,6,7,8,9,10,11,13,21,22] rfl)
   refine wp_skip ?_
   replace S:=boxM.same S (i:=0) rfl (cs':=[.int .i64 (bsum (runB' u J) d),.int .i64 (bsum (certB u J) (d+1))]) (by rw [←Jg (f:=certB u J) (n:=d) ((yM u J d x hx9).symm.trans (decide_eq_false (by omega)))] <;> rfl)
   exact k17 () a _ (trivial) (S.sel [0,1,2,3,4] G G) (H.keep [3,4,6,7,8,9,10,11,13,21,22] rfl)
  clear SR H S a
  intro xm a wm hp S H
  obtain ⟨u3,rfl⟩:∃ y,y=xm:=⟨_,rfl⟩
  skip
  have SR:=(S.sel [2,3,4] G G)
  refine meet_sr (X:=Option Addr×Nat×(Nat→Prop)×World) [3,4,6,7,9,10,11,13,21,22] H rfl (fun ⟨A8,c8,B8,wy⟩=>[(8,.slice A8 (usesN u J d).length c8)]) (fun ⟨A8,c8,B8,wy⟩=>[boxM b7 139 [.int .i64 (bsum (runB' u J) (d+1)),.int .i64 (bsum (certB u J) (d+1))],frzM B8 wy]) (fun ⟨A8,c8,B8,wy⟩=>RdF w noF B8 wy 6 A8 (usesN u J d).length (ucell (usesN u J d))∧(usesN u J d).length≤c8) SR (fun K21 k21=>?_) ?_
  ·skip
   replace H:=H.keep [3,4,6,7,8,9,10,11,13,21,22] rfl
   refine seq_list fun K22 k22=>?_
   refine ls 13 H<|sr 1 rfl<|sd (fF Tryz.underlying239 bA G G (by omega) (by omega))<|slm aE rfl (ownM.rd S (i:=3) (k:=d) (j:=0) rfl (by omega) (by omega))<|sr 2 rfl<|sg 6 4 55 61 true G G (fun hg5=>sy hg5<|sr 1 rfl<|sy hg5<|sr 1 rfl<|sy hg5<|sd (aR G G (by unfold i64ok;omega))<|sy hg5<|sf pV rfl<|sy hg5<|sl S 4 aE G G G<|sy hg5<|sr 1 rfl<|sz 6 G G G)<|sa G G G<|sr 1 rfl<|sE ?_;clear H a;intro a H
   apply cI (i:=12) (g:=63) (t:=70) (b:=true) 7 H S G G (by kernel_rfl) (by kernel_rfl) G G
   case h1=>
    intro hg13
    refine ls 5 H<|sy hg13<|sd ((aB oP hY rfl S (i:=4) G G))<|sy hg13<|sr 1 rfl<|sy hg13<|sr 1 rfl<|sy hg13<|sr 1 rfl<|sy hg13<|sd (aR G G (by unfold i64ok;omega))<|sE ?_;intro a H
    refine cY H G G (by assumption) ?_
    refine aA H G G Tryz.func157 G G (Ge u (lifeS u J d).uses A9 c9 ((d:Int)-(lifeS u J d).born) _ (hur.now S) hurn (huu.now S) huun (hrd.now S (i:=1) rfl) (by omega) hcap) ?_
    rintro _ _ a ⟨rfl,S2⟩ H
    replace S:=S.call S2;clear S2
    refine ls 1 H<|sy hg13<|sr 1 rfl<|sE ?_;intro a H
    exact wpList_nil ⟨H.strip 7 G G,(S.sel [0,1,2,3,4] G G)⟩
   clear H a S;intro a _ H S
   refine ls 1 H<|sa G G G<|sE ?_;clear H a;intro a H
   refine k22 _ _ ?_;clear k22 K22
   refine cond_ H rfl (fun hc4=>?_) (fun hc4=>?_)
   ·skip
    rw [Cj u J d x hx9] at hc4
    replace H:=H.keep [3,4,6,7,8,9,10,11,13,21,22] rfl
    refine wZ 6 (by kernel_rfl) (by kernel_rfl) fun K23 k23=>?_
    replace S:=S.drew
    refine sF H<|sf nP rfl<|sl S 0 aE G G G<|sr 1 rfl<|sd (dG G G (by omega) (by omega) (Al (by omega)))<|sd (rX G G (tY _ (by omega)) (by omega) (Ci (Nat.le_refl d)))<|sf nP rfl<|sE ?_;clear H a;intro a H
    refine aD H S (i:=0) G G G G bA G G ?_
    clear H a S;intro _ a S H
    refine k23 _ _ ?_;clear k23 K23
    replace H:=H.keep [3,4,6,7,8,9,10,11,13,21,22] rfl
    replace S:=S.drew
    refine one_wq [(0,true),(1,true),(2,true),(3,true),(4,true),(5,true),(6,true),(7,true),(8,true),(9,true),(10,true),(11,true),(12,true),(13,true),(14,false),(15,false),(16,true)] (by kernel_rfl) (by kernel_rfl) (S.sel [0,1,2,3,4] G G) ?_
    refine qF H<|qr 2 rfl<|qd rfl (fun _ S=>cD cX rfl)<|qr 1 rfl<|qd rfl (fun _ S=>cD cX rfl)<|qd rfl (fun _ S=>pJ cX cS G G G hcap)<|qr 2 rfl<|qd rfl (fun _ S=>aR G G (by unfold i64ok;omega))<|qd rfl (fun _ S=>(aC pX rfl))<|qd rfl (fun _ S=>aH aE rfl (boxM.rd S (i:=4) G G))<|qd rfl (fun _ S=>(aC pY rfl))<|qd rfl (fun _ S=>aH aE rfl (boxM.rd S (i:=4) G G))<|qd rfl (fun _ S=>aP Hy G G)<|qK ?_;clear H a;intro a H
    refine aT rfl ?_
    refine aY H rfl S cX cS jM G G G G G G G G G ?_;clear H a S;intro A1 _ a hA1 S H
    refine wpList_nil (And.intro (S.sel [1,2,3,4,5] G G) ?_)
    refine aT rfl ?_
    refine oB H rfl S cX cS jM Hv G G G G (n:=(lifeS u J d).uses.length) (cell:=ucell (lifeS u J d).uses) (cell':=_) (hrd.now S (i:=2) rfl) (Kq (hrd.now S (i:=2) rfl)) (by omega) (by omega) (ownM.inS S (i:=0) rfl) (iD (six G G G G G G)) (by omega) (by omega) ?_;clear H a S;intro A3 c3 _ a S H
    replace S:=S.recell (i:=0) rfl (cell':=ucell ((lifeS u J d).uses++[useAt u d (lifeS u J d).born])) (sW (x:=useAt u d (lifeS u J d).born) (six G G G G G G))
    refine wpList_nil (And.intro (S.sel [2,3,4,5,6] G G) ?_)
    refine qF H<|qr 1 rfl<|qK ?_;clear H a;intro a H
    refine bN ?_
    replace S:=boxM.same S (i:=2) rfl (cs':=[.int .i64 (bsum (runB' u J) (d+1)),.int .i64 (bsum (certB u J) (d+1))]) (by rw [←Jf (f:=runB' u J) (n:=d) hc4] <;> rfl)
    replace S:=(S.sel [0,1,2,3,4,5,6] G G)
    have hle3:=ownM.le S (i:=0) rfl
    obtain ⟨B2,S,hA2,_⟩:=St.freeze S (i:=2) rfl
    rw [show (lifeS u J d).uses.length+1=(usesN u J d).length by unfold usesN;rw [if_pos hc4];simp] at H
    exact k21 (A3,c3,B2,_) a _ (⟨by rw [Ck hc4,List.length_append];exact hA2,by rw [Ck hc4,List.length_append];exact hle3.1⟩) (S.sel [1,2,3,4,5] G G) (H.keep [8,3,4,6,7,9,10,11,13,21,22] rfl)
   rw [Cj u J d x hx9] at hc4
   refine wp_skip ?_
   replace S:=boxM.same S (i:=0) rfl (cs':=[.int .i64 (bsum (runB' u J) (d+1)),.int .i64 (bsum (certB u J) (d+1))]) (by rw [←Jg (f:=runB' u J) (n:=d) hc4] <;> rfl)
   rw [←vZ hc4] at H
   exact k21 (A9,c9,B9,wz) a _ (⟨by rw [vZ hc4];exact hrd,by rw [vZ hc4];exact hcap⟩) (S.sel [0,1,2,3,4] G G) (H.keep [8,3,4,6,7,9,10,11,13,21,22] rfl)
  clear SR H S a
  intro xm a wm hp S H
  obtain ⟨A8,c8,B8,wy⟩:=xm
  rw [show Value.bool (decide (J d/2^(2:Int).toNat%2=1))=Value.bool (renw (J d)) from rfl] at H
  replace H:=H.keep [3,4,6,7,8,9,10,11,13,21,22] rfl
  refine sS H fun K25 k25=>sr 1 rfl<|sE ?_;clear H a;intro a H
  refine k25 _ ?_;clear k25 K25
  refine cond_ H rfl (fun hc5=>?_) (fun hc5=>?_)
  ·skip
   skip
   refine sO H<|sr 3 rfl<|sE ?_;clear H a;intro a H
   refine k9 _ _ ?_
   refine sO H<|sd (aK G G (by unfold i64ok;omega))<|sr 1 rfl<|sE ?_;clear H a;intro a H
   have hp8:=hp
   exact k6 (g1-1) (d+1,⟨[],(d:Int),x⟩,none,0,B8,wy) a _ (by omega) (⟨⟨by omega,by omega⟩,⟨RdF.nil,Nat.le_refl 0⟩,Rv hc5 hx9⟩) (S.sel [0,1,2,3,4] G G) (H.keep [8,9,10,22,3,4,6,7,21] rfl)
  skip
  refine wp_skip ?_
  refine k9 _ _ ?_
  refine sO H<|sd (aK G G (by unfold i64ok;omega))<|sr 1 rfl<|sE ?_;clear H a;intro a H
  have hp8:=hp
  exact k6 (g1-1) (d+1,⟨usesN u J d,(lifeS u J d).born,x⟩,A8,c8,B8,wy) a _ (by omega) (⟨⟨by omega,by omega⟩,hp8,Rw hc5 hx9⟩) (S.sel [0,1,2,3,4] G G) (H.keep [8,9,10,22,3,4,6,7,21] rfl)
 refine wp_exit ?_
 refine k4 _ _ ?_
 replace H:=H.keep [6,7] rfl
 refine seq_list fun K29 k29=>?_
 refine ls 1 H<|sd ((aB hG dV rfl S (i:=0) G G))<|sE ?_;clear H a;intro a H
 refine aD H S (i:=2) G G G G dV G G ?_
 clear H a S;intro _ a S H
 refine k29 _ _ ?_;clear k29 K29
 refine wp_ret ?_
 refine retA (fn:=Tryz.f125) rfl H rfl hG (by exact dV) (cQ S (i:=2) rfl) ?_
 obtain rfl:d=dy:=by omega
 exact ⟨rfl,(S.sel [] G G)⟩
end
section
theorem keyOK:KeyOk Tryz.prog 241 (encN (n:=21)):=
  My (Jd Tryz.underlying241 qZ (.cons (by decide) rfl (PartK.int2 Tryz.underlying3 aE) (.cons (by decide) rfl (PartK.of (Jc Tryz.underlying239 He (PartK.int Tryz.underlying3 aE) bA)) (.nil 21))) (by kernel_rfl)) (by omega) (by rw [Tryz.underlying241])
theorem YIn.nowR {w w0:World} {F0:Nat→Prop} {R:List Mem} {y:Yr} (h:YIn w0 F0 y) (S:St w0 F0 R w):YIn w (fps R) y:=
  ⟨h.ps.nowR S,h.xs.nowR S,h.pe.nowR S,h.prs.nowR S,h.us.nowR S,h.sps.nowR S,fun k hk=>(h.rt k hk).nowR S,fun k hk=>(h.ul k hk).nowR S⟩
theorem YOk.days {y:Yr} (h:YOk y):1≤y.days∧y.days≤20:=h.yr.1
theorem YOk.unit {y:Yr} (h:YOk y) {i:Nat} (hi:i<y.us.length):UntOk y.ps y.us (y.us.getD i Unt.zero) i:=gI.1 (h.un i hi)
theorem YOk.old {y:Yr} (h:YOk y) {i:Nat} (hi:i<y.us.length):0≤(y.us.getD i Unt.zero).old:=by
  have h1:=h.unit hi
  have h2:=sU h1.wear
  have h3:=h1.i
  unfold untI at h3
  omega
theorem Cu (y:Yr) (w:World) :
    Calls Tryz.prog 40 [.agg [.int .i64 y.days,.int .i64 y.pl,.slice y.PA y.ps.length y.pc,.slice y.XA y.xs.length y.xc,.slice y.BA y.pe.length y.bc,.int .i64 y.limit,.bool y.help,.slice y.QA y.prs.length y.qc,.slice y.VA y.us.length y.vc,.int .i64 y.crew,.slice y.SA y.sps.length y.sc].toArray].toArray w (Ret (fun v w'=>∃ cb bl bs bk,v = .pointer (some ⟨cb,0,none⟩)∧St w noF [boxM cb 204 [.int .i64 y.days,.int .i64 y.pl,.slice y.PA y.ps.length y.pc,.slice y.XA y.xs.length y.xc,.slice y.BA y.pe.length y.bc,.int .i64 y.limit,.bool y.help,.slice y.QA y.prs.length y.qc,.slice y.VA y.us.length y.vc,.int .i64 y.crew,.slice y.SA y.sps.length y.sc,.map (some bl),.map (some bs),.map (some bk)],mapK (encN (n:=21)) bl (livP y),mapK (fun n:Int=>Value.int .i64 n) bs (safP y),mapK enc2 bk (kepP y)] w')):=by
 refine enter Tryz.func40 rfl Tryz.ntmps40 rfl (fun a H=>?_)
 have S:=St.start w
 refine seq_list fun K1 k1=>?_
 refine aN H rfl S G G ?_;clear H a S;intro b1 _ a hb1 hbw1 S H
 refine ls 1 H<|sr 1 rfl<|sE ?_;clear H a;intro a H
 refine k1 _ _ ?_;clear k1 K1
 refine seq_list fun K2 k2=>?_
 refine ls 1 H<|sd ((aB fL gQ rfl S (i:=0) G G))<|sE ?_;clear H a;intro a H
 refine hO (encN (n:=21)) (livP y) Ey H rfl S ?_;clear H a S;intro bl _ a hbl S H
 refine hO (fun n:Int=>Value.int .i64 n) (safP y) Ez H rfl S ?_;clear H a S;intro bs _ a hbs S H
 refine hO enc2 (kepP y) Fa H rfl S ?_;clear H a S;intro bk _ a hbk S H
 refine ls 1 H<|sd (aP Qu G G)<|sE ?_;clear H a;intro a H
 refine aN H rfl S G G ?_;clear H a S;intro b8 _ a hb8 hbw8 S H
 refine ls 1 H<|sr 1 rfl<|sE ?_;clear H a;intro a H
 refine k2 _ _ ?_;clear k2 K2
 refine wp_ret ?_
 refine ret1 (fn:=Tryz.f40) rfl H rfl ?_
 exact ⟨b8,bl,bs,bk,rfl,(S.sel [0,3,2,1] G G)⟩
theorem zG (y:Yr) (cb bl bs bk:Nat) (i:Nat) (l:List Tsk) (LA:Option Addr) (lc:Nat) (w:World) (F:Nat→Prop) (S:St w F [boxM cb 204 [.int .i64 y.days,.int .i64 y.pl,.slice y.PA y.ps.length y.pc,.slice y.XA y.xs.length y.xc,.slice y.BA y.pe.length y.bc,.int .i64 y.limit,.bool y.help,.slice y.QA y.prs.length y.qc,.slice y.VA y.us.length y.vc,.int .i64 y.crew,.slice y.SA y.sps.length y.sc,.map (some bl),.map (some bs),.map (some bk)],mapK (encN (n:=21)) bl (livP y),mapK (fun n:Int=>Value.int .i64 n) bs (safP y),mapK enc2 bk (kepP y)] w) (hy:YIn w F y) (hyb:YBd y) (hok:YOk y) (hi:i<y.us.length) (hl:InS w F 3 LA l.length (dX l)) (hln:l.length≤9223372036854775807) (htk:∀ k,k<l.length→tskI y (l.getD k Tsk.zero)) :
    Calls Tryz.prog 84 [.pointer (some ⟨cb,0,none⟩),.int .i64 (i:Int),.slice LA l.length lc].toArray w (Ret (fun v w'=>v=lifeV (y.us.getD i Unt.zero) (jobF l i) y.days.toNat∧St w F [boxM cb 204 [.int .i64 y.days,.int .i64 y.pl,.slice y.PA y.ps.length y.pc,.slice y.XA y.xs.length y.xc,.slice y.BA y.pe.length y.bc,.int .i64 y.limit,.bool y.help,.slice y.QA y.prs.length y.qc,.slice y.VA y.us.length y.vc,.int .i64 y.crew,.slice y.SA y.sps.length y.sc,.map (some bl),.map (some bs),.map (some bk)],mapK (encN (n:=21)) bl (livP y),mapK (fun n:Int=>Value.int .i64 n) bs (safP y),mapK enc2 bk (kepP y)] w')):=by
 have hmx:maxLen=9223372036854775807:=rfl
 have hdy:=hok.days;have husn:=hyb.usn
 have hD:((y.days.toNat:Nat):Int)=y.days:=by omega
 refine enter Tryz.func84 rfl Tryz.ntmps84 rfl (fun a H=>?_)
 skip
 refine seq_list fun K1 k1=>?_
 refine aI H rfl S kP ?_;clear H a S;intro b6 _ a hb6 hbw6 S H
 refine k1 _ _ ?_;clear k1 K1
 refine seq_list fun K2 k2=>?_
 refine ls 2 H<|sr 1 rfl<|sd (aP Qy G G)<|sE ?_;clear H a;intro a H
 refine aI H rfl S Hu ?_;clear H a S;intro b7 _ a hb7 hbw7 S H
 refine aD H S (i:=0) G G G G qZ G G ?_
 clear H a S;intro _ a S H
 refine k2 _ _ ?_;clear k2 K2
 refine wp_seq_k fun K3 k3=>?_
 replace S:=boxM.same S (i:=0) rfl (cs':=[.int .i64 (i:Int),.int .i64 0,.int .i64 0,.int .i64 0,.int .i64 0,.int .i64 0,.int .i64 0,.int .i64 0,.int .i64 0,.int .i64 0,.int .i64 0,.int .i64 0,.int .i64 0,.int .i64 0,.int .i64 0,.int .i64 0,.int .i64 0,.int .i64 0,.int .i64 0,.int .i64 0,.int .i64 0]) rfl
 replace S:=Jh S (i:=0) rfl (by show 21≤maxLen;decide)
 replace S:=S.recell (i:=0) rfl (cell':=kcl i (jobP l 0 i)) (fun k j hk hj=>Jl hk hj)
 refine sS H fun K4 k4=>sr 1 rfl<|sL eN rfl<|sr 1 rfl<|sE ?_;clear H a;intro a H
 refine k4 _ ?_;clear k4 K4
 refine wp_block ?_
 refine loop_st (X:=Nat) (R0:=_) [0,1,6,7,14,15] H rfl (fun k=>[(16,.int .i64 (k:Int))]) (fun k=>[ownM 241 1 (some ⟨b7,0,none⟩) 21 21 (kcl i (jobP l k i))]) (fun g k=>k≤l.length∧g+k=l.length) (l.length) 0 ?_ (S.sel [0,1,2,3,4,5] G G) (H.keep [16,0,1,6,7,14,15] rfl) ?_
 · exact ⟨by omega,by omega⟩
 clear H S a
 intro g1 x1 a w1 hp S H K5 k5
 obtain ⟨k,rfl⟩:∃ y,y=x1:=⟨_,rfl⟩
 refine sS H fun K6 k6=>sr 1 rfl<|sE ?_;clear H a;intro a H
 refine k6 _ ?_;clear k6 K6
 refine wp_seq_k fun K7 k7=>?_
 refine condL H rfl (fun hc1=>?_) (fun hc1=>?_)
 ·skip
  refine wp_skip ?_
  refine k7 _ _ ?_
  refine wp_seq_k fun K8 k8=>?_
  refine wp_block ?_
  refine seq_list fun K9 k9=>?_
  refine ls 2 H<|si eN eB G G (hl.adr (by omega)) (by omega)<|sd ((aV oQ eB rfl S hl (by omega) (by omega)))<|sE ?_;clear H a;intro a H
  refine aI H rfl S xT ?_;clear H a S;intro b9 _ a hb9 hbw9 S H
  refine aD H S (i:=0) G G G G eB G G ?_
  clear H a S;intro _ a S H
  refine k9 _ _ ?_;clear k9 K9
  have htt:=htk k (by omega);unfold tskI at htt
  refine sS H fun K10 k10=>sf dP rfl<|sl S 0 aE G G G<|sr 2 rfl<|sE ?_;clear H a;intro a H
  refine k10 _ ?_;clear k10 K10
  refine condE H rfl (fun hc2=>?_) (fun hc2=>?_)
  ·skip
   replace H:=H.keep [0,1,6,7,9,14,15,16] rfl
   refine nD 11 (by kernel_rfl) (by kernel_rfl) ?_
   replace S:=S.drew
   refine sF H<|sf dD rfl<|sl S 0 aE G G G<|sf rF rfl<|sd ((fF Tryz.underlying239 bA G G (by omega) (by omega)).to (v' := .pointer (some (pt (some ⟨b7,0,none⟩) 1 ((l.getD k Tsk.zero).day.toNat+1) 0))) (congrArg (fun o=>Value.pointer (some ⟨b7,o,none⟩)) (show 0+1+(l.getD k Tsk.zero).day.toNat*1=0+((l.getD k Tsk.zero).day.toNat+1)*1+0 by omega)))<|slm aE rfl (ownM.rd S (i:=1) (k:=(l.getD k Tsk.zero).day.toNat+1) (j:=0) rfl (by omega) (by omega))<|sf gA rfl<|sl S 0 aE G G G<|sd (dG G G (by omega) (by omega) (Nh htt.2.2))<|sd (Ji G G (Ev _ _ _) (by omega))<|sf rF rfl<|sd ((fF Tryz.underlying239 bA G G (by omega) (by omega)).to (v' := .pointer (some (pt (some ⟨b7,0,none⟩) 1 ((l.getD k Tsk.zero).day.toNat+1) 0))) (congrArg (fun o=>Value.pointer (some ⟨b7,o,none⟩)) (show 0+1+(l.getD k Tsk.zero).day.toNat*1=0+((l.getD k Tsk.zero).day.toNat+1)*1+0 by omega)))<|sE ?_;clear H a;intro a H
   refine cL H S (i:=1) G G G (by omega) (by omega) bA rfl ?_
   clear H a S;intro _ a S H
   refine k8 _ _ ?_
   replace H:=H.keep [0,1,6,7,14,15,16] rfl
   refine sO H<|sd (aK G G (by unfold i64ok;omega))<|sr 1 rfl<|sE ?_;clear H a;intro a H
   replace S:=S.recell (i:=1) rfl (cell':=kcl i (jobP l (k+1) i)) (fun k9 j9 hk9 hj9=>Nj (d:=(l.getD k Tsk.zero).day.toNat) (by omega) htt.2.2 (by omega) (by omega) k9 j9 hj9)
   exact k5 (g1-1) (k+1) a _ (by omega) (⟨by omega,by omega⟩) (S.sel [1,2,3,4,5,6] G G) (H.keep [16,0,1,6,7,14,15] rfl)
  refine wp_skip ?_
  refine k8 _ _ ?_
  refine sO H<|sd (aK G G (by unfold i64ok;omega))<|sr 1 rfl<|sE ?_;clear H a;intro a H
  rw [←Ni (l:=l) (n:=k) (i:=i) (by omega) htt.2.2 (by omega)] at S
  exact k5 (g1-1) (k+1) a _ (by omega) (⟨by omega,by omega⟩) (S.sel [1,2,3,4,5,6] G G) (H.keep [16,0,1,6,7,14,15] rfl)
 refine wp_exit ?_
 refine k3 _ _ ?_
 obtain rfl:k=l.length:=by omega
 rw [Jk] at S
 replace S:=Ng S (i:=0) rfl
 obtain ⟨h0,hh0,S⟩:=mapK.fix S (i:=3) rfl
 rcases hk0:h0 (keyOf i (jobF l i)) with _|v0
 ·skip
  skip
  replace H:=H.keep [0,1,6,7] rfl
  replace S:=S.drew
  refine seq_wq [(0,true),(1,true),(2,true),(3,true),(4,true),(5,true),(6,true),(7,true),(8,true),(9,false),(10,false),(11,true)] (by kernel_rfl) (by kernel_rfl) (S.sel [0,1,2,3,4,5] G G) fun K14 k14=>?_
  refine qF H<|qr 2 rfl<|qd rfl (fun _ S=>(aC rD rfl))<|qd rfl (fun _ S=>aH vA rfl (boxM.rd S (i:=2) G G))<|qd rfl (fun _ S=>(aB vC qZ rfl S (i:=0) G G))<|qd rfl (fun _ S=>lN S (i:=3) rfl Ad keyOK Hz rfl (k:=keyOf i (jobF l i)) rfl (fun h e=>by subst e;rw [hk0];exact ⟨rfl,rfl⟩))<|qr 3 rfl<|qK ?_;clear H a;intro a H
  refine aT rfl ?_
  refine aI H rfl S kP ?_;clear H a S;intro b10 _ a hb10 hbw10 S H
  refine wpList_nil (And.intro (S.sel [1,2,3,4,5,6] G G) ?_)
  refine aT rfl ?_
  refine aD H S (i:=0) G G G G dV G G ?_
  clear H a S;intro _ a S H
  refine wpList_nil (And.intro (S.sel [1,2,3,4,5,6] G G) ?_)
  refine qF H<|qr 1 rfl<|qK ?_;clear H a;intro a H
  refine bN ?_
  refine k14 _ _ ?_
  clear k14 K14
  refine wp_seq_k fun K15 k15=>?_
  replace H:=H.keep [0,1,6,7,10,11] rfl
  refine sS H fun K16 k16=>sr 2 rfl<|sE ?_;clear H a;intro a H
  refine k16 _ ?_;clear k16 K16
  refine cond_ H rfl (fun hc3=>?_) (fun hc3=>?_)
  ·skip
   skip
   replace H:=H.keep [0,1,6,7,10] rfl
   replace S:=S.drew
   refine seq_wq [(0,true),(1,true),(2,true),(3,true),(4,true),(5,true),(6,true),(7,true),(8,true),(9,true),(10,true),(11,true),(12,true),(13,true),(14,true),(15,false),(16,false)] (by kernel_rfl) (by kernel_rfl) (S.sel [1,2,3,4,5,6] G G) fun K17 k17=>?_
   refine qF H<|qr 2 rfl<|qd rfl (fun _ S=>(aC nR rfl))<|qd rfl (fun _ S=>(aC cM rfl))<|qd rfl (fun _ S=>aH dL rfl (boxM.rd S (i:=2) G G))<|qr 1 rfl<|qd rfl (fun _ S=>bM eI hY G G (hy.us.adr (by omega)) (by omega))<|qd rfl (fun _ S=>(aV oP hY rfl S hy.us (by omega) (by omega)))<|qd rfl (fun _ S=>(aC rF rfl))<|qd rfl (fun _ S=>(aB Lx He rfl S (i:=0) G G))<|qr 2 rfl<|qd rfl (fun _ S=>(aC nR rfl))<|qd rfl (fun _ S=>(aC dK rfl))<|qd rfl (fun _ S=>aH aE rfl (boxM.rd S (i:=2) G G))<|qK ?_;clear H a;intro a H
   refine aT rfl ?_
   rw [←hD] at H
   refine aA H G G Tryz.func125 G G (Om (y.us.getD i Unt.zero) (jobF l i) y.days.toNat _ ((hy.rt i hi).now S) (hyb.rtn hi) ((hy.ul i hi).now S) (hyb.uln hi) (hyb.cap i hi) (hok.unit hi).i (hok.old hi) (fun d=>Nf _ _ _) (by omega)) ?_;clear H a
   rintro _ _ a ⟨rfl,S2⟩ H
   replace S:=S.call S2;clear S2
   refine wpList_nil (And.intro (S.sel [1,2,3,4,5,6] G G) ?_)
   refine aT rfl ?_
   refine aD H S (i:=0) G G G G dV G G ?_
   clear H a S;intro _ a S H
   refine wpList_nil (And.intro (S.sel [1,2,3,4,5,6] G G) ?_)
   refine bN ?_
   refine k17 _ _ ?_
   clear k17 K17
   replace H:=H.keep [0,6,7,10] rfl
   refine nD 6 (by kernel_rfl) (by kernel_rfl) ?_
   replace S:=S.drew
   refine sF H<|sr 2 rfl<|sf rD rfl<|sl S 3 vA G G G<|sd ((aB vC qZ rfl S (i:=1) G G))<|sd ((aB hG dV rfl S (i:=0) G G))<|sE ?_;clear H a;intro a H
   refine iF (k:=keyOf i (jobF l i)) (livP y) H S (i:=4) rfl Ad keyOK G G G (fun h e=>by subst e;exact Jm (by omega) rfl h hh0) ?_;clear H a S;intro _ a S H
   refine k15 _ _ ?_
   refine seq_list fun K19 k19=>?_
   refine ls 1 H<|sd ((aB hG dV rfl S (i:=0) G G))<|sE ?_;clear H a;intro a H
   refine aD H S (i:=2) G G G G dV G G ?_
   clear H a S;intro _ a S H
   refine k19 _ _ ?_;clear k19 K19
   refine wp_ret ?_
   refine retA (fn:=Tryz.f84) rfl H rfl hG (by exact dV) (cQ S (i:=2) rfl) ?_
   exact ⟨rfl,(S.sel [3,4,5,6] G G)⟩
  skip
  cases hc3
 obtain rfl:=hh0 _ _ _ hi hk0
 replace H:=H.keep [0,1,6,7] rfl
 replace S:=S.drew
 refine seq_wq [(0,true),(1,true),(2,true),(3,true),(4,true),(5,true),(6,true),(7,true),(8,true),(9,false),(10,false),(11,true)] (by kernel_rfl) (by kernel_rfl) (S.sel [0,1,2,3,4,5] G G) fun K20 k20=>?_
 refine qF H<|qr 2 rfl<|qd rfl (fun _ S=>(aC rD rfl))<|qd rfl (fun _ S=>aH vA rfl (boxM.rd S (i:=2) G G))<|qd rfl (fun _ S=>(aB vC qZ rfl S (i:=0) G G))<|qd rfl (fun _ S=>lN S (i:=3) rfl Ad keyOK Hz rfl (k:=keyOf i (jobF l i)) rfl (fun h e=>by subst e;rw [hk0];exact ⟨rfl,rfl⟩))<|qr 3 rfl<|qK ?_;clear H a;intro a H
 refine aT rfl ?_
 refine aI H rfl S kP ?_;clear H a S;intro b10 _ a hb10 hbw10 S H
 refine wpList_nil (And.intro (S.sel [1,2,3,4,5,6] G G) ?_)
 refine aT rfl ?_
 refine aD H S (i:=0) G G G G dV G G ?_
 clear H a S;intro _ a S H
 refine wpList_nil (And.intro (S.sel [1,2,3,4,5,6] G G) ?_)
 refine qF H<|qr 1 rfl<|qK ?_;clear H a;intro a H
 refine bN ?_
 refine k20 _ _ ?_
 clear k20 K20
 refine wp_seq_k fun K21 k21=>?_
 replace H:=H.keep [0,1,6,7,10,11] rfl
 refine sS H fun K22 k22=>sr 2 rfl<|sE ?_;clear H a;intro a H
 refine k22 _ ?_;clear k22 K22
 refine cond_ H rfl (fun hc4=>?_) (fun hc4=>?_)
 ·skip
  skip
  cases hc4
 skip
 refine wp_skip ?_
 refine k21 _ _ ?_
 refine seq_list fun K23 k23=>?_
 refine ls 1 H<|sd ((aB hG dV rfl S (i:=0) G G))<|sE ?_;clear H a;intro a H
 refine aD H S (i:=2) G G G G dV G G ?_
 clear H a S;intro _ a S H
 refine k23 _ _ ?_;clear k23 K23
 refine wp_ret ?_
 refine retA (fn:=Tryz.f84) rfl H rfl hG (by exact dV) (cQ S (i:=2) rfl) ?_
 replace S:=mapK.weak S (i:=4) rfl (Φ':=livP y) (fun g e=>by subst e;exact hh0)
 exact ⟨rfl,(S.sel [3,4,5,6] G G)⟩
end
section
theorem lt40 {m:Int} (h:m≤4095):m<2^40:=by
  have e9:(2:Int)^40=1099511627776:=by decide
  omega
theorem Kr {y:Yr} {l:List Tsk} {k q:Nat}:setsQ y l k q q 0 = .int .i64 (outY y l q k):=by unfold setsQ;rw [if_neg (Nat.lt_irrefl q)]
theorem sets0 {y:Yr} {l:List Tsk} {k j:Nat} (hj:j<1):([Value.int .i64 0]:List Value).getD j undef=setsV y l 0 k j:=by
  have:j=0:=by omega
  subst this
  rfl
theorem On {m:Int} (h:0≤m∧m≤11):i64ok (1*2^m.toNat):=by
  have:=Al (d:=m.toNat) (by omega)
  rw [Int.toNat_natCast] at this
  exact this
section
variable {y:Yr} {d out:Int} {k:Nat} {b:Bool} {e:Int}
end
theorem Oo (y:Yr) (cb bl bs bk:Nat) (l:List Tsk) (LA:Option Addr) (lc:Nat) (w:World) (F:Nat→Prop) (S:St w F [boxM cb 204 [.int .i64 y.days,.int .i64 y.pl,.slice y.PA y.ps.length y.pc,.slice y.XA y.xs.length y.xc,.slice y.BA y.pe.length y.bc,.int .i64 y.limit,.bool y.help,.slice y.QA y.prs.length y.qc,.slice y.VA y.us.length y.vc,.int .i64 y.crew,.slice y.SA y.sps.length y.sc,.map (some bl),.map (some bs),.map (some bk)],mapK (encN (n:=21)) bl (livP y),mapK (fun n:Int=>Value.int .i64 n) bs (safP y),mapK enc2 bk (kepP y)] w) (hy:YIn w F y) (hyb:YBd y) (hok:YOk y) (hl:InS w F 3 LA l.length (dX l)) (hln:l.length≤9223372036854775807) (htk:∀ k,k<l.length→tskI y (l.getD k Tsk.zero)) :
    Calls Tryz.prog 41 [.pointer (some ⟨cb,0,none⟩),.slice LA l.length lc].toArray w (Ret (fun v w'=>∃ A c,v = .slice A y.days.toNat c∧St w F (ownM 3 1 A y.days.toNat c (setsV y l y.us.length)::[boxM cb 204 [.int .i64 y.days,.int .i64 y.pl,.slice y.PA y.ps.length y.pc,.slice y.XA y.xs.length y.xc,.slice y.BA y.pe.length y.bc,.int .i64 y.limit,.bool y.help,.slice y.QA y.prs.length y.qc,.slice y.VA y.us.length y.vc,.int .i64 y.crew,.slice y.SA y.sps.length y.sc,.map (some bl),.map (some bs),.map (some bk)],mapK (encN (n:=21)) bl (livP y),mapK (fun n:Int=>Value.int .i64 n) bs (safP y),mapK enc2 bk (kepP y)]) w')):=by
 have hmx:maxLen=9223372036854775807:=rfl
 have hdy:=hok.days;have husn:=hyb.usn
 have hD:((y.days.toNat:Nat):Int)=y.days:=by omega
 refine enter Tryz.func41 rfl Tryz.ntmps41 rfl (fun a H=>?_)
 skip
 refine sS H fun K1 k1=>sr 1 rfl<|sE ?_;clear H a;intro a H
 refine k1 _ ?_;clear k1 K1
 refine seq_list fun K2 k2=>?_
 refine ls 5 H<|sr 2 rfl<|sf nR rfl<|sf dK rfl<|sl S 0 aE G G G<|sE ?_;clear H a;intro a H
 rw [←hD] at H
 refine lS (n:=y.days.toNat) H rfl S aS bA iC rG rfl (by decide) G G (by omega) (by omega) ?_;clear H a S;intro A1 _ a hA1 S H
 refine ls 1 H<|sr 1 rfl<|sE ?_;clear H a;intro a H
 refine k2 _ _ ?_;clear k2 K2
 refine wp_seq_k fun K3 k3=>?_
 replace H:=H.keep [0,1,5] rfl
 refine sS H fun K4 k4=>sr 2 rfl<|sf nR rfl<|sf cM rfl<|sl S 1 dL G G G<|sL eI rfl<|sr 1 rfl<|sE ?_;clear H a;intro a H
 refine k4 _ ?_;clear k4 K4
 refine wp_block ?_
 replace S:=S.recell (i:=0) rfl (cell':=setsV y l 0) (fun k9 j9 hk9 hj9=>sets0 hj9)
 refine loop_st (X:=Nat) (R0:=_) [0,1,5,20,21] H rfl (fun k=>[(22,.int .i64 (k:Int))]) (fun k=>[ownM 3 1 A1 y.days.toNat y.days.toNat (setsV y l k)]) (fun g k=>k≤y.us.length∧g+k=y.us.length) (y.us.length) 0 ?_ (S.sel [0,1,2,3,4] G G) (H.keep [22,0,1,5,20,21] rfl) ?_
 · exact ⟨by omega,by omega⟩
 clear H S a
 intro g1 x1 a w1 hp S H K5 k5
 obtain ⟨k,rfl⟩:∃ y,y=x1:=⟨_,rfl⟩
 refine sS H fun K6 k6=>sr 1 rfl<|sE ?_;clear H a;intro a H
 refine k6 _ ?_;clear k6 K6
 refine wp_seq_k fun K7 k7=>?_
 refine condL H rfl (fun hc1=>?_) (fun hc1=>?_)
 ·skip
  refine wp_skip ?_
  refine k7 _ _ ?_
  refine wp_seq_k fun K8 k8=>?_
  refine wp_block ?_
  refine seq_list fun K9 k9=>?_
  refine ls 3 H<|sr 1 rfl<|si eI hY G G (hy.us.adr (by omega)) (by omega)<|sd ((aV oP hY rfl S hy.us (by omega) (by omega)))<|sE ?_;clear H a;intro a H
  refine aI H rfl S tR ?_;clear H a S;intro b7 _ a hb7 hbw7 S H
  refine ls 1 H<|sr 1 rfl<|sE ?_;clear H a;intro a H
  refine aD H S (i:=0) G G G G hY G G ?_
  clear H a S;intro _ a S H
  refine k9 _ _ ?_;clear k9 K9
  replace H:=H.keep [0,1,5,6,7,20,21,22] rfl
  refine seq_list fun K10 k10=>?_
  refine ls 3 H<|sr 3 rfl<|sE ?_;clear H a;intro a H
  refine aA H G G Tryz.func84 G G (zG y cb bl bs bk k l LA lc _ _ ((S.sel [2,3,4,5] G G).startR) (hy.nowR (S.sel [2,3,4,5] G G)) hyb hok (by omega) (hl.nowR (S.sel [2,3,4,5] G G)) hln htk) ?_;clear H a
  rintro _ _ a ⟨rfl,S2⟩ H
  replace S:=St.callR (M:=[_,_,_,_]) (S.sel [2,3,4,5,0,1] G G) S2;clear S2
  refine aI H rfl S kP ?_;clear H a S;intro b8 _ a hb8 hbw8 S H
  refine aD H S (i:=0) G G G G dV G G ?_
  clear H a S;intro _ a S H
  refine k10 _ _ ?_;clear k10 K10
  refine sS H fun K11 k11=>sr 1 rfl<|sL aS rfl<|sr 1 rfl<|sE ?_;clear H a;intro a H
  refine k11 _ ?_;clear k11 K11
  refine wp_block ?_
  rw [←Aq] at S
  refine loop_st (X:=Nat) (R0:=_) [0,1,5,7,8,20,21,22,32] H rfl (fun q=>[(33,.int .i64 (q:Int))]) (fun q=>[ownM 3 1 A1 y.days.toNat y.days.toNat (setsQ y l k q)]) (fun g q=>q≤y.days.toNat∧g+q=y.days.toNat) (y.days.toNat) 0 ?_ (S.sel [6,0,1,2,3,4,5] G G) (H.keep [33,0,1,5,7,8,20,21,22,32] rfl) ?_
  · exact ⟨by omega,by omega⟩
  clear H S a
  intro g2 x2 a w2 hp S H K12 k12
  obtain ⟨q,rfl⟩:∃ y,y=x2:=⟨_,rfl⟩
  refine sS H fun K13 k13=>sr 1 rfl<|sE ?_;clear H a;intro a H
  refine k13 _ ?_;clear k13 K13
  refine wp_seq_k fun K14 k14=>?_
  refine condL H rfl (fun hc2=>?_) (fun hc2=>?_)
  ·skip
   refine wp_skip ?_
   refine k14 _ _ ?_
   refine wp_seq_k fun K15 k15=>?_
   refine wp_block ?_
   refine sS H fun K16 k16=>sr 2 rfl<|sE ?_;clear H a;intro a H
   refine k16 _ ?_;clear k16 K16
   have hmk:=gW hok.V (hok.unit (show k<y.us.length by omega))
   refine sS H fun K17 k17=>sf nP rfl<|sl S 1 aE G G G<|sr 1 rfl<|sd (fD G G (by omega) (by omega))<|sd (eL G G)<|sr 1 rfl<|sE ?_;clear H a;intro a H
   refine k17 _ ?_;clear k17 K17
   refine condE H rfl (fun hc3=>?_) (fun hc3=>?_)
   ·skip
    have hrn:=Ui (y:=y) (l:=l) (k:=k) (show q<y.days.toNat by omega) hc3
    have hob:=wA (l:=l) (d:=q) hok (show k≤y.us.length by omega)
    replace H:=H.keep [0,1,5,7,8,9,20,21,22,32,33] rfl
    refine nD 9 (by kernel_rfl) (by kernel_rfl) ?_
    replace S:=S.drew
    refine sF H<|sr 2 rfl<|si aS bA G G (ownM.adr S (i:=0) rfl (by omega)) (by omega)<|sd ((aH aE rfl (ownM.rd S (i:=0) (k:=q) (j:=0) rfl (by omega) (by omega))).to Kr)<|sf kO rfl<|sl S 6 aE G G G<|sd (dG G G (by omega) (by omega) (On hmk.1))<|sd (rX G G ⟨hob.1,lt40 hob.2⟩ (by omega) (Ap hok (by omega)))<|si aS bA G G (ownM.adr S (i:=0) rfl (by omega)) (by omega)<|sE ?_;clear H a;intro a H
    refine cL H S (i:=0) G G G (by omega) (by omega) bA rfl ?_
    clear H a S;intro _ a S H
    refine k15 _ _ ?_
    replace H:=H.keep [0,1,5,7,8,20,21,22,32,33] rfl
    refine sO H<|sd (aK G G (by unfold i64ok;omega))<|sr 1 rfl<|sE ?_;clear H a;intro a H
    replace S:=S.recell (i:=0) rfl (cell':=setsQ y l k (q+1)) (fun k9 j9 hk9 hj9=>Fd hrn rfl k9 j9 hj9)
    exact k12 (g2-1) (q+1) a _ (by omega) (⟨by omega,by omega⟩) (S.sel [0,1,2,3,4,5,6] G G) (H.keep [33,0,1,5,7,8,20,21,22,32] rfl)
   refine wp_skip ?_
   refine k15 _ _ ?_
   refine sO H<|sd (aK G G (by unfold i64ok;omega))<|sr 1 rfl<|sE ?_;clear H a;intro a H
   rw [Fc (Uj (show q<y.days.toNat by omega) hc3)] at S
   exact k12 (g2-1) (q+1) a _ (by omega) (⟨by omega,by omega⟩) (S.sel [0,1,2,3,4,5,6] G G) (H.keep [33,0,1,5,7,8,20,21,22,32] rfl)
  refine wp_exit ?_
  refine k8 _ _ ?_
  refine sO H<|sd (aK G G (by unfold i64ok;omega))<|sr 1 rfl<|sE ?_;clear H a;intro a H
  obtain rfl:q=y.days.toNat:=by omega
  replace S:=S.recell (i:=0) rfl (cell':=setsV y l (k+1)) Fb
  exact k5 (g1-1) (k+1) a _ (by omega) (⟨by omega,by omega⟩) (S.sel [0,2,3,4,5] G G) (H.keep [22,0,1,5,20,21] rfl)
 refine wp_exit ?_
 refine k3 _ _ ?_
 refine sS H fun K22 k22=>sr 2 rfl<|sE ?_;clear H a;intro a H
 refine k22 _ ?_;clear k22 K22
 refine wp_ret ?_
 refine ret1 (fn:=Tryz.f41) rfl H rfl ?_
 obtain rfl:k=y.us.length:=by omega
 exact ⟨_,_,rfl,(S.sel [0,1,2,3,4] G G)⟩
end
section
theorem Sk (y:Yr) (l:List Tsk) (LA:Option Addr) (lc:Nat) (w:World) (hy:YIn w noF y) (hyb:YBd y) (hl:InS w noF 3 LA l.length (dX l)) (hln:l.length≤9223372036854775807) :
    Calls Tryz.prog 12 [.agg [.int .i64 y.days,.int .i64 y.pl,.slice y.PA y.ps.length y.pc,.slice y.XA y.xs.length y.xc,.slice y.BA y.pe.length y.bc,.int .i64 y.limit,.bool y.help,.slice y.QA y.prs.length y.qc,.slice y.VA y.us.length y.vc,.int .i64 y.crew,.slice y.SA y.sps.length y.sc].toArray,.slice LA l.length lc].toArray w (Ret (fun v w'=>(taskE y l≠0∧v = .tuple #[.slice none 0 0,.int .i64 (taskE y l)]∧St w noF [] w')∨(taskE y l=0∧∃ A c,v = .tuple #[.slice A y.days.toNat c,.int .i64 0]∧St w noF [ownM 3 1 A y.days.toNat c (setsV y l y.us.length)] w'))):=by
 refine enter Tryz.func12 rfl Tryz.ntmps12 rfl (fun a H=>?_)
 have S:=St.start w
 refine seq_list fun K1 k1=>?_
 refine aN H rfl S G G ?_;clear H a S;intro b2 _ a hb2 hbw2 S H
 refine ls 2 H<|sr 2 rfl<|sE ?_;clear H a;intro a H
 refine k1 _ _ ?_;clear k1 K1
 refine wp_seq_k fun K2 k2=>?_
 refine seq_list fun K3 k3=>?_
 refine ls 2 H<|sd ((aB fL gQ rfl S (i:=0) G G))<|sr 1 rfl<|sE ?_;clear H a;intro a H
 refine aA H G G Tryz.func39 G G (zD y l LA lc _ (hy.now S) hyb (hl.now S) hln) ?_;clear H a
 rintro _ _ a ⟨rfl,S2⟩ H
 replace S:=S.call S2;clear S2
 refine ls 1 H<|sr 1 rfl<|sE ?_;clear H a;intro a H
 refine k3 _ _ ?_;clear k3 K3
 refine sS H fun K4 k4=>sr 2 rfl<|sE ?_;clear H a;intro a H
 refine k4 _ ?_;clear k4 K4
 refine condN H rfl (fun hc1=>?_) (fun hc1=>?_)
 ·skip
  replace H:=H.keep [6] rfl
  refine sS H fun K5 k5=>sr 3 rfl<|sE ?_;clear H a;intro a H
  refine k5 _ ?_;clear k5 K5
  refine wp_ret ?_
  refine ret2 (fn:=Tryz.f12) rfl H G G ?_
  exact .inl ⟨hc1,rfl,(S.sel [] G G)⟩
 have hte:taskE y l=0:=by omega
 have htk0:=qE hte
 have hok:=mC htk0.1
 have htk:∀ k,k<l.length→tskI y (l.getD k Tsk.zero):=fun k hk=>Je (htk0.2.2 k hk)
 refine wp_skip ?_
 refine k2 _ _ ?_
 refine seq_list fun K6 k6=>?_
 refine ls 1 H<|sd ((aB fL gQ rfl S (i:=0) G G))<|sE ?_;clear H a;intro a H
 refine aA H G G Tryz.func40 G G (Cu y _) ?_;clear H a
 rintro _ _ a ⟨cb,bl,bs,bk,rfl,S2⟩ H
 replace S:=S.call S2;clear S2
 refine ls 1 H<|sr 1 rfl<|sE ?_;clear H a;intro a H
 refine aA H G G Tryz.func41 G G (Oo y cb bl bs bk l LA lc _ _ ((S.sel [0,1,2,3] G G).startR) (hy.nowR (S.sel [0,1,2,3] G G)) hyb hok (hl.nowR (S.sel [0,1,2,3] G G)) hln htk) ?_;clear H a
 rintro _ _ a ⟨A6,c6,rfl,S2⟩ H
 replace S:=St.callR (M:=[_,_,_,_]) (S.sel [0,1,2,3,4] G G) S2;clear S2
 refine ls 2 H<|sr 2 rfl<|sE ?_;clear H a;intro a H
 refine k6 _ _ ?_;clear k6 K6
 refine wp_ret ?_
 refine ret2 (fn:=Tryz.f12) rfl H G G ?_
 exact .inr ⟨hte,A6,c6,rfl,(S.sel [0] G G)⟩
end
section
theorem Ks (y:Yr) (l:List Tsk) (LA:Option Addr) (lc:Nat) (u:Int) (w:World) (hy:YIn w noF y) (hyb:YBd y) (hl:InS w noF 3 LA l.length (dX l)) (hln:l.length≤9223372036854775807) :
    Calls Tryz.prog 46 [.agg [.int .i64 y.days,.int .i64 y.pl,.slice y.PA y.ps.length y.pc,.slice y.XA y.xs.length y.xc,.slice y.BA y.pe.length y.bc,.int .i64 y.limit,.bool y.help,.slice y.QA y.prs.length y.qc,.slice y.VA y.us.length y.vc,.int .i64 y.crew,.slice y.SA y.sps.length y.sc].toArray,.slice LA l.length lc,.int .i64 u].toArray w (Ret (fun v w'=>∃ a9 b9:Int,v = .tuple #[.agg [.int .i64 a9,.int .i64 b9].toArray,.int .i64 (askdE y l u)]∧(askdE y l u=0→a9=bsum (runB' (y.us.getD u.toNat Unt.zero) (jobF l u.toNat)) y.days.toNat∧b9=bsum (certB (y.us.getD u.toNat Unt.zero) (jobF l u.toNat)) y.days.toNat)∧St w noF [] w')):=by
 have hn3:=hyb.usn
 refine enter Tryz.func46 rfl Tryz.ntmps46 rfl (fun a H=>?_)
 have S:=St.start w
 refine seq_list fun K1 k1=>?_
 refine aN H rfl S G G ?_;clear H a S;intro b3 _ a hb3 hbw3 S H
 refine aI H rfl S kP ?_;clear H a S;intro b6 _ a hb6 hbw6 S H
 refine ls 1 H<|sr 1 rfl<|sE ?_;clear H a;intro a H
 refine k1 _ _ ?_;clear k1 K1
 refine wp_seq_k fun K2 k2=>?_
 refine seq_list fun K3 k3=>?_
 refine ls 2 H<|sd ((aB fL gQ rfl S (i:=1) G G))<|sr 1 rfl<|sE ?_;clear H a;intro a H
 refine aA H G G Tryz.func39 G G (zD y l LA lc _ (hy.now S) hyb (hl.now S) hln) ?_;clear H a
 rintro _ _ a ⟨rfl,S2⟩ H
 replace S:=S.call S2;clear S2
 refine ls 1 H<|sr 1 rfl<|sE ?_;clear H a;intro a H
 refine k3 _ _ ?_;clear k3 K3
 refine sS H fun K4 k4=>sr 2 rfl<|sE ?_;clear H a;intro a H
 refine k4 _ ?_;clear k4 K4
 refine condN H rfl (fun hc1=>?_) (fun hc1=>?_)
 ·skip
  replace H:=H.keep [6,8] rfl
  refine seq_list fun K5 k5=>?_
  refine ls 2 H<|sd (aP Hw G G)<|sr 1 rfl<|sE ?_;clear H a;intro a H
  refine aD H S (i:=0) G G G G dV G G ?_
  clear H a S;intro _ a S H
  refine ls 1 H<|sr 1 rfl<|sE ?_;clear H a;intro a H
  refine k5 _ _ ?_;clear k5 K5
  refine wp_ret ?_
  refine retA1 (fn:=Tryz.f46) rfl H rfl hG (by exact dV) (cQ S (i:=0) rfl) rfl ?_
  refine ⟨0,0,by rw [uB (by omega)];rfl,fun h=>absurd h (by rw [uB (by omega)];omega),(S.sel [] G G)⟩
 have hte:taskE y l=0:=by omega
 have htk0:=qE hte
 have hok:=mC htk0.1
 have htk:∀ k,k<l.length→tskI y (l.getD k Tsk.zero):=fun k hk=>Je (htk0.2.2 k hk)
 refine wp_skip ?_
 refine k2 _ _ ?_
 refine wp_seq_k fun K6 k6=>?_
 replace H:=H.keep [1,2,3,6] rfl
 refine sS H fun K7 k7=>sr 1 rfl<|sf cM rfl<|sl S 1 dL G G G<|sL eI rfl<|sd (aR G G (by unfold i64ok;omega))<|sc rfl Tryz.func82 G G (bK _ _ _ _)<|sr 1 rfl<|sE ?_;clear H a;intro a H
 refine k7 _ ?_;clear k7 K7
 refine cond_ H rfl (fun hc2=>?_) (fun hc2=>?_)
 ·skip
  try simp only [o1,o2,o3,o4,o5,o6,o7,o8,o9,oa] at hc2
  replace H:=H.keep [6] rfl
  refine seq_list fun K8 k8=>?_
  refine ls 1 H<|sd (aP Hw G G)<|sE ?_;clear H a;intro a H
  refine aD H S (i:=0) G G G G dV G G ?_
  clear H a S;intro _ a S H
  refine ls 1 H<|sr 1 rfl<|sE ?_;clear H a;intro a H
  refine k8 _ _ ?_;clear k8 K8
  refine wp_ret ?_
  refine retA1 (fn:=Tryz.f46) rfl H rfl hG (by exact dV) (cQ S (i:=0) rfl) rfl ?_
  refine ⟨0,0,by rw [yP hte (by omega)];rfl,fun h=>absurd h (by rw [yP hte (by omega)];decide),(S.sel [] G G)⟩
 try simp only [o1,o2,o3,o4,o5,o6,o7,o8,o9,oa] at hc2
 have hu:0≤u∧u≤(y.us.length:Int)-1:=by first|exact hc2|omega
 rw [show u=((u.toNat:Nat):Int) by omega] at H
 refine wp_skip ?_
 refine k6 _ _ ?_
 replace H:=H.keep [1,2,3,6] rfl
 refine seq_list fun K9 k9=>?_
 refine ls 1 H<|sd ((aB fL gQ rfl S (i:=1) G G))<|sE ?_;clear H a;intro a H
 refine aA H G G Tryz.func40 G G (Cu y _) ?_;clear H a
 rintro _ _ a ⟨cb,bl,bs,bk,rfl,S2⟩ H
 replace S:=S.call S2;clear S2
 refine ls 2 H<|sr 2 rfl<|sE ?_;clear H a;intro a H
 refine aA H G G Tryz.func84 G G (zG y cb bl bs bk u.toNat l LA lc _ _ ((S.sel [0,1,2,3] G G).startR) (hy.nowR (S.sel [0,1,2,3] G G)) hyb hok (by omega) (hl.nowR (S.sel [0,1,2,3] G G)) hln htk) ?_;clear H a
 rintro _ _ a ⟨rfl,S2⟩ H
 replace S:=St.callR (M:=[_,_,_,_]) (S.sel [0,1,2,3,4,5] G G) S2;clear S2
 refine aD H S (i:=4) G G G G dV G G ?_
 clear H a S;intro _ a S H
 refine ls 1 H<|sr 1 rfl<|sE ?_;clear H a;intro a H
 refine k9 _ _ ?_;clear k9 K9
 refine wp_ret ?_
 refine retA1 (fn:=Tryz.f46) rfl H rfl hG (by exact dV) (cQ S (i:=4) rfl) rfl ?_
 refine ⟨_,_,by rw [Cl hte hu];rfl,fun h=>⟨rfl,rfl⟩,(S.sel [] G G)⟩
theorem Oq (y:Yr) (l:List Tsk) (LA:Option Addr) (lc:Nat) (u:Int) (w:World) (hy:YIn w noF y) (hyb:YBd y) (hl:InS w noF 3 LA l.length (dX l)) (hln:l.length≤9223372036854775807) :
    Calls Tryz.prog 14 [.agg [.int .i64 y.days,.int .i64 y.pl,.slice y.PA y.ps.length y.pc,.slice y.XA y.xs.length y.xc,.slice y.BA y.pe.length y.bc,.int .i64 y.limit,.bool y.help,.slice y.QA y.prs.length y.qc,.slice y.VA y.us.length y.vc,.int .i64 y.crew,.slice y.SA y.sps.length y.sc].toArray,.slice LA l.length lc,.int .i64 u].toArray w (Ret (fun v w'=>∃ A c,v = .tuple #[.slice A (runsL y l u).length c,.int .i64 (askdE y l u)]∧St w noF [ownM 3 1 A (runsL y l u).length c (wcl (runsL y l u))] w')):=by
 refine enter Tryz.func14 rfl Tryz.ntmps14 rfl (fun a H=>?_)
 have S:=St.start w
 refine seq_list fun K1 k1=>?_
 refine aN H rfl S G G ?_;clear H a S;intro b3 _ a hb3 hbw3 S H
 refine ls 2 H<|sr 2 rfl<|sE ?_;clear H a;intro a H
 refine k1 _ _ ?_;clear k1 K1
 replace H:=H.keep [1,2,3] rfl
 refine seq_list fun K2 k2=>?_
 refine ls 3 H<|sd ((aB fL gQ rfl S (i:=0) G G))<|sr 2 rfl<|sE ?_;clear H a;intro a H
 refine aA H G G Tryz.func46 G G (Ks y l LA lc u _ (hy.now S) hyb (hl.now S) hln) ?_;clear H a
 rintro _ _ a ⟨a9,b9,rfl,hab,S2⟩ H
 replace S:=S.call S2;clear S2
 refine ls 3 H<|sr 3 rfl<|sE ?_;clear H a;intro a H
 refine aI H rfl S kP ?_;clear H a S;intro b8 _ a hb8 hbw8 S H
 refine aD H S (i:=0) G G G G dV G G ?_
 clear H a S;intro _ a S H
 refine ls 1 H<|sr 1 rfl<|sE ?_;clear H a;intro a H
 refine k2 _ _ ?_;clear k2 K2
 refine wp_seq_k fun K3 k3=>?_
 replace H:=H.keep [3,8,9] rfl
 refine sS H fun K4 k4=>sr 2 rfl<|sE ?_;clear H a;intro a H
 refine k4 _ ?_;clear k4 K4
 refine condN H rfl (fun hc1=>?_) (fun hc1=>?_)
 ·skip
  refine sS H fun K5 k5=>sr 3 rfl<|sE ?_;clear H a;intro a H
  refine k5 _ ?_;clear k5 K5
  refine wp_ret ?_
  refine ret2 (fn:=Tryz.f14) rfl H G G ?_
  have he:runsL y l u=[]:=by unfold runsL;rw [if_pos hc1]
  rw [he]
  exact ⟨none,0,rfl,(S.sel [] G G).newNil _ _ _⟩
 have hz:askdE y l u=0:=by omega
 obtain ⟨ha9,hb9⟩:=hab hz
 subst ha9;subst hb9
 have hok:=mC (qE (Fe hz).1).1
 have hdy:=hok.days
 have hD:((y.days.toNat:Nat):Int)=y.days:=by omega
 refine wp_skip ?_
 refine k3 _ _ ?_
 refine sS H fun K6 k6=>sr 1 rfl<|sE ?_;clear H a;intro a H
 refine k6 _ ?_;clear k6 K6
 refine wp_seq_k fun K7 k7=>?_
 refine sS H fun K8 k8=>sf dK rfl<|sl S 1 aE G G G<|sr 1 rfl<|sE ?_;clear H a;intro a H
 refine k8 _ ?_;clear k8 K8
 refine wp_block ?_
 replace S:=S.newNil 3 1 (wcl [])
 refine loop_st (X:=Nat×List Nat×Option Addr×Nat) (R0:=_) [8,23] H rfl (fun ⟨d,wl,A9,c9⟩=>[(10,.slice A9 wl.length c9),(24,.int .i64 (d:Int))]) (fun ⟨d,wl,A9,c9⟩=>[ownM 3 1 A9 wl.length c9 (wcl wl)]) (fun g ⟨d,wl,A9,c9⟩=>d≤y.days.toNat∧g+d=y.days.toNat∧wl=filtN (runsY y l u.toNat) d) (y.days.toNat) (0,[],none,0) ?_ (S.sel [0,1,2] G G) (H.keep [10,24,8,23] rfl) ?_
 · exact ⟨by omega,by omega,rfl⟩
 clear H S a
 intro g1 x1 a w1 hp S H K9 k9
 obtain ⟨d,wl,A9,c9⟩:=x1
 dsimp only at hp S H
 obtain ⟨hdl,hgd,hW⟩:=hp
 have hwn:wl.length≤d:=by rw [hW];exact uC d
 refine sS H fun K10 k10=>sr 1 rfl<|sE ?_;clear H a;intro a H
 refine k10 _ ?_;clear k10 K10
 refine wp_seq_k fun K11 k11=>?_
 refine condL H rfl (fun hc2=>?_) (fun hc2=>?_)
 ·skip
  refine wp_skip ?_
  refine k11 _ _ ?_
  refine wp_seq_k fun K12 k12=>?_
  refine wp_block ?_
  refine sS H fun K13 k13=>sr 2 rfl<|sE ?_;clear H a;intro a H
  refine k13 _ ?_;clear k13 K13
  refine sS H fun K14 k14=>sf nP rfl<|sl S 1 aE G G G<|sr 1 rfl<|sd (fD G G (by omega) (by omega))<|sd (eL G G)<|sr 1 rfl<|sE ?_;clear H a;intro a H
  refine k14 _ ?_;clear k14 K14
  refine condE H rfl (fun hc3=>?_) (fun hc3=>?_)
  ·skip
   replace H:=H.keep [8,10,11,23,24] rfl
   refine one_list ?_
   refine ls 2 H<|sr 2 rfl<|sE ?_;clear H a;intro a H
   refine aY H rfl S aS bA iC G G G G G G G G G ?_;clear H a S;intro A1 _ a hA1 S H
   refine cB H rfl S aS bA iC rG G G (i:=1) G G G (ownM.inS S (i:=0) rfl) (iD (one rfl)) (by omega) (by omega) ?_;clear H a S;intro A2 c2 _ a S H
   replace S:=S.recell (i:=1) rfl (cell':=wcl (wl++[d])) (fun k j hk hj=>Ih rfl k j hk hj)
   rw [show wl.length+1=(wl++[d]).length by simp] at H S
   refine ls 1 H<|sr 1 rfl<|sE ?_;clear H a;intro a H
   refine k12 _ _ ?_
   refine sO H<|sd (aK G G (by unfold i64ok;omega))<|sr 1 rfl<|sE ?_;clear H a;intro a H
   exact k9 (g1-1) (d+1,_,_,_) a _ (by omega) (⟨by omega,by omega,by rw [hW];exact Rx (Rz (show d<y.days.toNat by omega) hc3)⟩) (S.sel [1,2,3] G G) (H.keep [10,24,8,23] rfl)
  refine wp_skip ?_
  refine k12 _ _ ?_
  refine sO H<|sd (aK G G (by unfold i64ok;omega))<|sr 1 rfl<|sE ?_;clear H a;intro a H
  exact k9 (g1-1) (d+1,_,_,_) a _ (by omega) (⟨by omega,by omega,by rw [hW];exact Ry (Sa (show d<y.days.toNat by omega) hc3)⟩) (S.sel [0,1,2] G G) (H.keep [10,24,8,23] rfl)
 refine wp_exit ?_
 refine k7 _ _ ?_
 replace H:=H.keep [10] rfl
 refine sS H fun K18 k18=>sr 3 rfl<|sE ?_;clear H a;intro a H
 refine k18 _ ?_;clear k18 K18
 refine wp_ret ?_
 refine ret2 (fn:=Tryz.f14) rfl H G G ?_
 obtain rfl:d=y.days.toNat:=by omega
 have he:runsL y l u=wl:=by unfold runsL;rw [if_neg (by omega),hW]
 rw [he,hz]
 exact ⟨A9,c9,rfl,(S.sel [0] G G)⟩
end
section
def inside (a b:Int×Int):Prop:=b.1≤a.1∧a.2≤b.2
def bH (day turns cls:Int):Use:=⟨day,turns,cls,false,0,0⟩
theorem Ot {p:Part} {l:List Use} (h:PartOk p l):∀ d k,k+d+1=l.length→(bJ p l k).2≤(fwd p l l.length).2:=by
  intro d
  induction d with
  | zero=>intro k hk;rw [lL (by omega)];exact Int.le_refl _
  | succ d ih=>
    intro k hk
    have h1:=ih (k+1) (by omega)
    have h2:=kB h (show k+1<l.length by omega)
    rw [dS (by omega)]
    unfold meetS
    dsimp only
    omega
theorem sX (p:Part) (l:List Use):hH p l=(fwd p l l.length).2:=by
  unfold hH
  split
  · rename_i h;rw [h];rfl
  · rfl
theorem Ou {p:Part} {l:List Use} (h:PartOk p l):∀ d k,k+d=l.length→sumT l k≤sumT l l.length:=by
  intro d
  induction d with
  | zero=>intro k hk;rw [show k=l.length by omega];exact Int.le_refl _
  | succ d ih=>
    intro k hk
    have h1:=ih (k+1) (by omega)
    have hu:=h.use (show k<l.length by omega)
    unfold useOk at hu
    simp only [decide_eq_true_eq] at hu
    rw [sumT] at h1
    omega
theorem Sl {p:Part} {l:List Use} (h:PartOk p l):∀ d k,k+d+1=l.length→(l.getD k Use.zero).day≤prevD l l.length:=by
  intro d
  induction d with
  | zero=>intro k hk;rw [show l.length=k+1 by omega];exact Int.le_refl _
  | succ d ih=>
    intro k hk
    have h1:=ih (k+1) (by omega)
    have hu:=h.use (show k+1<l.length by omega)
    unfold useOk at hu
    simp only [decide_eq_true_eq] at hu
    have:prevD l (k+1)=(l.getD k Use.zero).day:=rfl
    omega
theorem lQ {l:List Use} {u:Use}:(l++[u]).getD l.length Use.zero=u:=by
  rw [List.getD_eq_getElem?_getD,List.getElem?_append_right (Nat.le_refl _)];simp
theorem gX (l:List Use) (u:Use):(l++[u]).take l.length=l:=by simp
theorem Ov {p:Part} {l:List Use} (h:PartOk p l) {day turns cls:Int} (hl:l.length<40) (hd:prevD l l.length≤day∧day≤100000) (ht:0≤turns∧turns≤1000000) (hc:0≤cls∧cls≤(p.rates.length:Int)-1):PartOk p (l++[bH day turns cls]):=by
  refine ⟨h.hdr,h.rates,by simp;omega,?_⟩
  have e:(l++[bH day turns cls]).length=l.length+1:=by simp
  unfold dJ
  rw [e,gG (n:=0),Bool.and_eq_true]
  constructor
  · rw [List.all_eq_true]
    intro i hi
    have hi':=List.mem_range.1 hi
    have h1:=h.use hi'
    have e1:prevD (l++[bH day turns cls]) i=prevD l i:=by
      have:=mW (l:=l++[bH day turns cls]) (m:=l.length) (k:=i) (by omega)
      rw [gX] at this;exact this.symm
    have e2:(l++[bH day turns cls]).getD i Use.zero=l.getD i Use.zero:=by
      have:=iB (l:=l++[bH day turns cls]) (m:=l.length) (k:=i) hi'
      rw [gX] at this;exact this.symm
    rw [e1,e2];exact h1
  · have e1:prevD (l++[bH day turns cls]) l.length=prevD l l.length:=by
      have:=mW (l:=l++[bH day turns cls]) (m:=l.length) (k:=l.length) (Nat.le_refl _)
      rw [gX] at this;exact this.symm
    rw [e1,lQ]
    unfold useOk bH
    simp only [decide_eq_true_eq]
    refine ⟨by omega,by omega,by omega,by omega,fun _=>by constructor <;> trivial⟩
theorem Ow {p:Part} {l:List Use} {day turns cls:Int} (h:IsAt p l l.length):IsAt p (l++[bH day turns cls]) (l++[bH day turns cls]).length:=by
  have e:(l++[bH day turns cls]).length=l.length+1:=by simp
  rw [e]
  refine ⟨by omega,fun k hk=>?_,fun h=>by omega⟩
  by_cases hk2:k<l.length
  · have h1:=h.good k hk2
    have e2:=iB (l:=l++[bH day turns cls]) (m:=l.length) (k:=k) hk2
    have e3:=oC (p:=p) (l:=l++[bH day turns cls]) (m:=l.length) (k+1) (by omega)
    rw [gX] at e2 e3
    unfold fits at *
    rw [←e2,←e3];exact h1
  · rw [show k=l.length by omega]
    refine nW ?_
    rw [lQ];rfl
theorem zH {p:Part} {l:List Use} (h:PartOk p l) (hA:IsAt p l l.length) {day turns cls:Int} (hl:l.length<40) (hd:prevD l l.length≤day∧day≤100000) (ht:0≤turns∧turns≤1000000) (hc:0≤cls∧cls≤(p.rates.length:Int)-1)
    (h1:day≤p.age) (h2:sumT l l.length≤p.turns) (h3:hH p l≤p.worn*1000000) :
    (dE p (l++[bH day turns cls]) Prod.snd).2=0∧((dE p (l++[bH day turns cls]) Prod.snd).1<0↔sumT l l.length+turns≤p.turns∧hH p l+turns*(p.rates.getD cls.toNat (0,0)).2≤p.worn*1000000):=by
  have hok:=Ov h hl hd ht hc
  have hW:wearE p (l++[bH day turns cls])=0:=nX (uE hok) (Ow hA)
  rw [Pw _ hW]
  refine ⟨rfl,?_⟩
  dsimp only
  have e:(l++[bH day turns cls]).length=l.length+1:=by simp
  have early:∀ k,k<l.length→wornB p (l++[bH day turns cls]) k (Prod.snd (bJ p (l++[bH day turns cls]) k))=false:=by
    intro k hk
    have t1:=Fh (p:=p) (l:=l++[bH day turns cls]) (m:=l.length) hk (Prod.snd (bJ p (l++[bH day turns cls]) k))
    have t2:=Fg hok (m:=l.length) (by omega) (fun j h4 h5=>by rw [show j=l.length by omega,lQ];rfl) (l.length-1-k) k (by omega)
    rw [gX] at t1 t2
    rw [←t1,←t2]
    have b1:=Ot h (l.length-1-k) k (by omega)
    have b2:=Ou h (l.length-1-k) (k+1) (by omega)
    have b3:=Sl h (l.length-1-k) k (by omega)
    rw [sX] at h3
    unfold wornB
    simp only [Bool.or_eq_false_iff,decide_eq_false_iff_not]
    omega
  have f1:fwd p (l++[bH day turns cls]) l.length=fwd p l l.length:=by
    have:=oC (p:=p) (l:=l++[bH day turns cls]) (m:=l.length) l.length (Nat.le_refl _)
    rw [gX] at this;exact this.symm
  have s1:sumT (l++[bH day turns cls]) l.length=sumT l l.length:=by
    have:=uD (l:=l++[bH day turns cls]) (m:=l.length) l.length (Nat.le_refl _)
    rw [gX] at this;exact this.symm
  have last:wornB p (l++[bH day turns cls]) l.length (Prod.snd (bJ p (l++[bH day turns cls]) l.length))=!(decide (sumT l l.length+turns≤p.turns)&&decide (hH p l+turns*(p.rates.getD cls.toNat (0,0)).2≤p.worn*1000000)):=by
    rw [lL (by omega),e,qC (by rw [lQ];rfl),f1]
    unfold wornB
    rw [sumT,s1,lQ,sX]
    rw [Bool.eq_iff_iff]
    simp only [Bool.or_eq_true,decide_eq_true_eq,Bool.not_eq_true',Bool.and_eq_false_iff,decide_eq_false_iff_not]
    unfold addS cF bH
    dsimp only
    omega
  rcases vV (fun k=>wornB p (l++[bH day turns cls]) k (Prod.snd (bJ p (l++[bH day turns cls]) k))) (l++[bH day turns cls]).length with ⟨g1,g2⟩|⟨k,hk,g1,g2,g3⟩
  · rw [g1]
    have g4:=g2 l.length (by omega)
    rw [last] at g4
    simp only [Bool.not_eq_false',Bool.and_eq_true,decide_eq_true_eq] at g4
    exact ⟨fun _=>g4,fun _=>by decide⟩
  · rw [g1]
    constructor
    · intro hlt;omega
    · intro hle
      exfalso
      rcases Nat.lt_or_ge k l.length with h5|h5
      · rw [early k h5] at g2;cases g2
      · rw [show k=l.length by omega,last,decide_eq_true hle.1,decide_eq_true hle.2] at g2
        cases g2
end
section
theorem Kt {p:Part} {l:List Use} (h:PartOk p l) (hA:IsAt p l l.length) {day turns cls:Int} (hl:l.length<40) (hd:prevD l l.length≤day∧day≤100000) (ht:0≤turns∧turns≤1000000) (hc:0≤cls∧cls≤(p.rates.length:Int)-1)
    (h1:day≤p.age) (h2:sumT l l.length≤p.turns) (h3:hH p l≤p.worn*1000000):bydB p (l++[bH day turns cls])=!(decide (sumT l l.length+turns≤p.turns)&&decide (hH p l+turns*(p.rates.getD cls.toNat (0,0)).2≤p.worn*1000000)):=by
  obtain ⟨e1,e2⟩:=zH h hA hl hd ht hc h1 h2 h3
  unfold bydB
  rw [decide_eq_true e1,Bool.not_true,Bool.false_or]
  by_cases h9:sumT l l.length+turns≤p.turns∧hH p l+turns*(p.rates.getD cls.toNat (0,0)).2≤p.worn*1000000
  · have:=e2.2 h9
    rw [decide_eq_true h9.1,decide_eq_true h9.2,decide_eq_false (by omega)];rfl
  · have h8:¬ (dE p (l++[bH day turns cls]) Prod.snd).1<0:=fun h=>h9 (e2.1 h)
    rw [decide_eq_true (p:=0≤_) (by omega)]
    by_cases h7:sumT l l.length+turns≤p.turns
    · rw [decide_eq_true h7,decide_eq_false (fun h=>h9 ⟨h7,h⟩)];rfl
    · rw [decide_eq_false h7];rfl
theorem Gf {p:Part} {l:List Use} (h:∀ k,k<l.length→(l.getD k Use.zero).meas=false):IsAt p l l.length:=
  ⟨Nat.le_refl _,fun k hk=>nW (h k hk),fun h=>absurd h (Nat.lt_irrefl _)⟩
def exPt:Part:=⟨[(1,2)],1,1000000,1000⟩
def exU0 (RA:Option Addr) (rc:Nat):Unt:=⟨0,2,0,[(1,2)],RA,rc,1,1000000,1000,[],none,0,0,400000,0,0⟩
section
variable {PA:Option Addr} {pc:Nat} {XA:Option Addr} {xc:Nat} {BA:Option Addr} {bc:Nat} {QA:Option Addr} {qc:Nat} {VA:Option Addr} {vc:Nat} {RA:Option Addr} {rc:Nat}
end
theorem Ax (l:List Use) {day turns:Int} {b:Bool} (h:bX exPt l=0) (hm:∀ k,k<l.length→(l.getD k Use.zero).meas=false) (hl:l.length<40) (hd:prevD l l.length≤day∧day≤1000) (ht:0≤turns∧turns≤1000000)
    (h2:sumT l l.length≤1000000) (h3:hH exPt l≤1000000) (hb:b=(decide (sumT l l.length+turns≤1000000)&&decide (hH exPt l+turns*2≤1000000))):bydB exPt (l++[bH day turns 0])=!b:=by
  rw [Kt (kA h) (Gf hm) hl (by omega) ht (by decide) (by show day≤1000;omega) (by show _≤(1000000:Int);omega) (by show _≤(1:Int)*1000000;omega),hb]
  rfl
def us1 (d:Int) (t:Int):Use:=⟨d,t,0,false,0,0⟩
section
variable {RA:Option Addr} {rc:Nat} {J:Nat→Int}
theorem m1 {P:Use→Prop} {u:Use} (h:P u):∀ k,k<[u].length→P ([u].getD k Use.zero):=fun k hk=>by
  have:k=0:=by simp at hk;omega
  subst this
  exact h
theorem m2 {P:Use→Prop} {u v:Use} (h:P u) (h':P v):∀ k,k<[u,v].length→P ([u,v].getD k Use.zero):=fun k hk=>by
  have:k=0∨k=1:=by simp at hk;omega
  rcases this with rfl|rfl
  · exact h
  · exact h'
theorem byd0 (t:Int) (ht:t=400000∨t=1000):bydB exPt [bH 0 t 0]=false:=by
  rcases ht with rfl|rfl
  · exact Ax [] (b:=true) (by decide +kernel) (fun q hq=>absurd hq (Nat.not_lt_zero q)) (by decide) (by decide) (by decide) (by decide) (by decide) (by decide +kernel)
  · exact Ax [] (b:=true) (by decide +kernel) (fun q hq=>absurd hq (Nat.not_lt_zero q)) (by decide) (by decide) (by decide) (by decide) (by decide) (by decide +kernel)
theorem byd1 (d:Int) (hd:0≤d∧d≤1000):bydB exPt [us1 0 400000,bH d 400000 0]=true:=
  Ax [us1 0 400000] (b:=false) (by decide +kernel) (m1 (P:=fun u=>u.meas=false) rfl) (by decide) hd (by decide) (by decide +kernel) (by decide +kernel) (by decide +kernel)
theorem Ku {u:Unt} {s:LSt} {j:Int} {d:Nat} {b b':Bool} (h:bydB u.part (s.uses++[useAt u d s.born])=b) (h2:b'=((decide (j=0)&&certN u s j d)&&!b)):runN u s j d=b':=by unfold runN;rw [h,h2]
theorem Sm {u:Unt} {s:LSt} {j:Int} {d:Nat} (h:runN u s j d=true) (hr:renw j=false):stepL u s j d=⟨s.uses++[useAt u d s.born],s.born,seenN s j d⟩:=by unfold stepL;rw [hr,h];rfl
theorem Sn {u:Unt} {s:LSt} {j:Int} {d:Nat} (h:runN u s j d=false) (hr:renw j=false):stepL u s j d=⟨s.uses,s.born,seenN s j d⟩:=by unfold stepL;rw [hr,h];rfl
theorem Ul (h:J 0=0):runB' (exU0 RA rc) J 0=true:=by
  show runN (exU0 RA rc) ⟨[],0,0⟩ (J 0) 0=true
  rw [h];exact Ku (byd0 400000 (.inl rfl)) rfl
theorem Uq (h:J 0=0):lifeS (exU0 RA rc) J 1=⟨[us1 0 400000],0,0⟩:=by
  show stepL (exU0 RA rc) ⟨[],0,0⟩ (J 0) 0=_
  have h1:runN (exU0 RA rc) ⟨[],0,0⟩ (J 0) 0=true:=Ul (RA:=RA) (rc:=rc) h
  rw [h] at h1 ⊢
  rw [Sm h1 (by decide)];rfl
theorem Ox {d:Nat} (hd:d≤3) (s j:Int):runN (exU0 RA rc) ⟨[us1 0 400000],0,s⟩ j d=false:=
  Ku (b:=true) (by
    show bydB exPt [us1 0 400000,bH ((d:Int)-0) 400000 0]=true
    rw [Int.sub_zero];exact byd1 d (by omega)) (by simp)
theorem Um {d:Nat} (hd:d≤3) (h1:lifeS (exU0 RA rc) J d=⟨[us1 0 400000],0,0⟩) (h:J d=0):lifeS (exU0 RA rc) J (d+1)=⟨[us1 0 400000],0,0⟩:=by
  show stepL (exU0 RA rc) (lifeS (exU0 RA rc) J d) (J d) d=_
  rw [h1,h,Sn (Ox hd 0 0) (by decide)];rfl
theorem z0 (h:∀ d,J d=0) {d:Nat} (hd:d≤3):runB' (exU0 RA rc) J d=decide (d=0):=by
  have h1:=Uq (RA:=RA) (rc:=rc) (h 0)
  have h2:=Um (by omega) h1 (h 1)
  have h3:=Um (by omega) h2 (h 2)
  match d,hd with
  | 0,_=>exact Ul (h 0)
  | 1,_=>unfold runB';rw [h1];exact Ox (by omega) _ _
  | 2,_=>unfold runB';rw [h2];exact Ox (by omega) _ _
  | 3,_=>unfold runB';rw [h3];exact Ox (by omega) _ _
end
end
section
section
variable {PA:Option Addr} {pc:Nat} {XA:Option Addr} {xc:Nat} {BA:Option Addr} {bc:Nat} {QA:Option Addr} {qc:Nat} {VA:Option Addr} {vc:Nat} {RA:Option Addr} {rc:Nat}
end
end
section
inductive Xt where
  | nil
  | q (i:Nat) (t:Xt)
  | p (i:Nat) (t:Xt)
  | e (i:Nat) (t:Xt)
  | b2 (i:Nat) (t:Xt) (j:Nat) (u:Xt)
  | b3 (i:Nat) (t:Xt) (j:Nat) (u:Xt) (k:Nat) (v:Xt)
  | b4 (i:Nat) (t:Xt) (j:Nat) (u:Xt) (k:Nat) (v:Xt) (m:Nat) (x:Xt)
section
variable {P:Program} {ops:Array Oper} {C:World→Prop} {Qn:Act→World→Prop}
def xt (P:Program) (ops:Array Oper) (C:World→Prop) (z:Nat) (Qn:Act→World→Prop):Xt→Act→World→Prop
  | .nil,a,w=>Qn a w
  | .q i t,a,w=>∃ o v,ops[i]?=some o∧Yd P ops C o v a∧xt P ops C z Qn t (a.put o.dst v) w
  | .p i t,a,w=>∃ o v,ops[i]?=some o∧Yd P ops (fun _=>True) o v a∧xt P ops C z Qn t (a.put o.dst v) w
  | .e i t,a,w=>wpOp P ops NoQ i (fun a' w'=>(i=z∨C w')∧xt P ops C z Qn t a' w') a w
  | .b2 i t j u,a,w=>wpOp P ops NoQ i (fun a' w'=>(i=z∨C w')∧xt P ops C z Qn t a' w') a w∧wpOp P ops NoQ j (fun a' w'=>(j=z∨C w')∧xt P ops C z Qn u a' w') a w
  | .b3 i t j u k v,a,w=>wpOp P ops NoQ i (fun a' w'=>(i=z∨C w')∧xt P ops C z Qn t a' w') a w∧wpOp P ops NoQ j (fun a' w'=>(j=z∨C w')∧xt P ops C z Qn u a' w') a w∧wpOp P ops NoQ k (fun a' w'=>(k=z∨C w')∧xt P ops C z Qn v a' w') a w
  | .b4 i t j u k v m x,a,w=>wpOp P ops NoQ i (fun a' w'=>(i=z∨C w')∧xt P ops C z Qn t a' w') a w∧wpOp P ops NoQ j (fun a' w'=>(j=z∨C w')∧xt P ops C z Qn u a' w') a w∧wpOp P ops NoQ k (fun a' w'=>(k=z∨C w')∧xt P ops C z Qn v a' w') a w∧wpOp P ops NoQ m (fun a' w'=>(m=z∨C w')∧xt P ops C z Qn x a' w') a w
end
section
variable {P:Program} {w w0:World} {F0:Nat→Prop} {R RE:List Mem} {Q:Exit→Act→World→Prop} {Qn:Act→World→Prop} {l:List Oper} {N:FN} {L:List (Nat×Value)} {a:Act} {ty:TypeId} {pos:String} {af:Array Edge} {op:Op} {y:Code} {id z:Nat} {ops:Array Oper} {π t u v3:Xt}
end
end
section
section
variable {w:World} {F:Nat→Prop} {PA:Option Addr} {pc:Nat} {XA:Option Addr} {xc:Nat} {BA:Option Addr} {bc:Nat} {QA:Option Addr} {qc:Nat} {VA:Option Addr} {vc:Nat} {RA:Option Addr} {rc:Nat}
end
end
section
section
variable {pl T0:Int} {ps:List Psg} {xs pe:List Int}
end
end
section
theorem Oy {y:Yr} {l:List Tsk} {w w':World} {v:Value} (hte:taskE y l=0) (h:(taskE y l≠0∧v = .tuple #[.slice none 0 0,.int .i64 (taskE y l)]∧St w noF [] w')∨(taskE y l=0∧∃ A c,v = .tuple #[.slice A y.days.toNat c,.int .i64 0]∧St w noF [ownM 3 1 A y.days.toNat c (setsV y l y.us.length)] w')):∃ A c,v = .tuple #[.slice A y.days.toNat c,.int .i64 0]∧St w noF [ownM 3 1 A y.days.toNat c (setsV y l y.us.length)] w':=by
  rcases h with ⟨h0,_⟩|⟨_,h⟩
  · exact absurd hte h0
  · exact h
section
variable {y:Yr} {l:List Tsk} {u:Int} {i:Nat}
end
end
section
theorem lowA_next {l:List Int} {lo:Int} {k:Nat}:lowA l lo (k+1)=l.getD k 0+1:=by unfold lowA;rw [if_neg (by omega)];rfl
theorem pwh {hz:Int} (h:0≤hz∧hz≤12):0≤(1:Int)*2^hz.toNat∧(1:Int)*2^hz.toNat≤4096:=by
  rw [Int.one_mul]
  have h8:2^hz.toNat≤4096:=Nat.le_trans (Nat.pow_le_pow_right (by omega) (show hz.toNat≤12 by omega)) (by decide)
  have e:(2:Int)^hz.toNat=((2^hz.toNat:Nat):Int):=(Int.natCast_pow 2 hz.toNat).symm
  rw [e]
  exact ⟨Int.natCast_nonneg _,Int.ofNat_le.2 h8⟩
def bcl (l:List Bool):Nat→Nat→Value:=fun k _ => .bool (l.getD k false)
theorem Gg {l:List Bool} {k:Nat} (hk:k<l.length) (h:(l.take k).all (fun b=>b)=true) (h2:l.getD k false=true):(l.take (k+1)).all (fun b=>b)=true:=by
  rw [List.getD_eq_getElem?_getD,List.getElem?_eq_getElem hk] at h2
  rw [List.take_succ_eq_append_getElem hk,List.all_append,h]
  simpa using h2
theorem Oz {l:List Bool} {k:Nat} (hk:k<l.length) (h:l.getD k false=false):l.all (fun b=>b)=false:=by
  rw [List.getD_eq_getElem?_getD,List.getElem?_eq_getElem hk] at h
  cases hb:l.all (fun b=>b) with
  | false=>rfl
  | true=>have:=List.all_eq_true.1 hb _ (List.getElem_mem hk);simp at h;rw [h] at this;cases this
theorem Gh (n many:Int) (w:World) (hm:0≤many∧many≤12) :
    Calls Tryz.prog 151 [.int .i64 n,.int .i64 many].toArray w (Ret (fun u w'=>u = .bool (setB n many)∧St w noF [] w')):=by
 have hpw:=pwh hm
 refine enter Tryz.func151 rfl Tryz.ntmps151 rfl (fun a H=>?_)
 have S:=St.start w
 refine sS H fun K1 k1=>sr 1 rfl<|sE ?_;clear H a;intro a H
 refine k1 _ ?_;clear k1 K1
 replace H:=H.keep [0,1] rfl
 refine sS H fun K2 k2=>sr 3 rfl<|sg 4 2 7 11 true G G (fun hg3=>sy hg3<|sr 1 rfl<|sy hg3<|sr 1 rfl<|sy hg3<|sd (dG G G (by omega) (by omega) (by unfold i64ok;omega))<|sy hg3<|sr 1 rfl<|sz 4 G G G)<|sa G G G<|sr 1 rfl<|sE ?_;clear H a;intro a H
 refine k2 _ ?_;clear k2 K2
 refine wp_ret ?_
 refine ret1 (fn:=Tryz.f151) rfl H rfl ?_
 exact ⟨rfl,(S.sel [] G G)⟩
theorem Ay (n:Int) (w:World) :
    Calls Tryz.prog 153 [.int .i64 n].toArray w (Ret (fun u w'=>u = .bool (!decide (n=1))∧St w noF [] w')):=by
 refine enter Tryz.func153 rfl Tryz.ntmps153 rfl (fun a H=>?_)
 have S:=St.start w
 refine sS H fun K1 k1=>sr 1 rfl<|sE ?_;clear H a;intro a H
 refine k1 _ ?_;clear k1 K1
 refine sS H fun K2 k2=>sr 3 rfl<|sE ?_;clear H a;intro a H
 refine k2 _ ?_;clear k2 K2
 refine wp_ret ?_
 refine ret1 (fn:=Tryz.f153) rfl H rfl ?_
 exact ⟨rfl,(S.sel [] G G)⟩
theorem jO (l:List Int) (A:Option Addr) (cp:Nat) (lo hi:Int) (w:World) (hl:InS w noF 1 A l.length (icl l)) (hn:l.length≤9223372036854775807) (hlo:0≤lo∧lo≤1000) (hhi:0≤hi∧hi≤1000) :
    Calls Tryz.prog 152 [.slice A l.length cp,.int .i64 lo,.int .i64 hi].toArray w (Ret (fun u w'=>u = .bool (ascB l lo hi)∧St w noF [] w')):=by
 refine enter Tryz.func152 rfl Tryz.ntmps152 rfl (fun a H=>?_)
 have S:=St.start w
 refine sS H fun K1 k1=>sr 1 rfl<|sE ?_;clear H a;intro a H
 refine k1 _ ?_;clear k1 K1
 refine wp_seq_k fun K2 k2=>?_
 refine sS H fun K3 k3=>sr 1 rfl<|sL aS rfl<|sr 1 rfl<|sE ?_;clear H a;intro a H
 refine k3 _ ?_;clear k3 K3
 refine wp_block ?_
 refine loop_st (X:=Nat×Int) (R0:=_) [2,9,10] H rfl (fun ⟨k,lw⟩=>[(1,.int .i64 lw),(11,.int .i64 (k:Int))]) (fun ⟨k,lw⟩=>[]) (fun g ⟨k,lw⟩=>k≤l.length∧g+k=l.length∧(0≤lw∧lw≤1000)∧lw=lowA l lo k∧∀ q,q<k→ascP l lo hi q=true) (l.length) (0,lo) ?_ (S.sel [] G G) (H.keep [1,11,2,9,10] rfl) ?_
 · exact ⟨by omega,by omega,by omega,rfl,fun q hq=>absurd hq (Nat.not_lt_zero q)⟩
 clear H S a
 intro g1 x1 a w1 hp S H K4 k4
 obtain ⟨k,lw⟩:=x1
 dsimp only at hp S H
 refine sS H fun K5 k5=>sr 1 rfl<|sE ?_;clear H a;intro a H
 refine k5 _ ?_;clear k5 K5
 refine wp_seq_k fun K6 k6=>?_
 refine condL H rfl (fun hc1=>?_) (fun hc1=>?_)
 ·skip
  refine wp_skip ?_
  refine k6 _ _ ?_
  refine wp_seq_k fun K7 k7=>?_
  refine wp_block ?_
  refine sS H fun K8 k8=>si aS bA G G (hl.adr (by omega)) (by omega)<|slm aE rfl (hl.rd S (by omega) (by omega))<|sr 1 rfl<|sE ?_;clear H a;intro a H
  refine k8 _ ?_;clear k8 K8
  refine wp_seq_k fun K9 k9=>?_
  replace H:=H.keep [1,2,8,9,10,11] rfl
  refine sS H fun K10 k10=>sr 4 rfl<|sg 3 3 18 21 false G G (fun hg4=>sy hg4<|sr 1 rfl<|sy hg4<|sr 1 rfl<|sy hg4<|sr 1 rfl<|sz 3 G G G)<|so G G G<|sE ?_;clear H a;intro a H
  refine k10 _ ?_;clear k10 K10
  refine cond_ H rfl (fun hc2=>?_) (fun hc2=>?_)
  ·skip
   try simp only [o1,o2,o3,o4,o5,o6,o7,o8,o9,oa] at hc2
   have hcx:=hc2
   refine sS H fun K11 k11=>sr 1 rfl<|sE ?_;clear H a;intro a H
   refine k11 _ ?_;clear k11 K11
   refine wp_ret ?_
   refine ret1 (fn:=Tryz.f152) rfl H rfl ?_
   rw [Md (k:=k) (by omega) (by unfold ascP;rw [←hp.2.2.2.1];exact decide_eq_false (by simp at hcx;omega))];exact ⟨rfl,(S.sel [] G G)⟩
  try simp only [o1,o2,o3,o4,o5,o6,o7,o8,o9,oa] at hc2
  have hcx:=hc2
  refine wp_skip ?_
  refine k9 _ _ ?_
  simp at hcx
  replace H:=H.keep [2,8,9,10,11] rfl
  refine sO H<|sr 1 rfl<|sd (aK G G (by unfold i64ok;omega))<|sr 1 rfl<|sE ?_;clear H a;intro a H
  refine k7 _ _ ?_
  refine sO H<|sd (aK G G (by unfold i64ok;omega))<|sr 1 rfl<|sE ?_;clear H a;intro a H
  exact k4 (g1-1) (k+1,_) a _ (by omega) (⟨by omega,by omega,by omega,lowA_next.symm,fun q hq=>if h9:q<k then hp.2.2.2.2 q h9 else by
        obtain rfl:q=k:=by omega
        unfold ascP;rw [←hp.2.2.2.1];exact decide_eq_true (by omega)⟩) (S.sel [] G G) (H.keep [1,11,2,9,10] rfl)
 refine wp_exit ?_
 refine k2 _ _ ?_
 refine sS H fun K14 k14=>sr 1 rfl<|sE ?_;clear H a;intro a H
 refine k14 _ ?_;clear k14 K14
 refine wp_ret ?_
 refine ret1 (fn:=Tryz.f152) rfl H rfl ?_
 rw [Mc (fun q hq=>hp.2.2.2.2 q (by omega))];exact ⟨rfl,(S.sel [] G G)⟩
theorem Az (l:List Bool) (A:Option Addr) (cp:Nat) (w:World) (hl:InS w noF 1 A l.length (bcl l)) (hn:l.length≤9223372036854775807) :
    Calls Tryz.prog 180 [.slice A l.length cp,.bool false].toArray w (Ret (fun u w'=>∃ n:Int,u = .int .i64 n∧decide (0≤n)=!(l.all fun b=>b)∧St w noF [] w')):=by
 refine enter Tryz.func180 rfl Tryz.ntmps180 rfl (fun a H=>?_)
 have S:=St.start w
 refine sS H fun K1 k1=>sr 1 rfl<|sE ?_;clear H a;intro a H
 refine k1 _ ?_;clear k1 K1
 refine wp_seq_k fun K2 k2=>?_
 refine sS H fun K3 k3=>sr 1 rfl<|sL Ab rfl<|sr 1 rfl<|sE ?_;clear H a;intro a H
 refine k3 _ ?_;clear k3 K3
 refine wp_block ?_
 refine loop_st (X:=Nat) (R0:=_) [0,1,7] H rfl (fun k=>[(8,.int .i64 (k:Int))]) (fun k=>[]) (fun g k=>k≤l.length∧g+k=l.length∧(l.take k).all (fun b=>b)=true) (l.length) 0 ?_ (S.sel [] G G) (H.keep [8,0,1,7] rfl) ?_
 · exact ⟨by omega,by omega,rfl⟩
 clear H S a
 intro g1 x1 a w1 hp S H K4 k4
 obtain ⟨k,rfl⟩:∃ y,y=x1:=⟨_,rfl⟩
 refine sS H fun K5 k5=>sr 1 rfl<|sE ?_;clear H a;intro a H
 refine k5 _ ?_;clear k5 K5
 refine wp_seq_k fun K6 k6=>?_
 refine condL H rfl (fun hc1=>?_) (fun hc1=>?_)
 ·skip
  refine wp_skip ?_
  refine k6 _ _ ?_
  refine wp_seq_k fun K7 k7=>?_
  refine wp_block ?_
  refine sS H fun K8 k8=>sr 2 rfl<|sE ?_;clear H a;intro a H
  refine k8 _ ?_;clear k8 K8
  refine sS H fun K9 k9=>sr 3 rfl<|si Ab Ha G G (hl.adr (by omega)) (by omega)<|slm jE rfl (hl.rd S (by omega) (by omega))<|sd (De Tryz.underlying4 G G)<|sE ?_;clear H a;intro a H
  refine k9 _ ?_;clear k9 K9
  refine cond_ H rfl (fun hc2=>?_) (fun hc2=>?_)
  ·skip
   try simp only [o1,o2,o3,o4,o5,o6,o7,o8,o9,oa] at hc2
   replace H:=H.keep [5] rfl
   refine sS H fun K10 k10=>sr 2 rfl<|sE ?_;clear H a;intro a H
   refine k10 _ ?_;clear k10 K10
   refine wp_ret ?_
   refine ret1 (fn:=Tryz.f180) rfl H rfl ?_
   exact ⟨_,rfl,by rw [Oz (k:=k) (by omega) (by simpa using hc2)];exact decide_eq_true (by omega),(S.sel [] G G)⟩
  try simp only [o1,o2,o3,o4,o5,o6,o7,o8,o9,oa] at hc2
  refine wp_skip ?_
  refine k7 _ _ ?_
  refine sO H<|sd (aK G G (by unfold i64ok;omega))<|sr 1 rfl<|sE ?_;clear H a;intro a H
  exact k4 (g1-1) (k+1) a _ (by omega) (⟨by omega,by omega,Gg (by omega) hp.2.2 (by simpa using hc2)⟩) (S.sel [] G G) (H.keep [8,0,1,7] rfl)
 refine wp_exit ?_
 refine k2 _ _ ?_
 refine sS H fun K12 k12=>sr 1 rfl<|sE ?_;clear H a;intro a H
 refine k12 _ ?_;clear k12 K12
 refine wp_ret ?_
 refine ret1 (fn:=Tryz.f180) rfl H rfl ?_
 exact ⟨_,rfl,by rw [←List.take_of_length_le (l:=l) (i:=k) (by omega),hp.2.2];rfl,(S.sel [] G G)⟩
theorem tJ (l:List Bool) (A:Option Addr) (cp:Nat) (w:World) (hl:InS w noF 1 A l.length (bcl l)) (hn:l.length≤9223372036854775807) :
    Calls Tryz.prog 149 [.slice A l.length cp,.bool false].toArray w (Ret (fun u w'=>u = .bool (!(l.all fun b=>b))∧St w noF [] w')):=by
 refine enter Tryz.func149 rfl Tryz.ntmps149 rfl (fun a H=>?_)
 have S:=St.start w
 refine sS H fun K1 k1=>sr 1 rfl<|sE ?_;clear H a;intro a H
 refine k1 _ ?_;clear k1 K1
 refine seq_list fun K2 k2=>?_
 refine ls 2 H<|sr 2 rfl<|sE ?_;clear H a;intro a H
 refine aA H G G Tryz.func180 G G (Az l A cp _ (hl.now S) hn) ?_;clear H a
 rintro _ _ a ⟨n,rfl,hn2,S2⟩ H
 replace S:=S.call S2;clear S2
 refine ls 2 H<|sr 2 rfl<|sE ?_;clear H a;intro a H
 refine k2 _ _ ?_;clear k2 K2
 refine wp_ret ?_
 refine ret1 (fn:=Tryz.f149) rfl H rfl ?_
 exact ⟨congrArg Value.bool hn2,(S.sel [] G G)⟩
end
section
theorem So {b0 b1 b2:Bool} {v0 v1 v2:Value} (h0:v0 = .bool b0) (h1:v1 = .bool b1) (h2:v2 = .bool b2):∀ k j,k<3→j<1→([[v0],[v1],[v2]].getD k []).getD j undef=bcl [b0,b1,b2] k j:=by
  subst h0;subst h1;subst h2
  intro k j hk hj
  obtain rfl:j=0:=by omega
  rcases (show k=0∨k=1∨k=2 by omega) with rfl|rfl|rfl <;> rfl
theorem Ba (hz:Int) (sw:List Int) (SA:Option Addr) (sc:Nat) (ws:List Wr) (QA:Option Addr) (qc cb:Nat) (n:Int) (w:World) (F:Nat→Prop) (S:St w F [boxM cb 121 [.int .i64 hz,.slice SA sw.length sc,.slice QA ws.length qc]] w) (hhz:0≤hz∧hz≤12) :
    Calls Tryz.prog 150 [.int .i64 n,.pointer (some ⟨cb,0,none⟩)].toArray w (Ret (fun u w'=>u = .bool (!setB n hz)∧St w F [boxM cb 121 [.int .i64 hz,.slice SA sw.length sc,.slice QA ws.length qc]] w')):=by
 refine enter Tryz.func150 rfl Tryz.ntmps150 rfl (fun a H=>?_)
 skip
 refine sS H fun K1 k1=>sr 1 rfl<|sE ?_;clear H a;intro a H
 refine k1 _ ?_;clear k1 K1
 refine seq_list fun K2 k2=>?_
 refine ls 3 H<|sr 1 rfl<|sf nO rfl<|sl S 0 aE G G G<|sE ?_;clear H a;intro a H
 refine aA H G G Tryz.func151 G G (Gh n hz _ hhz) ?_;clear H a
 rintro _ _ a ⟨rfl,S2⟩ H
 replace S:=S.call S2;clear S2
 refine ls 2 H<|sr 2 rfl<|sE ?_;clear H a;intro a H
 refine k2 _ _ ?_;clear k2 K2
 refine wp_ret ?_
 refine ret1 (fn:=Tryz.f150) rfl H rfl ?_
 exact ⟨rfl,(S.sel [0] G G)⟩
theorem Pa (hz:Int) (sw:List Int) (SA:Option Addr) (sc:Nat) (ws:List Wr) (QA:Option Addr) (qc cb:Nat) (w:World) (F:Nat→Prop) (S:St w F [boxM cb 121 [.int .i64 hz,.slice SA sw.length sc,.slice QA ws.length qc]] w) (hsw:InS w F 1 SA sw.length (icl sw)) (hn:sw.length≤9223372036854775807) (hhz:0≤hz∧hz≤12):Calls Tryz.prog 43 #[.slice SA sw.length sc,.func (.func 150) #[] #[.pointer (some ⟨cb,0,none⟩)]] w (Ret fun u w'=>u = .bool (sw.any fun n=>!setB n hz)∧St w F [boxM cb 121 [.int .i64 hz,.slice SA sw.length sc,.slice QA ws.length qc]] w'):=by
  have hh:=dF sw SA sc 150 _ [] [.pointer (some ⟨cb,0,none⟩)] (fun n=>!setB n hz) _ w F S hsw hn Tryz.func150 G G (fun k w' hk S'=>Ba hz sw SA sc ws QA qc cb (sw.getD k 0) w' _ S'.startR hhz)
  exact hh
theorem Pb (l:List Int) (A:Option Addr) (cp:Nat) (w:World) (hl:InS w noF 1 A l.length (icl l)) (hn:l.length≤9223372036854775807):Calls Tryz.prog 43 #[.slice A l.length cp,.func (.func 153) #[] #[]] w (Ret fun u w'=>u = .bool (l.any fun n=>!decide (n=1))∧St w noF [] w'):=by
  have S0:=(St.start w).newNil 3 1 (icl [])
  have hh:=dF l A cp 153 _ [] [] (fun n=>!decide (n=1)) _ w noF S0 hl hn Tryz.func153 G G (fun k w' hk S'=>jY (Ay (l.getD k 0) w') fun v w'' h=>⟨h.1,S'.startR.call h.2⟩)
  exact jY hh fun v w'' h=>⟨h.1,h.2.sel [] rfl rfl⟩
end
section
theorem Sp {hz:Int} {sw:List Int} {ws:List Wr}:([(decide (1≤hz)&&decide (hz≤8)),(decide (1≤(sw.length:Int))&&decide ((sw.length:Int)≤12)),(decide (1≤(ws.length:Int))&&decide ((ws.length:Int)≤24))].all fun b=>b)=cirSz hz sw ws:=by unfold cirSz;simp only [List.all_cons,List.all_nil,Bool.and_true]
section
variable {hz:Int} {sw:List Int} {ws:List Wr} {i:Nat}
theorem Kv (h:cirSz hz sw ws=false):circE hz sw ws=30:=lI (by unfold cirOk;rw [h];rfl)
theorem Kw (h:(sw.any fun n=>!setB n hz)=true):circE hz sw ws=30:=lI (by unfold cirOk;rw [h];simp)
theorem oJ (hi:i<ws.length) (h:wrOk sw.length ws.length ws i=false):circE hz sw ws=30:=lI (by
  unfold cirOk
  cases hb:(List.range ws.length).all (wrOk sw.length ws.length ws) with
  | false=>simp
  | true=>rw [List.all_eq_true.1 hb i (List.mem_range.2 hi)] at h;cases h)
theorem Kx (h:¬ heldN ws 0 ws.length=0):circE hz sw ws=30:=lI (by unfold cirOk;rw [decide_eq_false h];simp)
theorem Ky (h:((List.range (ws.length-1)).any fun q=>!decide (heldN ws (q+1) ws.length=1))=true):circE hz sw ws=30:=lI (by unfold cirOk;rw [h];simp)
theorem Kz (h1:cirSz hz sw ws=true) (h2:(sw.any fun n=>!setB n hz)=false) (h3:∀ i,i<ws.length→wrOk sw.length ws.length ws i=true) (h4:heldN ws 0 ws.length=0) (h5:((List.range (ws.length-1)).any fun q=>!decide (heldN ws (q+1) ws.length=1))=false):circE hz sw ws=0:=Dt (by
  unfold cirOk
  rw [h1,h2,decide_eq_true h4,h5,List.all_eq_true.2 (fun i hi=>h3 i (List.mem_range.1 hi))];rfl)
theorem Px (h:cirSz hz sw ws=true):(1≤hz∧hz≤8)∧(1≤sw.length∧sw.length≤12)∧(1≤ws.length∧ws.length≤24):=by
  unfold cirSz at h
  simp only [Bool.and_eq_true,decide_eq_true_eq] at h
  omega
theorem wK {l:List Int} {k:Nat}:∀ q,0≤cntO l k q∧cntO l k q≤q:=fun q=>by
  induction q with
  | zero=>exact ⟨Int.le_refl _,Int.le_refl _⟩
  | succ q ih=>
    have e:cntO l k (q+1)=cntO l k q+(if l.getD q 0=(k:Int) then 1 else 0):=rfl
    rw [e];split <;> omega
theorem nA {k i:Nat}:heldN ws k (i+1)=heldN ws k i+heldW (ws.getD i Wr.zero) k:=rfl
theorem Cv (k:Nat):∀ i,(∀ q,q<i→wrOk sw.length ws.length ws q=true)→0≤heldN ws k i∧heldN ws k i≤8*i:=fun i=>by
  induction i with
  | zero=>intro _;exact ⟨Int.le_refl _,Int.le_refl _⟩
  | succ i ih=>
    intro h
    have h1:=ih fun q hq=>h q (by omega)
    have h2:=h i (by omega)
    rw [nA]
    unfold heldW
    split
    · omega
    · next hk=>
      unfold wrOk at h2
      rw [if_neg hk] at h2
      split at h2
      · simp only [Bool.and_eq_true,decide_eq_true_eq] at h2
        have:=wK (l:=(ws.getD i Wr.zero).of) (k:=k) (ws.getD i Wr.zero).of.length
        omega
      · cases h2
end
section
variable {sw l:List Int} {ws:List Wr} {i k j q:Nat}
theorem Bb (hk:(ws.getD i Wr.zero).kind=1) (h1:(ws.getD i Wr.zero).of.length=1) (h:ascB (ws.getD i Wr.zero).of 0 sw.length=true):wrOk sw.length ws.length ws i=true:=by
  unfold wrOk;rw [if_pos hk,h,decide_eq_true h1];rfl
theorem Bc (hk:(ws.getD i Wr.zero).kind=1) (h:¬ ((ws.getD i Wr.zero).of.length:Int)=1∨ascB (ws.getD i Wr.zero).of 0 sw.length=false):wrOk sw.length ws.length ws i=false:=by
  unfold wrOk;rw [if_pos hk]
  rcases h with h|h
  · rw [decide_eq_false (by omega)];rfl
  · rw [h];simp
theorem mG (h1:¬ (ws.getD i Wr.zero).kind=1) (hk:(ws.getD i Wr.zero).kind=2∨(ws.getD i Wr.zero).kind=3) (h2:1≤(ws.getD i Wr.zero).of.length∧(ws.getD i Wr.zero).of.length≤8) (h:ascB (ws.getD i Wr.zero).of ((i:Int)+1) ws.length=true):wrOk sw.length ws.length ws i=true:=by
  unfold wrOk;rw [if_neg h1,if_pos hk,h,decide_eq_true h2];rfl
theorem pM (h1:¬ (ws.getD i Wr.zero).kind=1) (hk:(ws.getD i Wr.zero).kind=2∨(ws.getD i Wr.zero).kind=3) (h:(((ws.getD i Wr.zero).of.length:Int)<1∨8<((ws.getD i Wr.zero).of.length:Int))∨ascB (ws.getD i Wr.zero).of ((i:Int)+1) ws.length=false):wrOk sw.length ws.length ws i=false:=by
  unfold wrOk;rw [if_neg h1,if_pos hk]
  rcases h with h|h
  · rw [decide_eq_false (by omega)];rfl
  · rw [h];simp
theorem Pc (h1:¬ (ws.getD i Wr.zero).kind=1) (h2:¬ (ws.getD i Wr.zero).kind=2) (h3:¬ (ws.getD i Wr.zero).kind=3):wrOk sw.length ws.length ws i=false:=by
  unfold wrOk;rw [if_neg h1,if_neg (fun h=>h.elim h2 h3)]
theorem sY (h1:(ws.getD i Wr.zero).kind=1):heldN ws k i=heldN ws k (i+1):=by rw [nA];unfold heldW;rw [if_pos h1,Int.add_zero]
theorem pB (h1:¬ (ws.getD i Wr.zero).kind=1) (hq:q=(ws.getD i Wr.zero).of.length):heldN ws k i+cntO (ws.getD i Wr.zero).of k q=heldN ws k (i+1):=by rw [nA];unfold heldW;rw [if_neg h1,hq]
theorem zI (hx:0≤l.getD q 0) (hj:j<1):cput (fun k _ => .int .i64 (heldN ws k i+cntO l k q)) (l.getD q 0).toNat 0 (.int .i64 (heldN ws (l.getD q 0).toNat i+cntO l (l.getD q 0).toNat q+1)) k j = .int .i64 (heldN ws k i+cntO l k (q+1)):=by
  have e:cntO l k (q+1)=cntO l k q+(if l.getD q 0=(k:Int) then 1 else 0):=rfl
  unfold cput
  rw [e]
  by_cases h:k=(l.getD q 0).toNat
  · rw [if_pos ⟨h,by omega⟩,if_pos (by omega),←h,Int.add_assoc]
  · rw [if_neg (fun h9=>h h9.1),if_neg (by omega),Int.add_zero]
end
theorem mH {ws:List Wr}:((List.range (ws.length-1)).map fun q=>heldN ws (q+1) ws.length).length=ws.length-1:=by rw [List.length_map,List.length_range]
theorem uM {ws:List Wr}:(((List.range (ws.length-1)).map fun q=>heldN ws (q+1) ws.length).any fun n=>!decide (n=1))=(List.range (ws.length-1)).any fun q=>!decide (heldN ws (q+1) ws.length=1):=by rw [List.any_map];rfl
theorem La {ws:List Wr} {q:Nat} (h:q<ws.length-1):((List.range (ws.length-1)).map fun q=>heldN ws (q+1) ws.length).getD q 0=heldN ws (q+1) ws.length:=by
  rw [List.getD_eq_getElem?_getD,List.getElem?_eq_getElem (by rw [mH];exact h),Option.getD_some,List.getElem_map,List.getElem_range]
theorem Lb {ws:List Wr} {w:World} {A:Option Addr} (h:InS w noF 1 A ws.length (fun k _ => .int .i64 (heldN ws k ws.length))) (hw:1≤ws.length):InS w noF 1 (cutA A ws.length 1 1) ((List.range (ws.length-1)).map fun q=>heldN ws (q+1) ws.length).length (icl ((List.range (ws.length-1)).map fun q=>heldN ws (q+1) ws.length)):=by
  rw [mH]
  refine (h.cut (lo:=1) (hi:=ws.length) hw (Nat.le_refl _) (Nat.le_refl _)).congr fun k j hk hj=>?_
  unfold icl
  rw [La hk,Nat.add_comm 1 k]
theorem Gi (hz:Int) (sw:List Int) (SA:Option Addr) (sc:Nat) (ws:List Wr) (QA:Option Addr) (qc:Nat) (OA:Nat→Option Addr) (oc:Nat→Nat) (w:World) (hsw:InS w noF 1 SA sw.length (icl sw)) (hws:InS w noF 2 QA ws.length (fO ws OA oc)) (hof:∀ k,k<ws.length→InS w noF 1 (OA k) (ws.getD k Wr.zero).of.length (icl (ws.getD k Wr.zero).of)) (hsn:sw.length≤9223372036854775807) (hwn:ws.length≤9223372036854775807) (hofn:∀ k,k<ws.length→(ws.getD k Wr.zero).of.length≤9223372036854775807) :
    Calls Tryz.prog 120 [.agg [.int .i64 hz,.slice SA sw.length sc,.slice QA ws.length qc].toArray].toArray w (Ret (fun u w'=>u = .int .i64 (circE hz sw ws)∧St w noF [] w')):=by
 refine enter Tryz.func120 rfl Tryz.ntmps120 rfl (fun a H=>?_)
 have S:=St.start w
 refine seq_list fun K1 k1=>?_
 refine aN H rfl S G G ?_;clear H a S;intro b1 _ a hb1 hbw1 S H
 refine ls 1 H<|sr 1 rfl<|sE ?_;clear H a;intro a H
 refine k1 _ _ ?_;clear k1 K1
 replace H:=H.keep [1] rfl
 refine seq_list fun K2 k2=>?_
 refine ls 28 H<|sf nO rfl<|sl S 0 aE G G G<|sr 2 rfl<|sg 3 3 12 15 true G G (fun hg4=>sy hg4<|sf nO rfl<|sy hg4<|sl S 0 aE G G G<|sy hg4<|sr 1 rfl<|sz 3 G G G)<|sa G G G<|sf hZ rfl<|sl S 0 bD G G G<|sL aS rfl<|sr 2 rfl<|sg 4 12 21 25 true G G (fun hg13=>sy hg13<|sf hZ rfl<|sy hg13<|sl S 0 bD G G G<|sy hg13<|sL aS rfl<|sy hg13<|sr 1 rfl<|sz 4 G G G)<|sa G G G<|sf iZ rfl<|sl S 0 kK G G G<|sL kN rfl<|sr 2 rfl<|sg 4 22 31 35 true G G (fun hg23=>sy hg23<|sf iZ rfl<|sy hg23<|sl S 0 kK G G G<|sy hg23<|sL kN rfl<|sy hg23<|sr 1 rfl<|sz 4 G G G)<|sa G G G<|sE ?_;clear H a;intro a H
 refine aY H rfl S Ab Ha Uo G G G G G G G G G ?_;clear H a S;intro A1 _ a hA1 S H
 replace S:=S.recell (i:=0) rfl (cell':=bcl [(decide (1≤hz)&&decide (hz≤8)),(decide (1≤(sw.length:Int))&&decide ((sw.length:Int)≤12)),(decide (1≤(ws.length:Int))&&decide ((ws.length:Int)≤24))]) (So G G G)
 refine ls 1 H<|sr 1 rfl<|sE ?_;clear H a;intro a H
 refine k2 _ _ ?_;clear k2 K2
 refine wp_seq_k fun K3 k3=>?_
 replace H:=H.keep [1,3] rfl
 refine seq_list fun K4 k4=>?_
 refine ls 1 H<|sr 1 rfl<|sE ?_;clear H a;intro a H
 refine aA H G G Tryz.func149 G G (tJ [(decide (1≤hz)&&decide (hz≤8)),(decide (1≤(sw.length:Int))&&decide ((sw.length:Int)≤12)),(decide (1≤(ws.length:Int))&&decide ((ws.length:Int)≤24))] _ _ _ (ownM.inS S (i:=0) rfl) (by simp)) ?_;clear H a
 rintro _ _ a ⟨rfl,S2⟩ H
 replace S:=S.call S2;clear S2
 rw [Sp] at H
 refine ls 1 H<|sr 1 rfl<|sE ?_;clear H a;intro a H
 apply cI (i:=2) (g:=40) (t:=44) (b:=false) 4 H S G G (by kernel_rfl) (by kernel_rfl) G G
 case h1=>
  intro hg3
  refine ls 3 H<|sy hg3<|sf hZ rfl<|sy hg3<|sl S 1 bD G G G<|sy hg3<|sr 1 rfl<|sE ?_;intro a H
  refine cY H G G (by assumption) ?_
  have S1:=(S.sel [1] G G)
  refine aA H G G Tryz.func43 G G (Pa hz sw SA sc ws QA qc b1 _ _ S1.startR (hsw.nowR S1) hsn (by have:=Px (hz:=hz) (sw:=sw) (ws:=ws) (by simpa using hg3);omega)) ?_
  rintro _ _ a ⟨rfl,S2⟩ H
  replace S:=(S.sel [1,0] G G).callR (M:=[_]) S2;clear S1 S2
  exact wpList_nil ⟨H.strip 4 G G,(S.sel [1,0] G G)⟩
 clear H a S;intro a _ H S
 refine ls 1 H<|so G G G<|sE ?_;clear H a;intro a H
 refine k4 _ _ ?_;clear k4 K4
 refine cond_ H rfl (fun hc1=>?_) (fun hc1=>?_)
 ·skip
  try simp only [o1,o2,o3,o4,o5,o6,o7,o8,o9,oa] at hc1
  refine sS H fun K5 k5=>sr 1 rfl<|sE ?_;clear H a;intro a H
  refine k5 _ ?_;clear k5 K5
  refine wp_ret ?_
  refine ret1 (fn:=Tryz.f120) rfl H rfl ?_
  rw [show circE hz sw ws=30 from hc1.elim Kv Kw];exact ⟨rfl,(S.sel [] G G)⟩
 try simp only [o1,o2,o3,o4,o5,o6,o7,o8,o9,oa] at hc1
 refine wp_skip ?_
 refine k3 _ _ ?_
 obtain ⟨hS1,hS2,hS3⟩:=Px hc1.1
 replace H:=H.keep [1] rfl
 refine seq_list fun K6 k6=>?_
 refine ls 3 H<|sf iZ rfl<|sl S 1 kK G G G<|sL kN rfl<|sE ?_;clear H a;intro a H
 refine lS (n:=ws.length) H rfl S aS bA iC rG rfl (by decide) G G (by omega) (by omega) ?_;clear H a S;intro A2 _ a hA2 S H
 generalize A2=AH at S H
 replace S:=S.recell (i:=0) rfl (cell':=fun k _ => .int .i64 (heldN ws k 0)) (fun k j _ hj=>by
   obtain rfl:j=0:=by omega
   rfl)
 refine ls 1 H<|sr 1 rfl<|sE ?_;clear H a;intro a H
 refine k6 _ _ ?_;clear k6 K6
 refine wp_seq_k fun K7 k7=>?_
 refine sS H fun K8 k8=>sf iZ rfl<|sl S 2 kK G G G<|sL kN rfl<|sr 1 rfl<|sE ?_;clear H a;intro a H
 refine k8 _ ?_;clear k8 K8
 refine wp_block ?_
 refine loop_st (X:=Nat) (R0:=_) [1,4,51,52] H rfl (fun i=>[(53,.int .i64 (i:Int))]) (fun i=>[ownM 3 1 AH ws.length ws.length (fun k _ => .int .i64 (heldN ws k i))]) (fun g i=>i≤ws.length∧g+i=ws.length∧∀ q,q<i→wrOk sw.length ws.length ws q=true) (ws.length) 0 ?_ (S.sel [0,1,2] G G) (H.keep [53,1,4,51,52] rfl) ?_
 · exact ⟨by omega,by omega,fun q hq=>absurd hq (Nat.not_lt_zero q)⟩
 clear H S a
 intro g1 x1 a w1 hp S H K9 k9
 obtain ⟨i,rfl⟩:∃ y,y=x1:=⟨_,rfl⟩
 obtain ⟨hi1,hi2,hwk⟩:=hp
 refine sS H fun K10 k10=>sr 1 rfl<|sE ?_;clear H a;intro a H
 refine k10 _ ?_;clear k10 K10
 refine wp_seq_k fun K11 k11=>?_
 refine condL H rfl (fun hc2=>?_) (fun hc2=>?_)
 ·skip
  refine wp_skip ?_
  refine k11 _ _ ?_
  refine wp_seq_k fun K12 k12=>?_
  refine wp_block ?_
  refine seq_list fun K13 k13=>?_
  refine ls 3 H<|sr 1 rfl<|si kN mR G G (hws.adr (by omega)) (by omega)<|sd ((aV Bj mR rfl S hws (by omega) (by omega)))<|sE ?_;clear H a;intro a H
  refine aI H rfl S vK ?_;clear H a S;intro b6 _ a hb6 hbw6 S H
  refine ls 1 H<|sr 1 rfl<|sE ?_;clear H a;intro a H
  refine aD H S (i:=0) G G G G mR G G ?_
  clear H a S;intro _ a S H
  refine k13 _ _ ?_;clear k13 K13
  refine sS H fun K14 k14=>sf xN rfl<|sl S 0 aE G G G<|sE ?_;clear H a;intro a H
  refine k14 _ ?_;clear k14 K14
  refine wp_block ?_
  replace H:=H.keep [1,4,5,6,51,52,53,59] rfl
  refine sS H fun K15 k15=>sr 2 rfl<|sE ?_;clear H a;intro a H
  refine k15 _ ?_;clear k15 K15
  refine condE H rfl (fun hc3=>?_) (fun hc3=>?_)
  ·skip
   replace H:=H.keep [1,4,6,51,52,53] rfl
   refine seq_list fun K16 k16=>?_
   refine ls 5 H<|sf eD rfl<|sl S 0 bD G G G<|sL aS rfl<|sr 2 rfl<|sE ?_;clear H a;intro a H
   apply cI (i:=4) (g:=66) (t:=73) (b:=false) 7 H S G G (by kernel_rfl) (by kernel_rfl) G G
   case h1=>
    intro hg5
    refine ls 5 H<|sy hg5<|sf eD rfl<|sy hg5<|sl S 0 bD G G G<|sy hg5<|sf hZ rfl<|sy hg5<|sl S 3 bD G G G<|sy hg5<|sL aS rfl<|sE ?_;intro a H
    refine cY H G G (by assumption) ?_
    refine aA H G G Tryz.func152 G G (jO (ws.getD i Wr.zero).of (OA i) (oc i) _ _ _ ((hof i (by omega)).now S) (hofn i (by omega)) (by omega) (by omega)) ?_
    rintro _ _ a ⟨rfl,S2⟩ H
    replace S:=S.call S2;clear S2
    refine ls 1 H<|sy hg5<|sr 1 rfl<|sE ?_;intro a H
    exact wpList_nil ⟨H.strip 7 G G,(S.sel [0,1,2,3] G G)⟩
   clear H a S;intro a _ H S
   refine ls 1 H<|so G G G<|sE ?_;clear H a;intro a H
   refine k16 _ _ ?_;clear k16 K16
   refine cond_ H rfl (fun hc4=>?_) (fun hc4=>?_)
   ·skip
    try simp only [o1,o2,o3,o4,o5,o6,o7,o8,o9,oa] at hc4
    replace H:=H.keep [] rfl
    refine sS H fun K17 k17=>sr 1 rfl<|sE ?_;clear H a;intro a H
    refine k17 _ ?_;clear k17 K17
    refine wp_ret ?_
    refine ret1 (fn:=Tryz.f120) rfl H rfl ?_
    rw [oJ (by omega) (Bc hc3 hc4)];exact ⟨rfl,(S.sel [] G G)⟩
   try simp only [o1,o2,o3,o4,o5,o6,o7,o8,o9,oa] at hc4
   refine wp_skip ?_
   refine k12 _ _ ?_
   replace S:=S.recell (i:=1) rfl (cell':=fun k _ => .int .i64 (heldN ws k (i+1))) (fun k j _ _=>congrArg (Value.int .i64) (by first|exact sY hc3|exact pB hc3 (by omega)))
   refine sO H<|sd (aK G G (by unfold i64ok;omega))<|sr 1 rfl<|sE ?_;clear H a;intro a H
   exact k9 (g1-1) (i+1) a _ (by omega) (⟨by omega,by omega,fun q hq=>if h9:q<i then hwk q h9 else by
         obtain rfl:q=i:=by omega
         first|exact Bb hc3 (by omega) hc4.2|exact mG hc3 (.inl hc5) (by omega) hc7.2|exact mG hc3 (.inr hc9) (by omega) hc10.2⟩) (S.sel [1,2,3] G G) (H.keep [53,1,4,51,52] rfl)
  refine wp_seq_k fun K19 k19=>?_
  refine sS H fun K20 k20=>sr 2 rfl<|sE ?_;clear H a;intro a H
  refine k20 _ ?_;clear k20 K20
  refine condE H rfl (fun hc5=>?_) (fun hc5=>?_)
  ·skip
   refine wp_skip ?_
   refine k19 _ _ ?_
   refine cond_ H rfl (fun hc6=>?_) (fun hc6=>?_)
   ·skip
    try simp only [o1,o2,o3,o4,o5,o6,o7,o8,o9,oa] at hc6
    refine wp_seq_k fun K21 k21=>?_
    replace H:=H.keep [1,4,5,6,51,52,53] rfl
    refine seq_list fun K22 k22=>?_
    refine ls 11 H<|sf eD rfl<|sl S 0 bD G G G<|sL aS rfl<|sr 2 rfl<|sg 4 4 82 86 false G G (fun hg5=>sy hg5<|sf eD rfl<|sy hg5<|sl S 0 bD G G G<|sy hg5<|sL aS rfl<|sy hg5<|sr 1 rfl<|sz 4 G G G)<|so G G G<|sr 1 rfl<|sE ?_;clear H a;intro a H
    apply cI (i:=10) (g:=88) (t:=97) (b:=false) 9 H S G G (by kernel_rfl) (by kernel_rfl) G G
    case h1=>
     intro hg11
     refine ls 7 H<|sy hg11<|sf eD rfl<|sy hg11<|sl S 0 bD G G G<|sy hg11<|sr 1 rfl<|sy hg11<|sd (aK G G (by unfold i64ok;omega))<|sy hg11<|sf iZ rfl<|sy hg11<|sl S 3 kK G G G<|sy hg11<|sL kN rfl<|sE ?_;intro a H
     refine cY H G G (by assumption) ?_
     refine aA H G G Tryz.func152 G G (jO (ws.getD i Wr.zero).of (OA i) (oc i) _ _ _ ((hof i (by omega)).now S) (hofn i (by omega)) (by omega) (by omega)) ?_
     rintro _ _ a ⟨rfl,S2⟩ H
     replace S:=S.call S2;clear S2
     refine ls 1 H<|sy hg11<|sr 1 rfl<|sE ?_;intro a H
     exact wpList_nil ⟨H.strip 9 G G,(S.sel [0,1,2,3] G G)⟩
    clear H a S;intro a _ H S
    refine ls 1 H<|so G G G<|sE ?_;clear H a;intro a H
    refine k22 _ _ ?_;clear k22 K22
    refine cond_ H rfl (fun hc7=>?_) (fun hc7=>?_)
    ·skip
     try simp only [o1,o2,o3,o4,o5,o6,o7,o8,o9,oa] at hc7
     replace H:=H.keep [] rfl
     refine sS H fun K23 k23=>sr 1 rfl<|sE ?_;clear H a;intro a H
     refine k23 _ ?_;clear k23 K23
     refine wp_ret ?_
     refine ret1 (fn:=Tryz.f120) rfl H rfl ?_
     rw [oJ (by omega) (pM hc3 (.inl hc5) hc7)];exact ⟨rfl,(S.sel [] G G)⟩
    try simp only [o1,o2,o3,o4,o5,o6,o7,o8,o9,oa] at hc7
    refine wp_skip ?_
    refine k21 _ _ ?_
    refine sS H fun K24 k24=>sf eD rfl<|sl S 0 bD G G G<|sL aS rfl<|sr 1 rfl<|sE ?_;clear H a;intro a H
    refine k24 _ ?_;clear k24 K24
    refine wp_block ?_
    replace S:=S.recell (i:=1) rfl (cell':=fun k _ => .int .i64 (heldN ws k i+cntO (ws.getD i Wr.zero).of k 0)) (fun k j _ hj=>congrArg (Value.int .i64) (Int.add_zero _).symm)
    refine loop_st (X:=Nat) (R0:=_) [1,4,51,52,53,100,101] H rfl (fun q=>[(102,.int .i64 (q:Int))]) (fun q=>[ownM 3 1 AH ws.length ws.length (fun k _ => .int .i64 (heldN ws k i+cntO (ws.getD i Wr.zero).of k q))]) (fun g q=>q≤(ws.getD i Wr.zero).of.length∧g+q=(ws.getD i Wr.zero).of.length) ((ws.getD i Wr.zero).of.length) 0 ?_ (S.sel [1,0,2,3] G G) (H.keep [102,1,4,51,52,53,100,101] rfl) ?_
    · exact ⟨by omega,by omega⟩
    clear H S a
    intro g2 x2 a w2 hp S H K25 k25
    obtain ⟨q,rfl⟩:∃ y,y=x2:=⟨_,rfl⟩
    refine sS H fun K26 k26=>sr 1 rfl<|sE ?_;clear H a;intro a H
    refine k26 _ ?_;clear k26 K26
    refine wp_seq_k fun K27 k27=>?_
    refine condL H rfl (fun hc8=>?_) (fun hc8=>?_)
    ·skip
     refine wp_skip ?_
     refine k27 _ _ ?_
     refine wp_seq_k fun K28 k28=>?_
     refine wp_block ?_
     refine sS H fun K29 k29=>si aS bA G G ((hof i (by omega)).adr (by omega)) (by omega)<|slm aE rfl ((hof i (by omega)).rd S (by omega) (by omega))<|sr 1 rfl<|sE ?_;clear H a;intro a H
     refine k29 _ ?_;clear k29 K29
     have hhb:=Cv (sw:=sw) (ws:=ws) ((ws.getD i Wr.zero).of.getD q 0).toNat i hwk
     have hcb:=wK (l:=(ws.getD i Wr.zero).of) (k:=((ws.getD i Wr.zero).of.getD q 0).toNat) q
     have hxb:(i:Int)+1≤(ws.getD i Wr.zero).of.getD q 0∧(ws.getD i Wr.zero).of.getD q 0<(ws.length:Int):=by first|exact oV hc7.2 (k:=q) (by omega)|exact oV hc10.2 (k:=q) (by omega)
     replace H:=H.keep [1,4,8,51,52,53,100,101,102] rfl
     refine one_list ?_
     refine ls 6 H<|sr 2 rfl<|sI aS bA G G (ownM.adr S (i:=0) rfl (by omega)) (by omega) (by omega)<|slm aE rfl (ownM.rd S (i:=0) rfl (by omega) (by omega))<|sd (aK G G (by unfold i64ok;omega))<|sI aS bA G G (ownM.adr S (i:=0) rfl (by omega)) (by omega) (by omega)<|sE ?_;clear H a;intro a H
     refine cL H S (i:=0) G G G (by omega) (by omega) bA rfl ?_
     clear H a S;intro _ a S H
     replace S:=S.recell (i:=0) rfl (cell':=fun k _ => .int .i64 (heldN ws k i+cntO (ws.getD i Wr.zero).of k (q+1))) (fun k j _ hj=>zI (by omega) hj)
     refine k28 _ _ ?_
     refine sO H<|sd (aK G G (by unfold i64ok;omega))<|sr 1 rfl<|sE ?_;clear H a;intro a H
     exact k25 (g2-1) (q+1) a _ (by omega) (⟨by omega,by omega⟩) (S.sel [0,1,2,3] G G) (H.keep [102,1,4,51,52,53,100,101] rfl)
    refine wp_exit ?_
    refine k12 _ _ ?_
    replace S:=S.recell (i:=0) rfl (cell':=fun k _ => .int .i64 (heldN ws k (i+1))) (fun k j _ _=>congrArg (Value.int .i64) (by first|exact sY hc3|exact pB hc3 (by omega)))
    replace H:=H.keep [1,4,51,52,53] rfl
    refine sO H<|sd (aK G G (by unfold i64ok;omega))<|sr 1 rfl<|sE ?_;clear H a;intro a H
    exact k9 (g1-1) (i+1) a _ (by omega) (⟨by omega,by omega,fun q hq=>if h9:q<i then hwk q h9 else by
          obtain rfl:q=i:=by omega
          first|exact Bb hc3 (by omega) hc4.2|exact mG hc3 (.inl hc5) (by omega) hc7.2|exact mG hc3 (.inr hc9) (by omega) hc10.2⟩) (S.sel [0,2,3] G G) (H.keep [53,1,4,51,52] rfl)
   try simp only [o1,o2,o3,o4,o5,o6,o7,o8,o9,oa] at hc6
   refine sS H fun K33 k33=>sr 1 rfl<|sE ?_;clear H a;intro a H
   refine k33 _ ?_;clear k33 K33
   refine wp_ret ?_
   refine ret1 (fn:=Tryz.f120) rfl H rfl ?_
   exact absurd hc5 hc6
  refine sO H<|sr 2 rfl<|sE ?_;clear H a;intro a H
  refine k19 _ _ ?_
  refine condE H rfl (fun hc9=>?_) (fun hc9=>?_)
  ·skip
   refine wp_seq_k fun K35 k35=>?_
   replace H:=H.keep [1,4,5,6,51,52,53] rfl
   refine seq_list fun K36 k36=>?_
   refine ls 11 H<|sf eD rfl<|sl S 0 bD G G G<|sL aS rfl<|sr 2 rfl<|sg 4 4 82 86 false G G (fun hg5=>sy hg5<|sf eD rfl<|sy hg5<|sl S 0 bD G G G<|sy hg5<|sL aS rfl<|sy hg5<|sr 1 rfl<|sz 4 G G G)<|so G G G<|sr 1 rfl<|sE ?_;clear H a;intro a H
   apply cI (i:=10) (g:=88) (t:=97) (b:=false) 9 H S G G (by kernel_rfl) (by kernel_rfl) G G
   case h1=>
    intro hg11
    refine ls 7 H<|sy hg11<|sf eD rfl<|sy hg11<|sl S 0 bD G G G<|sy hg11<|sr 1 rfl<|sy hg11<|sd (aK G G (by unfold i64ok;omega))<|sy hg11<|sf iZ rfl<|sy hg11<|sl S 3 kK G G G<|sy hg11<|sL kN rfl<|sE ?_;intro a H
    refine cY H G G (by assumption) ?_
    refine aA H G G Tryz.func152 G G (jO (ws.getD i Wr.zero).of (OA i) (oc i) _ _ _ ((hof i (by omega)).now S) (hofn i (by omega)) (by omega) (by omega)) ?_
    rintro _ _ a ⟨rfl,S2⟩ H
    replace S:=S.call S2;clear S2
    refine ls 1 H<|sy hg11<|sr 1 rfl<|sE ?_;intro a H
    exact wpList_nil ⟨H.strip 9 G G,(S.sel [0,1,2,3] G G)⟩
   clear H a S;intro a _ H S
   refine ls 1 H<|so G G G<|sE ?_;clear H a;intro a H
   refine k36 _ _ ?_;clear k36 K36
   refine cond_ H rfl (fun hc10=>?_) (fun hc10=>?_)
   ·skip
    try simp only [o1,o2,o3,o4,o5,o6,o7,o8,o9,oa] at hc10
    replace H:=H.keep [] rfl
    refine sS H fun K37 k37=>sr 1 rfl<|sE ?_;clear H a;intro a H
    refine k37 _ ?_;clear k37 K37
    refine wp_ret ?_
    refine ret1 (fn:=Tryz.f120) rfl H rfl ?_
    rw [oJ (by omega) (pM hc3 (.inr hc9) hc10)];exact ⟨rfl,(S.sel [] G G)⟩
   try simp only [o1,o2,o3,o4,o5,o6,o7,o8,o9,oa] at hc10
   refine wp_skip ?_
   refine k35 _ _ ?_
   refine sS H fun K38 k38=>sf eD rfl<|sl S 0 bD G G G<|sL aS rfl<|sr 1 rfl<|sE ?_;clear H a;intro a H
   refine k38 _ ?_;clear k38 K38
   refine wp_block ?_
   replace S:=S.recell (i:=1) rfl (cell':=fun k _ => .int .i64 (heldN ws k i+cntO (ws.getD i Wr.zero).of k 0)) (fun k j _ hj=>congrArg (Value.int .i64) (Int.add_zero _).symm)
   refine loop_st (X:=Nat) (R0:=_) [1,4,51,52,53,100,101] H rfl (fun q=>[(102,.int .i64 (q:Int))]) (fun q=>[ownM 3 1 AH ws.length ws.length (fun k _ => .int .i64 (heldN ws k i+cntO (ws.getD i Wr.zero).of k q))]) (fun g q=>q≤(ws.getD i Wr.zero).of.length∧g+q=(ws.getD i Wr.zero).of.length) ((ws.getD i Wr.zero).of.length) 0 ?_ (S.sel [1,0,2,3] G G) (H.keep [102,1,4,51,52,53,100,101] rfl) ?_
   · exact ⟨by omega,by omega⟩
   clear H S a
   intro g3 x3 a w3 hp S H K39 k39
   obtain ⟨q,rfl⟩:∃ y,y=x3:=⟨_,rfl⟩
   refine sS H fun K40 k40=>sr 1 rfl<|sE ?_;clear H a;intro a H
   refine k40 _ ?_;clear k40 K40
   refine wp_seq_k fun K41 k41=>?_
   refine condL H rfl (fun hc11=>?_) (fun hc11=>?_)
   ·skip
    refine wp_skip ?_
    refine k41 _ _ ?_
    refine wp_seq_k fun K42 k42=>?_
    refine wp_block ?_
    refine sS H fun K43 k43=>si aS bA G G ((hof i (by omega)).adr (by omega)) (by omega)<|slm aE rfl ((hof i (by omega)).rd S (by omega) (by omega))<|sr 1 rfl<|sE ?_;clear H a;intro a H
    refine k43 _ ?_;clear k43 K43
    have hhb:=Cv (sw:=sw) (ws:=ws) ((ws.getD i Wr.zero).of.getD q 0).toNat i hwk
    have hcb:=wK (l:=(ws.getD i Wr.zero).of) (k:=((ws.getD i Wr.zero).of.getD q 0).toNat) q
    have hxb:(i:Int)+1≤(ws.getD i Wr.zero).of.getD q 0∧(ws.getD i Wr.zero).of.getD q 0<(ws.length:Int):=by first|exact oV hc7.2 (k:=q) (by omega)|exact oV hc10.2 (k:=q) (by omega)
    replace H:=H.keep [1,4,8,51,52,53,100,101,102] rfl
    refine one_list ?_
    refine ls 6 H<|sr 2 rfl<|sI aS bA G G (ownM.adr S (i:=0) rfl (by omega)) (by omega) (by omega)<|slm aE rfl (ownM.rd S (i:=0) rfl (by omega) (by omega))<|sd (aK G G (by unfold i64ok;omega))<|sI aS bA G G (ownM.adr S (i:=0) rfl (by omega)) (by omega) (by omega)<|sE ?_;clear H a;intro a H
    refine cL H S (i:=0) G G G (by omega) (by omega) bA rfl ?_
    clear H a S;intro _ a S H
    replace S:=S.recell (i:=0) rfl (cell':=fun k _ => .int .i64 (heldN ws k i+cntO (ws.getD i Wr.zero).of k (q+1))) (fun k j _ hj=>zI (by omega) hj)
    refine k42 _ _ ?_
    refine sO H<|sd (aK G G (by unfold i64ok;omega))<|sr 1 rfl<|sE ?_;clear H a;intro a H
    exact k39 (g3-1) (q+1) a _ (by omega) (⟨by omega,by omega⟩) (S.sel [0,1,2,3] G G) (H.keep [102,1,4,51,52,53,100,101] rfl)
   refine wp_exit ?_
   refine k12 _ _ ?_
   replace S:=S.recell (i:=0) rfl (cell':=fun k _ => .int .i64 (heldN ws k (i+1))) (fun k j _ _=>congrArg (Value.int .i64) (by first|exact sY hc3|exact pB hc3 (by omega)))
   replace H:=H.keep [1,4,51,52,53] rfl
   refine sO H<|sd (aK G G (by unfold i64ok;omega))<|sr 1 rfl<|sE ?_;clear H a;intro a H
   exact k9 (g1-1) (i+1) a _ (by omega) (⟨by omega,by omega,fun q hq=>if h9:q<i then hwk q h9 else by
         obtain rfl:q=i:=by omega
         first|exact Bb hc3 (by omega) hc4.2|exact mG hc3 (.inl hc5) (by omega) hc7.2|exact mG hc3 (.inr hc9) (by omega) hc10.2⟩) (S.sel [0,2,3] G G) (H.keep [53,1,4,51,52] rfl)
  refine sS H fun K47 k47=>sr 1 rfl<|sE ?_;clear H a;intro a H
  refine k47 _ ?_;clear k47 K47
  refine wp_ret ?_
  refine ret1 (fn:=Tryz.f120) rfl H rfl ?_
  rw [oJ (by omega) (Pc hc3 hc5 hc9)];exact ⟨rfl,(S.sel [] G G)⟩
 refine wp_exit ?_
 refine k7 _ _ ?_
 refine wp_seq_k fun K48 k48=>?_
 obtain rfl:i=ws.length:=by omega
 replace H:=H.keep [4] rfl
 refine seq_list fun K49 k49=>?_
 refine ls 5 H<|sr 1 rfl<|sI aS bA G G (ownM.adr S (i:=0) rfl (by omega)) (by omega) (by omega)<|slm aE rfl (ownM.rd S (i:=0) rfl (by omega) (by omega))<|sr 2 rfl<|sE ?_;clear H a;intro a H
 apply cI (i:=4) (g:=118) (t:=121) (b:=false) 3 H S G G (by kernel_rfl) (by kernel_rfl) G G
 case h1=>
  intro hg5
  refine ls 2 H<|sy hg5<|sr 1 rfl<|sy hg5<|sd (Does.to (zY aS bA rfl (lo:=1) (hi:=ws.length) (.inr ⟨_,rfl,_,rfl⟩) (.inl ⟨rfl,rfl⟩) (by omega) (by omega)) (show _=Value.slice (cutA AH ws.length 1 1) ((List.range (ws.length-1)).map fun q=>heldN ws (q+1) ws.length).length (ws.length-1) from by rw [mH]))<|sE ?_;intro a H
  refine cY H G G (by assumption) ?_
  refine aA H G G Tryz.func43 G G (Pb ((List.range (ws.length-1)).map fun q=>heldN ws (q+1) ws.length) (cutA AH ws.length 1 1) (ws.length-1) _ (Lb (ownM.inS S (i:=0) rfl) (by omega)) (by rw [mH];omega)) ?_
  rintro _ _ a ⟨rfl,S2⟩ H
  replace S:=S.call S2;clear S2
  exact wpList_nil ⟨H.strip 3 G G,(S.sel [0,1,2] G G)⟩
 clear H a S;intro a _ H S
 refine ls 1 H<|so G G G<|sE ?_;clear H a;intro a H
 refine k49 _ _ ?_;clear k49 K49
 refine cond_ H rfl (fun hc12=>?_) (fun hc12=>?_)
 ·skip
  try simp only [o1,o2,o3,o4,o5,o6,o7,o8,o9,oa] at hc12
  replace H:=H.keep [] rfl
  refine sS H fun K50 k50=>sr 1 rfl<|sE ?_;clear H a;intro a H
  refine k50 _ ?_;clear k50 K50
  refine wp_ret ?_
  refine ret1 (fn:=Tryz.f120) rfl H rfl ?_
  rw [show circE hz sw ws=30 from hc12.elim Kx (fun h=>Ky (by rw [←uM];exact h))];exact ⟨rfl,(S.sel [] G G)⟩
 try simp only [o1,o2,o3,o4,o5,o6,o7,o8,o9,oa] at hc12
 refine wp_skip ?_
 refine k48 _ _ ?_
 refine sS H fun K51 k51=>sr 1 rfl<|sE ?_;clear H a;intro a H
 refine k51 _ ?_;clear k51 K51
 refine wp_ret ?_
 refine ret1 (fn:=Tryz.f120) rfl H rfl ?_
 rw [Kz hc1.1 hc1.2 hwk hc12.1 (by rw [←uM];exact hc12.2)];exact ⟨rfl,(S.sel [] G G)⟩
end
section
theorem Cw {hz:Int} {sw:List Int} {ws:List Wr} (V:CirV hz sw ws):∀ k,k<ws.length→(ws.getD k Wr.zero).of.length≤9223372036854775807:=fun k hk=>by
  by_cases h:(ws.getD k Wr.zero).kind=1
  · have:=V.one k hk h;omega
  · have:=V.more k hk h;omega
def hasC (l:List Int) (x:Int):Bool:=l.any fun y=>decide (x=y)
theorem Gj {l:List Int} {x:Int} {k:Nat} (hk:k<l.length) (h:(l.take k).any (fun y=>decide (x=y))=false) (hx:¬ x=l.getD k 0):(l.take (k+1)).any (fun y=>decide (x=y))=false:=by
  rw [List.take_succ_eq_append_getElem hk,List.any_append,h]
  rw [List.getD_eq_getElem?_getD,List.getElem?_eq_getElem hk] at hx
  simpa using hx
theorem Pd {l:List Int} {x:Int} {k:Nat} (hk:k<l.length) (hx:x=l.getD k 0):hasC l x=true:=by
  rw [List.getD_eq_getElem?_getD,List.getElem?_eq_getElem hk] at hx
  unfold hasC
  rw [List.any_eq_true]
  exact ⟨l[k],List.getElem_mem hk,by simpa using hx⟩
def lorI (a b:Int):Int:=((a.toNat ||| b.toNat:Nat):Int)
theorem Cx {a b:Int} (ha:0≤a∧a≤2048) (hb:0≤b∧b≤2048):0≤lorI a b∧lorI a b≤4095:=by
  have:=Nat.or_lt_two_pow (x:=a.toNat) (y:=b.toNat) (n:=12) (by omega) (by omega)
  unfold lorI
  omega
section
variable {P:Program} {L:List (Nat×Value)} {w:World} {d:Option Nat} {ty:TypeId} {pos:String} {af:Array Edge} {g:Option (Nat×Bool)}
theorem Lc {x y:Operand} {xt yt:TypeId} {m k:Int} (hx:ev L x=some (.int .i64 m)) (hy:ev L y=some (.int .i64 k)) (hm:0≤m∧m≤2048) (hk:0≤k∧k≤2048) :
    Does P L ⟨d,.binOp .or xt x y yt,ty,pos,af,g⟩ w (.int .i64 (lorI m k)):=fun ρ hρ=>by
  have hb:=Cx hm hk
  obtain ⟨m,rfl⟩:∃ n:Nat,m=n:=⟨m.toNat,by omega⟩
  obtain ⟨k,rfl⟩:∃ n:Nat,k=n:=⟨k.toNat,by omega⟩
  have e0:((BitVec.ofInt 64 (m:Int) ||| BitVec.ofInt 64 (k:Int)).toNat)=m ||| k:=by
    rw [BitVec.toNat_or,BitVec.ofInt_natCast,BitVec.ofInt_natCast,BitVec.toNat_ofNat,BitVec.toNat_ofNat,Nat.mod_eq_of_lt (by omega),Nat.mod_eq_of_lt (by omega)]
  have e1:IntKind.i64.wrap ((BitVec.ofInt 64 (m:Int) ||| BitVec.ofInt 64 (k:Int)).toNat:Int)=((m ||| k:Nat):Int):=by
    rw [e0];unfold lorI at hb;rw [Int.toNat_natCast,Int.toNat_natCast] at hb;exact i64ok.eq ⟨by omega,by omega⟩
  have e:Op.intBits .or .i64 (m:Int) (k:Int)=pure (.int .i64 (lorI m k)):=by
    unfold lorI
    rw [Int.toNat_natCast,Int.toNat_natCast]
    exact congrArg (fun z=>(pure (Value.int .i64 z):Sem Value)) e1
  simp [execOp,hρ _ _ hx,hρ _ _ hy,eqGuard,binOp,e]
end
def pairB (hz:Int) (sw:List Int) (ws:List Wr) (al:List Int) (a b:Int):Bool:=(!hasC al a&&!hasC al b)&&decide (0<(wkN hz sw ws (lorI (1*2^a.toNat) (1*2^b.toNat)) hz.toNat).length)
def pcIn (hz:Int) (sw:List Int) (ws:List Wr) (al:List Int) (a:Nat):Nat→Nat
  | 0=>0
  | q+1=>if pairB hz sw ws al (a:Int) ((a:Int)+1+(q:Int))=true then pcIn hz sw ws al a q+1 else pcIn hz sw ws al a q
def pcOut (hz:Int) (sw:List Int) (ws:List Wr) (al:List Int):Nat→Nat
  | 0=>0
  | a+1=>pcOut hz sw ws al a+pcIn hz sw ws al a (sw.length-(a+1))
theorem Cy {hz:Int} {sw:List Int} {ws:List Wr} {al:List Int} {a:Nat}:∀ q,pcIn hz sw ws al a q≤q:=fun q=>by
  induction q with
  | zero=>exact Nat.le_refl _
  | succ q ih=>rw [pcIn];split <;> omega
theorem Ld {hz:Int} {sw:List Int} {ws:List Wr} {al:List Int}:∀ a,pcOut hz sw ws al a≤a*sw.length:=fun a=>by
  induction a with
  | zero=>exact Nat.zero_le _
  | succ a ih=>
    have:=Cy (hz:=hz) (sw:=sw) (ws:=ws) (al:=al) (a:=a) (sw.length-(a+1))
    rw [pcOut,Nat.succ_mul];omega
theorem Gk (l:List Int) (A:Option Addr) (cp:Nat) (x:Int) (w:World) (hl:InS w noF 1 A l.length (icl l)) (hn:l.length≤9223372036854775807) :
    Calls Tryz.prog 121 [.slice A l.length cp,.int .i64 x].toArray w (Ret (fun u w'=>∃ n:Int,u = .int .i64 n∧decide (0≤n)=hasC l x∧St w noF [] w')):=by
 refine enter Tryz.func121 rfl Tryz.ntmps121 rfl (fun a H=>?_)
 have S:=St.start w
 refine sS H fun K1 k1=>sr 1 rfl<|sE ?_;clear H a;intro a H
 refine k1 _ ?_;clear k1 K1
 refine wp_seq_k fun K2 k2=>?_
 refine sS H fun K3 k3=>sr 1 rfl<|sL aS rfl<|sr 1 rfl<|sE ?_;clear H a;intro a H
 refine k3 _ ?_;clear k3 K3
 refine wp_block ?_
 refine loop_st (X:=Nat) (R0:=_) [0,1,7] H rfl (fun k=>[(8,.int .i64 (k:Int))]) (fun k=>[]) (fun g k=>k≤l.length∧g+k=l.length∧(l.take k).any (fun y=>decide (x=y))=false) (l.length) 0 ?_ (S.sel [] G G) (H.keep [8,0,1,7] rfl) ?_
 · exact ⟨by omega,by omega,rfl⟩
 clear H S a
 intro g1 x1 a w1 hp S H K4 k4
 obtain ⟨k,rfl⟩:∃ y,y=x1:=⟨_,rfl⟩
 refine sS H fun K5 k5=>sr 1 rfl<|sE ?_;clear H a;intro a H
 refine k5 _ ?_;clear k5 K5
 refine wp_seq_k fun K6 k6=>?_
 refine condL H rfl (fun hc1=>?_) (fun hc1=>?_)
 ·skip
  refine wp_skip ?_
  refine k6 _ _ ?_
  refine wp_seq_k fun K7 k7=>?_
  refine wp_block ?_
  refine sS H fun K8 k8=>sr 2 rfl<|sE ?_;clear H a;intro a H
  refine k8 _ ?_;clear k8 K8
  refine sS H fun K9 k9=>sr 3 rfl<|si aS bA G G (hl.adr (by omega)) (by omega)<|slm aE rfl (hl.rd S (by omega) (by omega))<|sr 1 rfl<|sE ?_;clear H a;intro a H
  refine k9 _ ?_;clear k9 K9
  refine condE H rfl (fun hc2=>?_) (fun hc2=>?_)
  ·skip
   replace H:=H.keep [5] rfl
   refine sS H fun K10 k10=>sr 2 rfl<|sE ?_;clear H a;intro a H
   refine k10 _ ?_;clear k10 K10
   refine wp_ret ?_
   refine ret1 (fn:=Tryz.f121) rfl H rfl ?_
   exact ⟨_,rfl,by rw [Pd (k:=k) (by omega) hc2];exact decide_eq_true (by omega),(S.sel [] G G)⟩
  refine wp_skip ?_
  refine k7 _ _ ?_
  refine sO H<|sd (aK G G (by unfold i64ok;omega))<|sr 1 rfl<|sE ?_;clear H a;intro a H
  exact k4 (g1-1) (k+1) a _ (by omega) (⟨by omega,by omega,Gj (by omega) hp.2.2 hc2⟩) (S.sel [] G G) (H.keep [8,0,1,7] rfl)
 refine wp_exit ?_
 refine k2 _ _ ?_
 refine sS H fun K12 k12=>sr 1 rfl<|sE ?_;clear H a;intro a H
 refine k12 _ ?_;clear k12 K12
 refine wp_ret ?_
 refine ret1 (fn:=Tryz.f121) rfl H rfl ?_
 exact ⟨_,rfl,by unfold hasC;rw [←List.take_of_length_le (l:=l) (i:=k) (by omega),hp.2.2];rfl,(S.sel [] G G)⟩
theorem gK (l:List Int) (A:Option Addr) (cp:Nat) (x:Int) (w:World) (hl:InS w noF 1 A l.length (icl l)) (hn:l.length≤9223372036854775807) :
    Calls Tryz.prog 78 [.slice A l.length cp,.int .i64 x].toArray w (Ret (fun u w'=>u = .bool (hasC l x)∧St w noF [] w')):=by
 refine enter Tryz.func78 rfl Tryz.ntmps78 rfl (fun a H=>?_)
 have S:=St.start w
 refine sS H fun K1 k1=>sr 1 rfl<|sE ?_;clear H a;intro a H
 refine k1 _ ?_;clear k1 K1
 refine seq_list fun K2 k2=>?_
 refine ls 2 H<|sr 2 rfl<|sE ?_;clear H a;intro a H
 refine aA H G G Tryz.func121 G G (Gk l A cp x _ (hl.now S) hn) ?_;clear H a
 rintro _ _ a ⟨n,rfl,hn2,S2⟩ H
 replace S:=S.call S2;clear S2
 refine ls 2 H<|sr 2 rfl<|sE ?_;clear H a;intro a H
 refine k2 _ _ ?_;clear k2 K2
 refine wp_ret ?_
 refine ret1 (fn:=Tryz.f78) rfl H rfl ?_
 exact ⟨congrArg Value.bool hn2,(S.sel [] G G)⟩
theorem wL (hz:Int) (sw:List Int) (SA:Option Addr) (sc:Nat) (ws:List Wr) (QA:Option Addr) (qc:Nat) (OA:Nat→Option Addr) (oc:Nat→Nat) (w:World) (hsw:InS w noF 1 SA sw.length (icl sw)) (hws:InS w noF 2 QA ws.length (fO ws OA oc)) (hof:∀ k,k<ws.length→InS w noF 1 (OA k) (ws.getD k Wr.zero).of.length (icl (ws.getD k Wr.zero).of)) (hE:circE hz sw ws=0) :
    Calls Tryz.prog 77 [.agg [.int .i64 hz,.slice SA sw.length sc,.slice QA ws.length qc].toArray].toArray w (Ret (fun u w'=>∃ A' c',u = .tuple #[.slice A' (critN hz sw ws sw.length).length c',.int .i64 0]∧St w noF [ownM 3 1 A' (critN hz sw ws sw.length).length c' (icl (critN hz sw ws sw.length))] w')):=by
 have V:=rJ (Bq hE)
 have hns:=V.nsw
 have hnw:=V.nws
 have hzb:=V.hzb
 have hof9:=Cw V
 refine enter Tryz.func77 rfl Tryz.ntmps77 rfl (fun a H=>?_)
 have S:=St.start w
 refine seq_list fun K1 k1=>?_
 refine aN H rfl S G G ?_;clear H a S;intro b1 _ a hb1 hbw1 S H
 refine ls 2 H<|sr 2 rfl<|sE ?_;clear H a;intro a H
 refine k1 _ _ ?_;clear k1 K1
 refine wp_seq_k fun K2 k2=>?_
 refine seq_list fun K3 k3=>?_
 refine ls 1 H<|sd ((aB dC bY rfl S (i:=0) G G))<|sE ?_;clear H a;intro a H
 refine aA H G G Tryz.func120 G G (Gi hz sw SA sc ws QA qc OA oc _ (hsw.now S) (hws.now S) (fun k hk=>(hof k hk).now S) (by omega) (by omega) hof9) ?_;clear H a
 rintro _ _ a ⟨rfl,S2⟩ H
 replace S:=S.call S2;clear S2
 refine ls 1 H<|sr 1 rfl<|sE ?_;clear H a;intro a H
 refine k3 _ _ ?_;clear k3 K3
 refine sS H fun K4 k4=>sr 2 rfl<|sE ?_;clear H a;intro a H
 refine k4 _ ?_;clear k4 K4
 refine condN H rfl (fun hc1=>?_) (fun hc1=>?_)
 ·skip
  replace H:=H.keep [4] rfl
  refine sS H fun K5 k5=>sr 3 rfl<|sE ?_;clear H a;intro a H
  refine k5 _ ?_;clear k5 K5
  refine wp_ret ?_
  refine ret2 (fn:=Tryz.f77) rfl H G G ?_
  exact absurd hE hc1
 refine wp_skip ?_
 refine k2 _ _ ?_
 refine sS H fun K6 k6=>sr 1 rfl<|sE ?_;clear H a;intro a H
 refine k6 _ ?_;clear k6 K6
 refine wp_seq_k fun K7 k7=>?_
 refine sS H fun K8 k8=>sf hZ rfl<|sl S 0 bD G G G<|sL aS rfl<|sr 1 rfl<|sE ?_;clear H a;intro a H
 refine k8 _ ?_;clear k8 K8
 refine wp_block ?_
 replace S:=S.newNil 3 1 (icl [])
 refine loop_st (X:=Nat×List Int×Option Addr×Nat) (R0:=_) [1,14] H rfl (fun ⟨k,L9,A9,c9⟩=>[(5,.slice A9 L9.length c9),(15,.int .i64 (k:Int))]) (fun ⟨k,L9,A9,c9⟩=>[ownM 3 1 A9 L9.length c9 (icl L9)]) (fun g ⟨k,L9,A9,c9⟩=>k≤sw.length∧g+k=sw.length∧L9=critN hz sw ws k) (sw.length) (0,[],none,0) ?_ (S.sel [0,1] G G) (H.keep [5,15,1,14] rfl) ?_
 · exact ⟨by omega,by omega,rfl⟩
 clear H S a
 intro g1 x1 a w1 hp S H K9 k9
 obtain ⟨k,L9,A9,c9⟩:=x1
 dsimp only at hp S H
 refine sS H fun K10 k10=>sr 1 rfl<|sE ?_;clear H a;intro a H
 refine k10 _ ?_;clear k10 K10
 refine wp_seq_k fun K11 k11=>?_
 refine condL H rfl (fun hc2=>?_) (fun hc2=>?_)
 ·skip
  refine wp_skip ?_
  refine k11 _ _ ?_
  refine wp_seq_k fun K12 k12=>?_
  refine wp_block ?_
  refine sS H fun K13 k13=>sr 2 rfl<|sE ?_;clear H a;intro a H
  refine k13 _ ?_;clear k13 K13
  have hsh:=pwc (h:=k) (by omega)
  have hL9:L9.length≤k:=by rw [hp.2.2];exact tT k
  replace S:=S.drew
  refine seq_wq [(0,true),(1,true),(2,true),(3,false),(4,true),(5,true)] (by kernel_rfl) (by kernel_rfl) (S.sel [0,1] G G) fun K14 k14=>?_
  refine qF H<|qd rfl (fun _ S=>(aB dC bY rfl S (i:=1) G G))<|qr 1 rfl<|qd rfl (fun _ S=>dG G G (by omega) (by omega) (by unfold i64ok;omega))<|qK ?_;clear H a;intro a H
  refine aT rfl ?_
  refine aA H G G Tryz.func79 G G (xV hz sw SA sc ws QA qc OA oc (1*2^(k:Int).toNat) _ (hsw.now S) (hws.now S) (fun k hk=>(hof k hk).now S) V (by omega)) ?_;clear H a
  rintro _ _ a ⟨A5,c5,rfl,S2⟩ H
  replace S:=S.call S2;clear S2
  refine wpList_nil (And.intro (S.sel [1,2] G G) ?_)
  refine qF H<|qd rfl (fun _ S=>cD aS rfl)<|qr 1 rfl<|qK ?_;clear H a;intro a H
  refine bN ?_
  refine k14 _ _ ?_
  clear k14 K14
  refine condL H rfl (fun hc3=>?_) (fun hc3=>?_)
  ·skip
   replace H:=H.keep [1,5,6,14,15] rfl
   refine one_list ?_
   refine ls 2 H<|sr 2 rfl<|sE ?_;clear H a;intro a H
   refine aY H rfl S aS bA iC G G G G G G G G G ?_;clear H a S;intro A1 _ a hA1 S H
   refine cB H rfl S aS bA iC rG G G (i:=2) G G G (ownM.inS S (i:=0) rfl) (iD (one rfl)) (by omega) (by omega) ?_;clear H a S;intro A2 c2 _ a S H
   replace S:=S.recell (i:=2) rfl (cell':=icl (L9++[(k:Int)])) (xU rfl)
   rw [show L9.length+1=(L9++[(k:Int)]).length by simp] at H S
   refine ls 1 H<|sr 1 rfl<|sE ?_;clear H a;intro a H
   refine k12 _ _ ?_
   refine sO H<|sd (aK G G (by unfold i64ok;omega))<|sr 1 rfl<|sE ?_;clear H a;intro a H
   exact k9 (g1-1) (k+1,_,_,_) a _ (by omega) (⟨by omega,by omega,by rw [critN];first|rw [if_pos (by omega),←hp.2.2]|rw [if_neg (by omega),←hp.2.2]⟩) (S.sel [2,3] G G) (H.keep [5,15,1,14] rfl)
  refine wp_skip ?_
  refine k12 _ _ ?_
  refine sO H<|sd (aK G G (by unfold i64ok;omega))<|sr 1 rfl<|sE ?_;clear H a;intro a H
  exact k9 (g1-1) (k+1,_,_,_) a _ (by omega) (⟨by omega,by omega,by rw [critN];first|rw [if_pos (by omega),←hp.2.2]|rw [if_neg (by omega),←hp.2.2]⟩) (S.sel [1,2] G G) (H.keep [5,15,1,14] rfl)
 refine wp_exit ?_
 refine k7 _ _ ?_
 replace H:=H.keep [5] rfl
 refine sS H fun K18 k18=>sr 3 rfl<|sE ?_;clear H a;intro a H
 refine k18 _ ?_;clear k18 K18
 refine wp_ret ?_
 refine ret2 (fn:=Tryz.f77) rfl H G G ?_
 obtain rfl:k=sw.length:=by omega
 rw [←hp.2.2]
 exact ⟨_,_,rfl,(S.sel [0] G G)⟩
end
section
section
variable {hz:Int} {sw:List Int} {ws:List Wr} {al:List Int} {a q n n2:Nat} {b:Int}
theorem wM (h:pairB hz sw ws al (a:Int) b=true) (hb:b=(a:Int)+1+(q:Int)) (hn:n2=n+pcIn hz sw ws al a q):n2+1=n+pcIn hz sw ws al a (q+1):=by
  subst hb;rw [pcIn,if_pos h];omega
theorem has3:∀ x y:Bool,x=true∨(x=false∧y=true)∨(x=false∧y=false):=by decide
theorem wN (hA:hasC al (a:Int)=true):¬ pairB hz sw ws al (a:Int) b=true:=by unfold pairB;rw [hA];simp
theorem wO (hA:hasC al b=true):¬ pairB hz sw ws al (a:Int) b=true:=by unfold pairB;rw [hA];simp
theorem iG (hA:hasC al (a:Int)=false) (hB:hasC al b=false):pairB hz sw ws al (a:Int) b=decide (0<(wkN hz sw ws (lorI (1*2^(a:Int).toNat) (1*2^b.toNat)) hz.toNat).length):=by unfold pairB;rw [hA,hB];rfl
theorem iH (h:¬ pairB hz sw ws al (a:Int) b=true) (hb:b=(a:Int)+1+(q:Int)) (hn:n2=n+pcIn hz sw ws al a q):n2=n+pcIn hz sw ws al a (q+1):=by
  subst hb;rw [pcIn,if_neg h];exact hn
end
theorem dO (hz:Int) (sw:List Int) (SA:Option Addr) (sc:Nat) (ws:List Wr) (QA:Option Addr) (qc:Nat) (OA:Nat→Option Addr) (oc:Nat→Nat) (w:World) (hsw:InS w noF 1 SA sw.length (icl sw)) (hws:InS w noF 2 QA ws.length (fO ws OA oc)) (hof:∀ k,k<ws.length→InS w noF 1 (OA k) (ws.getD k Wr.zero).of.length (icl (ws.getD k Wr.zero).of)) (hE:circE hz sw ws=0) :
    Calls Tryz.prog 37 [.agg [.int .i64 hz,.slice SA sw.length sc,.slice QA ws.length qc].toArray].toArray w (Ret (fun u w'=>∃ A' c',u = .tuple #[.slice A' (pcOut hz sw ws (critN hz sw ws sw.length) sw.length) c',.int .i64 0]∧St w noF [] w')):=by
 have V:=rJ (Bq hE)
 have hns:=V.nsw
 have hnw:=V.nws
 have hzb:=V.hzb
 have hof9:=Cw V
 have hcl9:=tT (hz:=hz) (sw:=sw) (ws:=ws) sw.length
 refine enter Tryz.func37 rfl Tryz.ntmps37 rfl (fun a H=>?_)
 have S:=St.start w
 refine seq_list fun K1 k1=>?_
 refine aN H rfl S G G ?_;clear H a S;intro b1 _ a hb1 hbw1 S H
 refine ls 2 H<|sr 2 rfl<|sE ?_;clear H a;intro a H
 refine k1 _ _ ?_;clear k1 K1
 replace H:=H.keep [1] rfl
 refine seq_list fun K2 k2=>?_
 refine ls 1 H<|sd ((aB dC bY rfl S (i:=0) G G))<|sE ?_;clear H a;intro a H
 refine aA H G G Tryz.func77 G G (wL hz sw SA sc ws QA qc OA oc _ (hsw.now S) (hws.now S) (fun k hk=>(hof k hk).now S) hE) ?_;clear H a
 rintro _ _ a ⟨A8,c8,rfl,S2⟩ H
 replace S:=S.call S2;clear S2
 refine ls 5 H<|sr 5 rfl<|sE ?_;clear H a;intro a H
 refine k2 _ _ ?_;clear k2 K2
 refine wp_seq_k fun K3 k3=>?_
 refine sS H fun K4 k4=>sr 2 rfl<|sE ?_;clear H a;intro a H
 refine k4 _ ?_;clear k4 K4
 refine condN H rfl (fun hc1=>?_) (fun hc1=>?_)
 ·skip
  replace H:=H.keep [5] rfl
  refine sS H fun K5 k5=>sr 3 rfl<|sE ?_;clear H a;intro a H
  refine k5 _ ?_;clear k5 K5
  refine wp_ret ?_
  refine ret2 (fn:=Tryz.f37) rfl H G G ?_
  exact absurd rfl hc1
 refine wp_skip ?_
 refine k3 _ _ ?_
 refine sS H fun K6 k6=>sr 1 rfl<|sE ?_;clear H a;intro a H
 refine k6 _ ?_;clear k6 K6
 refine wp_seq_k fun K7 k7=>?_
 refine sS H fun K8 k8=>sf hZ rfl<|sl S 1 bD G G G<|sL aS rfl<|sr 1 rfl<|sE ?_;clear H a;intro a H
 refine k8 _ ?_;clear k8 K8
 refine wp_block ?_
 replace S:=S.newNil 89 2 (fun _ _=>undef)
 refine loop_st (X:=Nat×Nat×Option Addr×Nat×(Nat→Nat→Value)) (R0:=_) [1,4,19] H rfl (fun ⟨u,n,A9,c9,cl9⟩=>[(6,.slice A9 n c9),(20,.int .i64 (u:Int))]) (fun ⟨u,n,A9,c9,cl9⟩=>[ownM 89 2 A9 n c9 cl9]) (fun g ⟨u,n,A9,c9,cl9⟩=>u≤sw.length∧g+u=sw.length∧n=pcOut hz sw ws (critN hz sw ws sw.length) u) (sw.length) (0,0,none,0,fun _ _=>undef) ?_ (S.sel [0,1,2] G G) (H.keep [6,20,1,4,19] rfl) ?_
 · exact ⟨by omega,by omega,rfl⟩
 clear H S a
 intro g1 x1 a w1 hp S H K9 k9
 obtain ⟨u,n,A9,c9,cl9⟩:=x1
 dsimp only at hp S H
 obtain ⟨hu1,hu2,hn1⟩:=hp
 refine sS H fun K10 k10=>sr 1 rfl<|sE ?_;clear H a;intro a H
 refine k10 _ ?_;clear k10 K10
 refine wp_seq_k fun K11 k11=>?_
 refine condL H rfl (fun hc2=>?_) (fun hc2=>?_)
 ·skip
  refine wp_skip ?_
  refine k11 _ _ ?_
  refine wp_seq_k fun K12 k12=>?_
  refine wp_block ?_
  refine sS H fun K13 k13=>sr 2 rfl<|sE ?_;clear H a;intro a H
  refine k13 _ ?_;clear k13 K13
  refine sS H fun K14 k14=>sr 1 rfl<|sd (aK G G (by unfold i64ok;omega))<|sr 1 rfl<|sE ?_;clear H a;intro a H
  refine k14 _ ?_;clear k14 K14
  refine wp_block ?_
  refine loop_st (X:=Nat×Int×Nat×Option Addr×Nat×(Nat→Nat→Value)) (R0:=_) [1,4,7,19,20] H rfl (fun ⟨q,b,n2,A7,c7,cl7⟩=>[(6,.slice A7 n2 c7),(8,.int .i64 b)]) (fun ⟨q,b,n2,A7,c7,cl7⟩=>[ownM 89 2 A7 n2 c7 cl7]) (fun g ⟨q,b,n2,A7,c7,cl7⟩=>u+1+q≤sw.length∧g+u+1+q=sw.length∧n2=n+pcIn hz sw ws (critN hz sw ws sw.length) u q∧b=(u:Int)+1+(q:Int)) (sw.length-(u+1)) (0,(u:Int)+1,n,A9,c9,cl9) ?_ (S.sel [0,1,2] G G) (H.keep [6,8,1,4,7,19,20] rfl) ?_
  · exact ⟨by omega,by omega,rfl,by omega⟩
  clear H S a
  intro g2 x2 a w2 hp S H K15 k15
  obtain ⟨q,b,n2,A7,c7,cl7⟩:=x2
  dsimp only at hp S H
  obtain ⟨hq1,hq2,hn2,hb2⟩:=hp
  obtain ⟨y,rfl⟩:∃ y:Nat,b=y:=⟨u+1+q,by omega⟩
  refine wp_seq_k fun K16 k16=>?_
  refine sS H fun K17 k17=>sr 1 rfl<|sf hZ rfl<|sl S 2 bD G G G<|sL aS rfl<|sr 1 rfl<|sE ?_;clear H a;intro a H
  refine k17 _ ?_;clear k17 K17
  refine condL H rfl (fun hc3=>?_) (fun hc3=>?_)
  ·skip
   refine wp_skip ?_
   refine k16 _ _ ?_
   refine wp_seq_k fun K18 k18=>?_
   refine wp_block ?_
   rcases has3 (hasC (critN hz sw ws sw.length) (u:Int)) (hasC (critN hz sw ws sw.length) (y:Int)) with hA|⟨hA,hB⟩|⟨hA,hB⟩
   ·skip
    have hsh:=pwc (h:=u) (by omega)
    have hsh2:=pwc (h:=y) (by omega)
    have hwl9:=pZ (hz:=hz) (sw:=sw) (ws:=ws) (cl:=lorI (1*2^(u:Int).toNat) (1*2^(y:Int).toNat)) hz.toNat
    replace H:=H.keep [1,4,6,7,8,19,20] rfl
    replace S:=S.drew
    refine seq_wq [(0,true),(1,true),(2,false),(3,true),(4,true),(5,true),(6,true),(7,true),(8,true),(9,true),(10,true),(11,true),(12,true),(13,true),(14,true),(15,true),(16,true),(17,true),(18,true),(19,true),(20,true)] (by kernel_rfl) (by kernel_rfl) (S.sel [0,1,2] G G) fun K19 k19=>?_
    refine qF H<|qr 2 rfl<|qK ?_;clear H a;intro a H
    refine aT rfl ?_
    refine aA H G G Tryz.func78 G G (gK (critN hz sw ws sw.length) A8 c8 _ _ (ownM.inS S (i:=1) rfl) (by omega)) ?_;clear H a
    rintro _ _ a ⟨rfl,S2⟩ H
    replace S:=S.call S2;clear S2
    first|rw [hA] at H|rw [hB] at H
    refine wpList_nil (And.intro (S.sel [0,1,2] G G) ?_)
    refine qF H<|qr 2 rfl<|qK ?_;clear H a;intro a H
    refine aJ H G G G G G ?_;clear H a;intro a H
    refine aJ H G G G G G ?_;clear H a;intro a H
    refine aJ H G G G G G ?_;clear H a;intro a H
    refine aJ H G G G G G ?_;clear H a;intro a H
    refine qF H<|qd rfl (fun _ S=>(aU G G G))<|qr 1 rfl<|qK ?_;clear H a;intro a H
    refine aJ H G G G G G ?_;clear H a;intro a H
    refine aJ H G G G G G ?_;clear H a;intro a H
    refine aJ H G G G G G ?_;clear H a;intro a H
    refine aJ H G G G G G ?_;clear H a;intro a H
    refine aJ H G G G G G ?_;clear H a;intro a H
    refine aJ H G G G G G ?_;clear H a;intro a H
    refine aJ H G G G G G ?_;clear H a;intro a H
    refine aJ H G G G G G ?_;clear H a;intro a H
    refine aJ H G G G G G ?_;clear H a;intro a H
    refine qF H<|qd rfl (fun _ S=>(aU G G G))<|qK ?_;clear H a;intro a H
    refine bN ?_
    refine k19 _ _ ?_
    clear k19 K19
    refine cond_ H rfl (fun hc4=>?_) (fun hc4=>?_)
    ·skip
     skip
     cases hc4
    skip
    refine wp_skip ?_
    refine k18 _ _ ?_
    replace H:=H.keep [1,4,6,7,8,19,20] rfl
    refine sO H<|sr 1 rfl<|sd (aK G G (by unfold i64ok;omega))<|sr 1 rfl<|sE ?_;clear H a;intro a H
    exact k15 (g2-1) (q+1,_,_,_,_,_) a _ (by omega) (⟨by omega,by omega,by first|exact wM (by rw [iG hA hB];exact decide_eq_true (by omega)) hb2 hn2|exact iH (by rw [iG hA hB,decide_eq_true_eq];omega) hb2 hn2|exact iH (wN hA) hb2 hn2|exact iH (wO hB) hb2 hn2|exact iH (by rw [iG hA hB,decide_eq_true_eq];have h9:=hc6.resolve_left (fun h=>h.elim (fun h=>Bool.noConfusion h) (fun h=>Bool.noConfusion h));omega) hb2 hn2,by omega⟩) (S.sel [0,1,2] G G) (H.keep [6,8,1,4,7,19,20] rfl)
   ·skip
    have hsh:=pwc (h:=u) (by omega)
    have hsh2:=pwc (h:=y) (by omega)
    have hwl9:=pZ (hz:=hz) (sw:=sw) (ws:=ws) (cl:=lorI (1*2^(u:Int).toNat) (1*2^(y:Int).toNat)) hz.toNat
    replace H:=H.keep [1,4,6,7,8,19,20] rfl
    replace S:=S.drew
    refine seq_wq [(0,true),(1,true),(2,false),(3,true),(4,true),(5,true),(6,true),(7,false),(8,true),(9,true),(10,true),(11,true),(12,true),(13,true),(14,true),(15,true),(16,true),(17,true),(18,true),(19,true),(20,true)] (by kernel_rfl) (by kernel_rfl) (S.sel [0,1,2] G G) fun K21 k21=>?_
    refine qF H<|qr 2 rfl<|qK ?_;clear H a;intro a H
    refine aT rfl ?_
    refine aA H G G Tryz.func78 G G (gK (critN hz sw ws sw.length) A8 c8 _ _ (ownM.inS S (i:=1) rfl) (by omega)) ?_;clear H a
    rintro _ _ a ⟨rfl,S2⟩ H
    replace S:=S.call S2;clear S2
    first|rw [hA] at H|rw [hB] at H
    refine wpList_nil (And.intro (S.sel [0,1,2] G G) ?_)
    refine qF H<|qr 2 rfl<|qK ?_;clear H a;intro a H
    refine aF H G G G G (fun _ S=>aL rfl) ?_;clear H a;intro a H
    refine aF H G G G G (fun _ S=>aL rfl) ?_;clear H a;intro a H
    refine aT rfl ?_
    refine aX H G G ?_
    refine aA H G G Tryz.func78 G G (gK (critN hz sw ws sw.length) A8 c8 _ _ (ownM.inS S (i:=1) rfl) (by omega)) ?_;clear H a
    rintro _ _ a ⟨rfl,S2⟩ H
    replace S:=S.call S2;clear S2
    first|rw [hA] at H|rw [hB] at H
    refine wpList_nil (And.intro (S.sel [0,1,2] G G) ?_)
    refine aF H G G G G (fun _ S=>cJ rfl) ?_;clear H a;intro a H
    refine qF H<|qd rfl (fun _ S=>(iQ G G G))<|qr 1 rfl<|qK ?_;clear H a;intro a H
    refine aJ H G G G G G ?_;clear H a;intro a H
    refine aJ H G G G G G ?_;clear H a;intro a H
    refine aJ H G G G G G ?_;clear H a;intro a H
    refine aJ H G G G G G ?_;clear H a;intro a H
    refine aJ H G G G G G ?_;clear H a;intro a H
    refine aJ H G G G G G ?_;clear H a;intro a H
    refine aJ H G G G G G ?_;clear H a;intro a H
    refine aJ H G G G G G ?_;clear H a;intro a H
    refine aJ H G G G G G ?_;clear H a;intro a H
    refine qF H<|qd rfl (fun _ S=>(aU G G G))<|qK ?_;clear H a;intro a H
    refine bN ?_
    refine k21 _ _ ?_
    clear k21 K21
    refine cond_ H rfl (fun hc5=>?_) (fun hc5=>?_)
    ·skip
     skip
     cases hc5
    skip
    refine wp_skip ?_
    refine k18 _ _ ?_
    replace H:=H.keep [1,4,6,7,8,19,20] rfl
    refine sO H<|sr 1 rfl<|sd (aK G G (by unfold i64ok;omega))<|sr 1 rfl<|sE ?_;clear H a;intro a H
    exact k15 (g2-1) (q+1,_,_,_,_,_) a _ (by omega) (⟨by omega,by omega,by first|exact wM (by rw [iG hA hB];exact decide_eq_true (by omega)) hb2 hn2|exact iH (by rw [iG hA hB,decide_eq_true_eq];omega) hb2 hn2|exact iH (wN hA) hb2 hn2|exact iH (wO hB) hb2 hn2|exact iH (by rw [iG hA hB,decide_eq_true_eq];have h9:=hc6.resolve_left (fun h=>h.elim (fun h=>Bool.noConfusion h) (fun h=>Bool.noConfusion h));omega) hb2 hn2,by omega⟩) (S.sel [0,1,2] G G) (H.keep [6,8,1,4,7,19,20] rfl)
   have hsh:=pwc (h:=u) (by omega)
   have hsh2:=pwc (h:=y) (by omega)
   have hwl9:=pZ (hz:=hz) (sw:=sw) (ws:=ws) (cl:=lorI (1*2^(u:Int).toNat) (1*2^(y:Int).toNat)) hz.toNat
   replace H:=H.keep [1,4,6,7,8,19,20] rfl
   replace S:=S.drew
   refine seq_wq [(0,true),(1,true),(2,false),(3,true),(4,true),(5,true),(6,true),(7,false),(8,true),(9,true),(10,true),(11,true),(12,true),(13,true),(14,true),(15,true),(16,true),(17,false),(18,true),(19,true),(20,true)] (by kernel_rfl) (by kernel_rfl) (S.sel [0,1,2] G G) fun K23 k23=>?_
   refine qF H<|qr 2 rfl<|qK ?_;clear H a;intro a H
   refine aT rfl ?_
   refine aA H G G Tryz.func78 G G (gK (critN hz sw ws sw.length) A8 c8 _ _ (ownM.inS S (i:=1) rfl) (by omega)) ?_;clear H a
   rintro _ _ a ⟨rfl,S2⟩ H
   replace S:=S.call S2;clear S2
   first|rw [hA] at H|rw [hB] at H
   refine wpList_nil (And.intro (S.sel [0,1,2] G G) ?_)
   refine qF H<|qr 2 rfl<|qK ?_;clear H a;intro a H
   refine aF H G G G G (fun _ S=>aL rfl) ?_;clear H a;intro a H
   refine aF H G G G G (fun _ S=>aL rfl) ?_;clear H a;intro a H
   refine aT rfl ?_
   refine aX H G G ?_
   refine aA H G G Tryz.func78 G G (gK (critN hz sw ws sw.length) A8 c8 _ _ (ownM.inS S (i:=1) rfl) (by omega)) ?_;clear H a
   rintro _ _ a ⟨rfl,S2⟩ H
   replace S:=S.call S2;clear S2
   first|rw [hA] at H|rw [hB] at H
   refine wpList_nil (And.intro (S.sel [0,1,2] G G) ?_)
   refine aF H G G G G (fun _ S=>cJ rfl) ?_;clear H a;intro a H
   refine qF H<|qd rfl (fun _ S=>(iQ G G G))<|qr 1 rfl<|qK ?_;clear H a;intro a H
   refine aF H G G G G (fun _ S=>(aB dC bY rfl S (i:=2) G G)) ?_;clear H a;intro a H
   refine aF H G G G G (fun _ S=>aL rfl) ?_;clear H a;intro a H
   refine aF H G G G G (fun _ S=>dG G G (by omega) (by omega) (by unfold i64ok;omega)) ?_;clear H a;intro a H
   refine aF H G G G G (fun _ S=>aL rfl) ?_;clear H a;intro a H
   refine aF H G G G G (fun _ S=>dG G G (by omega) (by omega) (by unfold i64ok;omega)) ?_;clear H a;intro a H
   refine aF H G G G G (fun _ S=>Lc G G hsh hsh2) ?_;clear H a;intro a H
   refine aT rfl ?_
   refine aX H G G ?_
   refine aA H G G Tryz.func79 G G (xV hz sw SA sc ws QA qc OA oc (lorI (1*2^(u:Int).toNat) (1*2^(y:Int).toNat)) _ (hsw.now S) (hws.now S) (fun k hk=>(hof k hk).now S) V (Cx hsh hsh2)) ?_;clear H a
   rintro _ _ a ⟨A5,c5,rfl,S2⟩ H
   replace S:=S.call S2;clear S2
   refine wpList_nil (And.intro (S.sel [1,2,3] G G) ?_)
   refine aF H G G G G (fun _ S=>cD aS rfl) ?_;clear H a;intro a H
   refine aF H G G G G (fun _ S=>bU G G) ?_;clear H a;intro a H
   refine qF H<|qd rfl (fun _ S=>(iQ G G G))<|qK ?_;clear H a;intro a H
   refine bN ?_
   refine k23 _ _ ?_
   clear k23 K23
   refine cond_ H rfl (fun hc6=>?_) (fun hc6=>?_)
   ·skip
    try simp only [o1,o2,o3,o4,o5,o6,o7,o8,o9,oa] at hc6
    have hno:n≤12*12:=by rw [hn1];exact Nat.le_trans (Ld _) (Nat.mul_le_mul (show u≤12 by omega) (show sw.length≤12 by omega))
    have hpi:=Cy (hz:=hz) (sw:=sw) (ws:=ws) (al:=(critN hz sw ws sw.length)) (a:=u) q
    replace H:=H.keep [1,4,6,7,8,19,20] rfl
    refine one_list ?_
    refine ls 4 H<|sr 3 rfl<|sd (aP Ua G G)<|sE ?_;clear H a;intro a H
    refine aY H rfl S fY Pq Hm G G G G G G G G G ?_;clear H a S;intro A1 _ a hA1 S H
    refine cB H rfl S fY Pq Hm Tu G G (i:=2) G G G (ownM.inS S (i:=0) rfl) (iD (two G G)) (by omega) (by omega) ?_;clear H a S;intro A2 c2 _ a S H
    refine ls 1 H<|sr 1 rfl<|sE ?_;clear H a;intro a H
    refine k18 _ _ ?_
    replace H:=H.keep [1,4,6,7,8,19,20] rfl
    refine sO H<|sr 1 rfl<|sd (aK G G (by unfold i64ok;omega))<|sr 1 rfl<|sE ?_;clear H a;intro a H
    exact k15 (g2-1) (q+1,_,_,_,_,_) a _ (by omega) (⟨by omega,by omega,by first|exact wM (by rw [iG hA hB];exact decide_eq_true (by omega)) hb2 hn2|exact iH (by rw [iG hA hB,decide_eq_true_eq];omega) hb2 hn2|exact iH (wN hA) hb2 hn2|exact iH (wO hB) hb2 hn2|exact iH (by rw [iG hA hB,decide_eq_true_eq];have h9:=hc6.resolve_left (fun h=>h.elim (fun h=>Bool.noConfusion h) (fun h=>Bool.noConfusion h));omega) hb2 hn2,by omega⟩) (S.sel [2,3,4] G G) (H.keep [6,8,1,4,7,19,20] rfl)
   try simp only [o1,o2,o3,o4,o5,o6,o7,o8,o9,oa] at hc6
   refine wp_skip ?_
   refine k18 _ _ ?_
   refine sO H<|sr 1 rfl<|sd (aK G G (by unfold i64ok;omega))<|sr 1 rfl<|sE ?_;clear H a;intro a H
   exact k15 (g2-1) (q+1,_,_,_,_,_) a _ (by omega) (⟨by omega,by omega,by first|exact wM (by rw [iG hA hB];exact decide_eq_true (by omega)) hb2 hn2|exact iH (by rw [iG hA hB,decide_eq_true_eq];omega) hb2 hn2|exact iH (wN hA) hb2 hn2|exact iH (wO hB) hb2 hn2|exact iH (by rw [iG hA hB,decide_eq_true_eq];have h9:=hc6.resolve_left (fun h=>h.elim (fun h=>Bool.noConfusion h) (fun h=>Bool.noConfusion h));omega) hb2 hn2,by omega⟩) (S.sel [1,2,3] G G) (H.keep [6,8,1,4,7,19,20] rfl)
  refine wp_exit ?_
  refine k12 _ _ ?_
  refine sO H<|sd (aK G G (by unfold i64ok;omega))<|sr 1 rfl<|sE ?_;clear H a;intro a H
  exact k9 (g1-1) (u+1,_,_,_,_) a _ (by omega) (⟨by omega,by omega,by rw [pcOut,←hn1,show sw.length-(u+1)=q by omega];exact hn2⟩) (S.sel [0,1,2] G G) (H.keep [6,20,1,4,19] rfl)
 refine wp_exit ?_
 refine k7 _ _ ?_
 replace H:=H.keep [6] rfl
 refine sS H fun K28 k28=>sr 3 rfl<|sE ?_;clear H a;intro a H
 refine k28 _ ?_;clear k28 K28
 refine wp_ret ?_
 refine ret2 (fn:=Tryz.f37) rfl H G G ?_
 obtain rfl:u=sw.length:=by omega
 rw [←hn1]
 exact ⟨_,_,rfl,(S.sel [] G G)⟩
end
section
def exSw:List Int:=[1,1,2,2]
def exWs:List Wr:=[⟨2,[1,2,3,4]⟩,⟨1,[0]⟩,⟨1,[1]⟩,⟨1,[2]⟩,⟨1,[3]⟩]
def exOA (A0 A1 A2 A3 A4:Option Addr) (k:Nat):Option Addr:=[A0,A1,A2,A3,A4].getD k none
def exOc (k:Nat):Nat:=[4,1,1,1,1].getD k 0
theorem exCir:circE 2 exSw exWs=0:=by kernel_rfl
theorem fK:pcOut 2 exSw exWs (critN 2 exSw exWs exSw.length) exSw.length=2:=by kernel_rfl
theorem cH (w:World) :
    Calls Tryz.prog 36 [].toArray w (Ret (fun v w'=>∃ SA A0 A1 A2 A3 A4 QA TA,v = .tuple #[.agg [.int .i64 2,.slice SA 4 4,.slice QA 5 5].toArray,.slice TA 4 4]∧St w noF [ownM 3 1 SA 4 4 (icl exSw),ownM 3 1 A0 4 4 (icl [1,2,3,4]),ownM 3 1 A1 1 1 (icl [0]),ownM 3 1 A2 1 1 (icl [1]),ownM 3 1 A3 1 1 (icl [2]),ownM 3 1 A4 1 1 (icl [3]),ownM 195 2 QA 5 5 (fO exWs (exOA A0 A1 A2 A3 A4) exOc)] w')):=by
 refine enter Tryz.func36 rfl Tryz.ntmps36 rfl (fun a H=>?_)
 have S:=St.start w
 refine seq_list fun K1 k1=>?_
 refine aI H rfl S fN ?_;clear H a S;intro b0 _ a hb0 hbw0 S H
 refine ls 1 H<|sr 1 rfl<|sE ?_;clear H a;intro a H
 refine k1 _ _ ?_;clear k1 K1
 replace H:=H.keep [0] rfl
 refine seq_list fun K2 k2=>?_
 refine aY H rfl S aS bA iC G G G G G G G G G ?_;clear H a S;intro A1 _ a hA1 S H
 refine aY H rfl S aS bA iC G G G G G G G G G ?_;clear H a S;intro A2 _ a hA2 S H
 refine ls 1 H<|sd (aP rI G G)<|sE ?_;clear H a;intro a H
 refine aY H rfl S aS bA iC G G G G G G G G G ?_;clear H a S;intro A3 _ a hA3 S H
 refine ls 1 H<|sd (aP rI G G)<|sE ?_;clear H a;intro a H
 refine aY H rfl S aS bA iC G G G G G G G G G ?_;clear H a S;intro A4 _ a hA4 S H
 refine ls 1 H<|sd (aP rI G G)<|sE ?_;clear H a;intro a H
 refine aY H rfl S aS bA iC G G G G G G G G G ?_;clear H a S;intro A5 _ a hA5 S H
 refine ls 1 H<|sd (aP rI G G)<|sE ?_;clear H a;intro a H
 refine aY H rfl S aS bA iC G G G G G G G G G ?_;clear H a S;intro A6 _ a hA6 S H
 refine ls 1 H<|sd (aP rI G G)<|sE ?_;clear H a;intro a H
 refine aY H rfl S kN mR vK G G G G G G G G G ?_;clear H a S;intro A7 _ a hA7 S H
 refine ls 1 H<|sd (aP Qr G G)<|sE ?_;clear H a;intro a H
 refine aI H rfl S fN ?_;clear H a S;intro b2 _ a hb2 hbw2 S H
 refine aD H S (i:=0) G G G G bY G G ?_
 clear H a S;intro _ a S H
 refine k2 _ _ ?_;clear k2 K2
 replace H:=H.keep [0,2] rfl
 refine seq_list fun K3 k3=>?_
 refine ls 5 H<|sd ((aB dC bY rfl S (i:=0) G G))<|sd (aP vL G G)<|sd (aP vL G G)<|sd (aP vL G G)<|sd (aP vL G G)<|sE ?_;clear H a;intro a H
 refine aY H rfl S Qj Qi Hs G G G G G G G G G ?_;clear H a S;intro A8 _ a hA8 S H
 refine aD H S (i:=9) G G G G bY G G ?_
 clear H a S;intro _ a S H
 refine ls 1 H<|sr 1 rfl<|sE ?_;clear H a;intro a H
 refine k3 _ _ ?_;clear k3 K3
 refine wp_ret ?_
 refine retA1 (fn:=Tryz.f36) rfl H rfl dC (by exact bY) (cQ S (i:=9) rfl) rfl ?_
 replace S:=S.recell (i:=8) rfl (cell':=icl exSw) (fun k j hk hj=>by
   obtain rfl:j=0:=by omega
   rcases k with _|_|_|_|k <;> first|rfl|(exfalso;omega))
 replace S:=S.recell (i:=7) rfl (cell':=icl [1,2,3,4]) (fun k j hk hj=>by
   obtain rfl:j=0:=by omega
   rcases k with _|_|_|_|k <;> first|rfl|(exfalso;omega))
 replace S:=S.recell (i:=6) rfl (cell':=icl [0]) (fun k j hk hj=>by
   obtain rfl:j=0:=by omega
   rcases k with _|_|_|_|k <;> first|rfl|(exfalso;omega))
 replace S:=S.recell (i:=5) rfl (cell':=icl [1]) (fun k j hk hj=>by
   obtain rfl:j=0:=by omega
   rcases k with _|_|_|_|k <;> first|rfl|(exfalso;omega))
 replace S:=S.recell (i:=4) rfl (cell':=icl [2]) (fun k j hk hj=>by
   obtain rfl:j=0:=by omega
   rcases k with _|_|_|_|k <;> first|rfl|(exfalso;omega))
 replace S:=S.recell (i:=3) rfl (cell':=icl [3]) (fun k j hk hj=>by
   obtain rfl:j=0:=by omega
   rcases k with _|_|_|_|k <;> first|rfl|(exfalso;omega))
 refine ⟨A1,A2,A3,A4,A5,A6,A7,A8,rfl,?_⟩
 replace S:=S.recell (i:=2) rfl (cell':=fO exWs (exOA A2 A3 A4 A5 A6) exOc) (fun k j hk hj=>by
   rcases j with _|_|j
   · rcases k with _|_|_|_|_|k <;> first|rfl|(exfalso;omega)
   · rcases k with _|_|_|_|_|k <;> first|rfl|(exfalso;omega)
   · exfalso;omega)
 exact (S.sel [8,7,6,5,4,3,2] G G)
end
section
theorem Sq {sz:Nat} {c d:Nat→Nat→Value} (h0:∀ j,j<sz→c 0 j=d 0 j) (h1:∀ j,j<sz→c 1 j=d 1 j):∀ k j,k<2→j<sz→c k j=d k j:=by
  intro k j hk hj
  have:k=0∨k=1:=by omega
  rcases this with rfl|rfl
  · exact h0 j hj
  · exact h1 j hj
section
variable {P:Program} {w:World} {L:List (Nat×Value)} {ty:TypeId} {pos:String} {af:Array Edge} {dd:Option Nat} {g:Option (Nat×Bool)} {a:Act}
set_option maxRecDepth 100000 in
theorem bV {x y:Operand} {yt:TypeId} {a b c d:Int} (hx:ev L x=some (.agg [.int .i64 a,.int .i64 b].toArray)) (hy:ev L y=some (.agg [.int .i64 c,.int .i64 d].toArray)) :
    Does Tryz.prog L ⟨dd,.binOp .eql 88 x y yt,ty,pos,af,g⟩ w (.bool (decide (a=c)&&decide (b=d))):=fun ρ hρ=>by
  have e:(binOp .eql 88 (.agg #[.int .i64 a,.int .i64 b]) (.agg #[.int .i64 c,.int .i64 d])).run Tryz.prog w = .ok (.bool (decide (a=c)&&decide (b=d))) w:=by
    simp only [binOp]
    simp [Op.equal,Op.maxDepth,Cs]
    by_cases h1:a=c <;> by_cases h2:b=d <;> simp [h1,h2]
  simp only [execOp,hρ _ _ hx,hρ _ _ hy]
  simp [sN,e]
end
end
section
structure Brake where
  force:Int
  delay:Int
deriving DecidableEq
def Brake.zero:Brake:=⟨0,0⟩
def Brake.cell (b:Brake):Nat→Value
  | 0 => .int .i64 b.force
  | _ => .int .i64 b.delay
def bcell (l:List Brake) (k j:Nat):Value:=(l.getD k Brake.zero).cell j
structure Esc where
  up:Bool
  empty:Int
  pull:Int
  drag:Int
  motor:Int
  br:List Brake
structure Stp where
  speed:Int
  lo:Int
  hi:Int
  fail:Int
def gL (b:Brake):Bool:=decide (0≤b.force∧b.force≤10000000∧0≤b.delay∧b.delay≤20)
def escOk (e:Esc):Bool:=decide (1≤e.empty∧e.empty≤100000∧0≤e.pull∧e.pull≤100∧0≤e.drag∧e.drag≤10000000∧0≤e.motor∧e.motor≤10000000∧e.br.length≤3)&&e.br.all gL
def stpOk (e:Esc) (s:Stp):Bool:=decide (0≤s.speed∧s.speed≤1000∧0≤s.lo∧s.lo≤s.hi∧s.hi≤100000∧0≤s.fail∧s.fail<2^e.br.length)
def stopE (e:Esc) (s:Stp):Int:=if escOk e=true then (if stpOk e s=true then 0 else 11) else 10
def nB (v g f m:Int):Int:=max 0 (v+(g-f)/m)
def tickI (e:Esc) (v load brakes:Int):Int:=
  let g:=if e.up then -(e.pull*load) else e.pull*load
  if v<0∨v=0∧g<0 then -nB (-v) (-g) (e.drag+brakes) (e.empty+load) else nB v g (e.drag+brakes) (e.empty+load)
def gY (fail t:Int) (l:List Brake):Nat→Int
  | 0=>0
  | k+1=>gY fail t l k+(if fail/2^k%2=0∧(l.getD k Brake.zero).delay≤t then (l.getD k Brake.zero).force else 0)
theorem sZ {fail t:Int} {l:List Brake} {k:Nat} (h:fail/2^k%2=0∧(l.getD k Brake.zero).delay≤t):gY fail t l k+(l.getD k Brake.zero).force=gY fail t l (k+1):=by
  conv=>rhs;unfold gY
  rw [if_pos h]
theorem uN {fail t:Int} {l:List Brake} {k:Nat} (h:¬ (fail/2^k%2=0∧(l.getD k Brake.zero).delay≤t)):gY fail t l k=gY fail t l (k+1):=by
  conv=>rhs;unfold gY
  rw [if_neg h,Int.add_zero]
def gripI (e:Esc) (s:Stp) (t:Int):Int:=gY s.fail t e.br e.br.length
def extI (e:Esc) (s:Stp) (most:Bool) (v t:Int):Int:=
  let a:=tickI e v s.lo (gripI e s t);let b:=tickI e v s.hi (gripI e s t)
  if (most=true∧b > a)∨(most=false∧b<a) then b else a
def goI (e:Esc) (s:Stp) (most:Bool):Nat→Int→Int→Int×Bool
  | 0,v,_=>(0,decide (v=0))
  | n+1,v,t=>if v=0 then (0,true) else (extI e s most v t+(goI e s most n (extI e s most v t) (t+1)).1,(goI e s most n (extI e s most v t) (t+1)).2)
theorem wP {fail t:Int} {l:List Brake} (h:l.all gL=true):∀ k,k≤l.length→0≤gY fail t l k∧gY fail t l k≤10000000*k:=by
  intro k
  induction k with
  | zero=>intro _;unfold gY;omega
  | succ k ih=>
    intro hk
    have h1:=ih (by omega)
    have hb:gL (l.getD k Brake.zero)=true:=by
      rw [List.getD_eq_getElem?_getD,List.getElem?_eq_getElem (by omega)]
      exact List.all_eq_true.1 h _ (List.getElem_mem _)
    unfold gL at hb
    simp only [decide_eq_true_eq] at hb
    unfold gY
    split <;> omega
theorem cZ {e:Esc} (h:escOk e=true):(1≤e.empty∧e.empty≤100000∧0≤e.pull∧e.pull≤100∧0≤e.drag∧e.drag≤10000000∧0≤e.motor∧e.motor≤10000000∧e.br.length≤3)∧(∀ k,k<e.br.length→gL (e.br.getD k Brake.zero)=true)∧(2:Int)^((e.br.length:Int)).toNat=2^e.br.length∧1≤(2:Int)^e.br.length∧(2:Int)^e.br.length≤8:=by
  unfold escOk at h
  simp only [Bool.and_eq_true,decide_eq_true_eq] at h
  have h2:=h.1.2.2.2.2.2.2.2.2
  have h3:e.br.length=0∨e.br.length=1∨e.br.length=2∨e.br.length=3:=by omega
  refine ⟨h.1,fun k hk=>?_,by rw [Int.toNat_natCast],?_⟩
  · rw [List.getD_eq_getElem?_getD,List.getElem?_eq_getElem hk]
    exact List.all_eq_true.1 h.2 _ (List.getElem_mem hk)
  · rcases h3 with e|e|e|e <;> rw [e] <;> decide
theorem Pe {e:Esc} {s:Stp} (h:stopE e s=0):escOk e=true∧stpOk e s=true:=by
  unfold stopE at h
  split at h
  · split at h
    · exact ⟨by assumption,by assumption⟩
    · cases h
  · cases h
theorem tA {x m B:Int} (hm:0<m) (h : -B≤x∧x≤B) : -B≤x/m∧x/m≤B:=by
  constructor
  · rw [Int.le_ediv_iff_mul_le hm]
    have:B*1≤B*m:=Int.mul_le_mul_of_nonneg_left (by omega) (by omega)
    rw [Int.neg_mul];omega
  · have:=Int.ediv_le_ediv hm h.2
    have:=Int.ediv_le_self m (show 0≤B by omega)
    omega
theorem Cz {e:Esc} {v x f B:Int} (he:escOk e=true) (hx:0≤x∧x≤100000) (hf:0≤f∧f≤30000000) (hv : -B≤v∧v≤B) : -(B+50000000)≤tickI e v x f∧tickI e v x f≤B+50000000:=by
  obtain ⟨h1,_⟩:=cZ he
  have h2:0≤e.pull*x:=Int.mul_nonneg (by omega) (by omega)
  have h3:e.pull*x≤100*100000:=Int.mul_le_mul (by omega) (by omega) (by omega) (by omega)
  unfold tickI nB
  simp only
  generalize hg:(if e.up=true then -(e.pull*x) else e.pull*x)=g
  have h4 : -10000000≤g∧g≤10000000:=by rw [←hg];split <;> omega
  have h5:=tA (x:=g-(e.drag+f)) (B:=50000000) (show 0<e.empty+x by omega) (by omega)
  have h6:=tA (x := -g-(e.drag+f)) (B:=50000000) (show 0<e.empty+x by omega) (by omega)
  split <;> omega
theorem wQ {e:Esc} {s:Stp} {m:Bool} {v t:Int} (h:(m=true∧tickI e v s.hi (gripI e s t) > tickI e v s.lo (gripI e s t))∨(m=false∧tickI e v s.hi (gripI e s t)<tickI e v s.lo (gripI e s t))):extI e s m v t=tickI e v s.hi (gripI e s t):=by
  unfold extI
  exact if_pos h
theorem wR {e:Esc} {s:Stp} {m:Bool} {v t:Int} (h:¬ ((m=true∧tickI e v s.hi (gripI e s t) > tickI e v s.lo (gripI e s t))∨(m=false∧tickI e v s.hi (gripI e s t)<tickI e v s.lo (gripI e s t)))):extI e s m v t=tickI e v s.lo (gripI e s t):=by
  unfold extI
  exact if_neg h
theorem Sr {e:Esc} {s:Stp} {m:Bool} {v t:Int}:extI e s m v t=tickI e v s.lo (gripI e s t)∨extI e s m v t=tickI e v s.hi (gripI e s t):=by
  unfold extI
  simp only
  split
  · exact .inr rfl
  · exact .inl rfl
def distI (e:Esc) (s:Stp):Int×Int×Int:=
  if stopE e s≠0 then (0,0,stopE e s) else if (goI e s true 100 s.speed 0).2=true then ((goI e s false 100 s.speed 0).1,(goI e s true 100 s.speed 0).1,0) else (0,0,12)
end
section
theorem Bd (n lo hi:Int) (w:World) :
    Calls Tryz.prog 117 [.int .i64 n,.agg [.int .i64 lo,.int .i64 hi].toArray].toArray w (Ret (fun v w'=>v = .bool (decide (lo≤n)&&decide (n≤hi))∧St w noF [] w')):=by
 refine enter Tryz.func117 rfl Tryz.ntmps117 rfl (fun a H=>?_)
 have S:=St.start w
 refine seq_list fun K1 k1=>?_
 refine aN H rfl S G G ?_;clear H a S;intro b3 _ a hb3 hbw3 S H
 refine ls 1 H<|sr 1 rfl<|sE ?_;clear H a;intro a H
 refine k1 _ _ ?_;clear k1 K1
 replace H:=H.keep [0,3] rfl
 refine sS H fun K2 k2=>sf bE rfl<|sl S 0 aE G G G<|sr 3 rfl<|sg 4 4 9 13 true G G (fun hg5=>sy hg5<|sr 1 rfl<|sy hg5<|sf bB rfl<|sy hg5<|sl S 0 aE G G G<|sy hg5<|sr 1 rfl<|sz 4 G G G)<|sa G G G<|sr 1 rfl<|sE ?_;clear H a;intro a H
 refine k2 _ ?_;clear k2 K2
 refine wp_ret ?_
 refine ret1 (fn:=Tryz.f117) rfl H rfl ?_
 exact ⟨rfl,(S.sel [] G G)⟩
theorem dM (hi:Int) (w:World) :
    Calls Tryz.prog 118 [.int .i64 hi].toArray w (Ret (fun v w'=>v = .agg [.int .i64 0,.int .i64 hi].toArray∧St w noF [] w')):=by
 refine enter Tryz.func118 rfl Tryz.ntmps118 rfl (fun a H=>?_)
 have S:=St.start w
 refine seq_list fun K1 k1=>?_
 refine aI H rfl S bS ?_;clear H a S;intro b2 _ a hb2 hbw2 S H
 refine k1 _ _ ?_;clear k1 K1
 refine seq_list fun K2 k2=>?_
 refine ls 2 H<|sr 1 rfl<|sd (aP dI G G)<|sE ?_;clear H a;intro a H
 refine aD H S (i:=0) G G G G aQ G G ?_
 clear H a S;intro _ a S H
 refine k2 _ _ ?_;clear k2 K2
 refine wp_ret ?_
 refine retA (fn:=Tryz.f118) rfl H rfl aZ (by exact aQ) (cQ S (i:=0) rfl) ?_
 exact ⟨rfl,(S.sel [] G G)⟩
theorem cA {n lo hi:Int} {w:World} (h:lo≤n∧n≤hi):Calls Tryz.prog 117 [.int .i64 n,.agg [.int .i64 lo,.int .i64 hi].toArray].toArray w (Ret fun v w'=>v = .bool true∧St w noF [] w'):=
  fJ (Bd n lo hi w) fun v w' h'=>⟨h'.1.trans (congrArg Value.bool (by rw [decide_eq_true h.1,decide_eq_true h.2];rfl)),h'.2⟩
theorem kD {n lo hi:Int} {w:World} (h:n<lo∨hi<n):Calls Tryz.prog 117 [.int .i64 n,.agg [.int .i64 lo,.int .i64 hi].toArray].toArray w (Ret fun v w'=>v = .bool false∧St w noF [] w'):=
  fJ (Bd n lo hi w) fun v w' h'=>⟨h'.1.trans (congrArg Value.bool (by rw [Bool.and_eq_false_iff];simp only [decide_eq_false_iff_not];omega)),h'.2⟩
theorem Gl (b:Brake) (w:World) :
    Calls Tryz.prog 147 [.agg [.int .i64 b.force,.int .i64 b.delay].toArray].toArray w (Ret (fun v w'=>v = .bool (gL b)∧St w noF [] w')):=by
 refine enter Tryz.func147 rfl Tryz.ntmps147 rfl (fun a H=>?_)
 have S:=St.start w
 refine seq_list fun K1 k1=>?_
 refine aN H rfl S G G ?_;clear H a S;intro b1 _ a hb1 hbw1 S H
 refine ls 1 H<|sr 1 rfl<|sE ?_;clear H a;intro a H
 refine k1 _ _ ?_;clear k1 K1
 by_cases hs:0≤b.force∧b.force≤10000000
 ·skip
  replace H:=H.keep [1] rfl
  replace S:=S.drew
  refine seq_wq [(0,true),(1,true),(2,false),(3,false),(4,true),(5,true),(6,true),(7,false),(8,false),(9,true),(10,true)] (by kernel_rfl) (by kernel_rfl) (S.sel [0] G G) fun K2 k2=>?_
  refine qF H<|qd rfl (fun _ S=>(aC rC rfl))<|qd rfl (fun _ S=>aH aE rfl (boxM.rd S (i:=0) G G))<|qK ?_;clear H a;intro a H
  refine aT rfl ?_
  refine aA H G G Tryz.func118 G G (dM _ _) ?_;clear H a
  rintro _ _ a ⟨rfl,S2⟩ H
  replace S:=S.call S2;clear S2
  refine wpList_nil (And.intro (S.sel [0] G G) ?_)
  refine aT rfl ?_
  refine aA H G G Tryz.func117 G G (cA (by omega)) ?_;clear H a
  rintro _ _ a ⟨rfl,S2⟩ H
  replace S:=S.call S2;clear S2
  refine wpList_nil (And.intro (S.sel [0] G G) ?_)
  refine qF H<|qr 1 rfl<|qK ?_;clear H a;intro a H
  refine aF H G G G G (fun _ S=>(aC xM rfl)) ?_;clear H a;intro a H
  refine aF H G G G G (fun _ S=>aH aE rfl (boxM.rd S (i:=0) G G)) ?_;clear H a;intro a H
  refine aT rfl ?_
  refine aX H G G ?_
  refine aA H G G Tryz.func118 G G (dM _ _) ?_;clear H a
  rintro _ _ a ⟨rfl,S2⟩ H
  replace S:=S.call S2;clear S2
  refine wpList_nil (And.intro (S.sel [0] G G) ?_)
  refine aT rfl ?_
  refine aX H G G ?_
  refine aA H G G Tryz.func117 G G (Bd _ _ _ _) ?_;clear H a
  rintro _ _ a ⟨rfl,S2⟩ H
  replace S:=S.call S2;clear S2
  refine wpList_nil (And.intro (S.sel [0] G G) ?_)
  refine qF H<|qd rfl (fun _ S=>(iQ G G G))<|qr 1 rfl<|qK ?_;clear H a;intro a H
  refine bN ?_
  refine k2 _ _ ?_
  clear k2 K2
  refine wp_ret ?_
  refine ret1 (fn:=Tryz.f147) rfl H rfl ?_
  refine ⟨congrArg Value.bool ?_,(S.sel [] G G)⟩
  unfold gL
  first|(rw [Bool.eq_iff_iff];simp only [Bool.and_eq_true,decide_eq_true_eq,true_and];omega)|(symm;simp only [decide_eq_false_iff_not];omega)
 replace H:=H.keep [1] rfl
 replace S:=S.drew
 refine seq_wq [(0,true),(1,true),(2,false),(3,false),(4,true),(5,true),(6,true),(7,true),(8,true),(9,true),(10,true)] (by kernel_rfl) (by kernel_rfl) (S.sel [0] G G) fun K3 k3=>?_
 refine qF H<|qd rfl (fun _ S=>(aC rC rfl))<|qd rfl (fun _ S=>aH aE rfl (boxM.rd S (i:=0) G G))<|qK ?_;clear H a;intro a H
 refine aT rfl ?_
 refine aA H G G Tryz.func118 G G (dM _ _) ?_;clear H a
 rintro _ _ a ⟨rfl,S2⟩ H
 replace S:=S.call S2;clear S2
 refine wpList_nil (And.intro (S.sel [0] G G) ?_)
 refine aT rfl ?_
 refine aA H G G Tryz.func117 G G (kD (by omega)) ?_;clear H a
 rintro _ _ a ⟨rfl,S2⟩ H
 replace S:=S.call S2;clear S2
 refine wpList_nil (And.intro (S.sel [0] G G) ?_)
 refine qF H<|qr 1 rfl<|qK ?_;clear H a;intro a H
 refine aJ H G G G G G ?_;clear H a;intro a H
 refine aJ H G G G G G ?_;clear H a;intro a H
 refine aJ H G G G G G ?_;clear H a;intro a H
 refine aJ H G G G G G ?_;clear H a;intro a H
 refine qF H<|qd rfl (fun _ S=>(aU G G G))<|qr 1 rfl<|qK ?_;clear H a;intro a H
 refine bN ?_
 refine k3 _ _ ?_
 clear k3 K3
 refine wp_ret ?_
 refine ret1 (fn:=Tryz.f147) rfl H rfl ?_
 refine ⟨congrArg Value.bool ?_,(S.sel [] G G)⟩
 unfold gL
 first|(rw [Bool.eq_iff_iff];simp only [Bool.and_eq_true,decide_eq_true_eq,true_and];omega)|(symm;simp only [decide_eq_false_iff_not];omega)
theorem uO (up:Bool) (empty pull drag motor:Int) (br:List Brake) (BA:Option Addr) (bcp:Nat) (w:World) (hb:InS w noF 2 BA br.length (bcell br)) (hbn:br.length≤9223372036854775807) :
    Calls Tryz.prog 116 [.agg [.bool up,.int .i64 empty,.int .i64 pull,.int .i64 drag,.int .i64 motor,.slice BA br.length bcp].toArray].toArray w (Ret (fun v w'=>v = .int .i64 (if escOk (⟨up,empty,pull,drag,motor,br⟩:Esc)=true then 0 else 10)∧St w noF [] w')):=by
 refine enter Tryz.func116 rfl Tryz.ntmps116 rfl (fun a H=>?_)
 have S:=St.start w
 refine seq_list fun K1 k1=>?_
 refine aN H rfl S G G ?_;clear H a S;intro b1 _ a hb1 hbw1 S H
 refine ls 1 H<|sr 1 rfl<|sE ?_;clear H a;intro a H
 refine k1 _ _ ?_;clear k1 K1
 refine sS H fun K2 k2=>sr 1 rfl<|sE ?_;clear H a;intro a H
 refine k2 _ ?_;clear k2 K2
 refine wp_seq_k fun K3 k3=>?_
 rcases (show (empty<1∨(1≤empty∧100000<empty)∨(1≤empty∧empty≤100000∧(pull<0∨100<pull)))∨((1≤empty∧empty≤100000∧0≤pull∧pull≤100)∧((drag<0∨10000000<drag)∨((0≤drag∧drag≤10000000)∧(motor<0∨10000000<motor))∨((0≤drag∧drag≤10000000∧0≤motor∧motor≤10000000)∧3<(br.length:Int))∨((0≤drag∧drag≤10000000∧0≤motor∧motor≤10000000)∧(br.length:Int)≤3))) by omega) with (hs|hs|hs)|⟨hs0,hs|hs|hs|hs⟩
 ·skip
  skip
  replace H:=H.keep [1,3] rfl
  replace S:=S.drew
  refine seq_wq [(0,true),(1,true),(2,true),(3,true),(4,true),(5,true),(6,true),(7,true),(8,true),(9,true),(10,true),(11,true),(12,true),(13,true),(14,true),(15,true),(16,true),(17,true),(18,true),(19,true),(20,true),(21,true),(22,true),(23,true),(24,true),(25,true),(26,true),(27,true),(28,true),(29,true),(30,true),(31,true),(32,true),(33,true),(34,true)] (by kernel_rfl) (by kernel_rfl) (S.sel [0] G G) fun K4 k4=>?_
  refine qF H<|qd rfl (fun _ S=>(aC dQ rfl))<|qd rfl (fun _ S=>aH aE rfl (boxM.rd S (i:=0) G G))<|qd rfl (fun _ S=>Does.to (cU G G) (congrArg Value.bool (decide_eq_true (by omega))))<|qr 1 rfl<|qK ?_;clear H a;intro a H
  refine aJ H G G G G G ?_;clear H a;intro a H
  refine aJ H G G G G G ?_;clear H a;intro a H
  refine aJ H G G G G G ?_;clear H a;intro a H
  refine qF H<|qd rfl (fun _ S=>(aU G G G))<|qr 1 rfl<|qK ?_;clear H a;intro a H
  refine aJ H G G G G G ?_;clear H a;intro a H
  refine aJ H G G G G G ?_;clear H a;intro a H
  refine aJ H G G G G G ?_;clear H a;intro a H
  refine aJ H G G G G G ?_;clear H a;intro a H
  refine aJ H G G G G G ?_;clear H a;intro a H
  refine qF H<|qd rfl (fun _ S=>(aU G G G))<|qr 1 rfl<|qK ?_;clear H a;intro a H
  refine aJ H G G G G G ?_;clear H a;intro a H
  refine aJ H G G G G G ?_;clear H a;intro a H
  refine aJ H G G G G G ?_;clear H a;intro a H
  refine aJ H G G G G G ?_;clear H a;intro a H
  refine aJ H G G G G G ?_;clear H a;intro a H
  refine qF H<|qd rfl (fun _ S=>(aU G G G))<|qr 1 rfl<|qK ?_;clear H a;intro a H
  refine aJ H G G G G G ?_;clear H a;intro a H
  refine aJ H G G G G G ?_;clear H a;intro a H
  refine aJ H G G G G G ?_;clear H a;intro a H
  refine aJ H G G G G G ?_;clear H a;intro a H
  refine aJ H G G G G G ?_;clear H a;intro a H
  refine qF H<|qd rfl (fun _ S=>(aU G G G))<|qr 1 rfl<|qK ?_;clear H a;intro a H
  refine aJ H G G G G G ?_;clear H a;intro a H
  refine aJ H G G G G G ?_;clear H a;intro a H
  refine aJ H G G G G G ?_;clear H a;intro a H
  refine aJ H G G G G G ?_;clear H a;intro a H
  refine qF H<|qd rfl (fun _ S=>(aU G G G))<|qK ?_;clear H a;intro a H
  refine bN ?_
  refine k4 _ _ ?_
  clear k4 K4
  refine cond_ H rfl (fun hc1=>?_) (fun hc1=>?_)
  ·skip
   skip
   replace H:=H.keep [] rfl
   refine sS H fun K5 k5=>sr 1 rfl<|sE ?_;clear H a;intro a H
   refine k5 _ ?_;clear k5 K5
   refine wp_ret ?_
   refine ret1 (fn:=Tryz.f116) rfl H rfl ?_
   refine ⟨?_,(S.sel [] rfl rfl)⟩;rw [if_neg (by unfold escOk;simp only [Bool.and_eq_true,decide_eq_true_eq];rintro ⟨h1,_⟩;omega)]
  skip
  exact absurd hc1 (by decide)
 ·skip
  skip
  replace H:=H.keep [1,3] rfl
  replace S:=S.drew
  refine seq_wq [(0,true),(1,true),(2,true),(3,true),(4,true),(5,true),(6,true),(7,true),(8,true),(9,true),(10,true),(11,true),(12,true),(13,true),(14,true),(15,true),(16,true),(17,true),(18,true),(19,true),(20,true),(21,true),(22,true),(23,true),(24,true),(25,true),(26,true),(27,true),(28,true),(29,true),(30,true),(31,true),(32,true),(33,true),(34,true)] (by kernel_rfl) (by kernel_rfl) (S.sel [0] G G) fun K6 k6=>?_
  refine qF H<|qd rfl (fun _ S=>(aC dQ rfl))<|qd rfl (fun _ S=>aH aE rfl (boxM.rd S (i:=0) G G))<|qd rfl (fun _ S=>Does.to (cU G G) (congrArg Value.bool (decide_eq_false (by omega))))<|qr 1 rfl<|qK ?_;clear H a;intro a H
  refine aF H G G G G (fun _ S=>(aC dQ rfl)) ?_;clear H a;intro a H
  refine aF H G G G G (fun _ S=>aH aE rfl (boxM.rd S (i:=0) G G)) ?_;clear H a;intro a H
  refine aF H G G G G (fun _ S=>Does.to (bU G G) (congrArg Value.bool (decide_eq_true (by omega)))) ?_;clear H a;intro a H
  refine qF H<|qd rfl (fun _ S=>(aW G G G))<|qr 1 rfl<|qK ?_;clear H a;intro a H
  refine aJ H G G G G G ?_;clear H a;intro a H
  refine aJ H G G G G G ?_;clear H a;intro a H
  refine aJ H G G G G G ?_;clear H a;intro a H
  refine aJ H G G G G G ?_;clear H a;intro a H
  refine aJ H G G G G G ?_;clear H a;intro a H
  refine qF H<|qd rfl (fun _ S=>(aU G G G))<|qr 1 rfl<|qK ?_;clear H a;intro a H
  refine aJ H G G G G G ?_;clear H a;intro a H
  refine aJ H G G G G G ?_;clear H a;intro a H
  refine aJ H G G G G G ?_;clear H a;intro a H
  refine aJ H G G G G G ?_;clear H a;intro a H
  refine aJ H G G G G G ?_;clear H a;intro a H
  refine qF H<|qd rfl (fun _ S=>(aU G G G))<|qr 1 rfl<|qK ?_;clear H a;intro a H
  refine aJ H G G G G G ?_;clear H a;intro a H
  refine aJ H G G G G G ?_;clear H a;intro a H
  refine aJ H G G G G G ?_;clear H a;intro a H
  refine aJ H G G G G G ?_;clear H a;intro a H
  refine aJ H G G G G G ?_;clear H a;intro a H
  refine qF H<|qd rfl (fun _ S=>(aU G G G))<|qr 1 rfl<|qK ?_;clear H a;intro a H
  refine aJ H G G G G G ?_;clear H a;intro a H
  refine aJ H G G G G G ?_;clear H a;intro a H
  refine aJ H G G G G G ?_;clear H a;intro a H
  refine aJ H G G G G G ?_;clear H a;intro a H
  refine qF H<|qd rfl (fun _ S=>(aU G G G))<|qK ?_;clear H a;intro a H
  refine bN ?_
  refine k6 _ _ ?_
  clear k6 K6
  refine cond_ H rfl (fun hc2=>?_) (fun hc2=>?_)
  ·skip
   skip
   replace H:=H.keep [] rfl
   refine sS H fun K7 k7=>sr 1 rfl<|sE ?_;clear H a;intro a H
   refine k7 _ ?_;clear k7 K7
   refine wp_ret ?_
   refine ret1 (fn:=Tryz.f116) rfl H rfl ?_
   refine ⟨?_,(S.sel [] rfl rfl)⟩;rw [if_neg (by unfold escOk;simp only [Bool.and_eq_true,decide_eq_true_eq];rintro ⟨h1,_⟩;omega)]
  skip
  exact absurd hc2 (by decide)
 ·skip
  skip
  replace H:=H.keep [1,3] rfl
  replace S:=S.drew
  refine seq_wq [(0,true),(1,true),(2,true),(3,true),(4,true),(5,true),(6,true),(7,true),(8,true),(9,true),(10,true),(11,false),(12,false),(13,true),(14,true),(15,true),(16,true),(17,true),(18,true),(19,true),(20,true),(21,true),(22,true),(23,true),(24,true),(25,true),(26,true),(27,true),(28,true),(29,true),(30,true),(31,true),(32,true),(33,true),(34,true)] (by kernel_rfl) (by kernel_rfl) (S.sel [0] G G) fun K8 k8=>?_
  refine qF H<|qd rfl (fun _ S=>(aC dQ rfl))<|qd rfl (fun _ S=>aH aE rfl (boxM.rd S (i:=0) G G))<|qd rfl (fun _ S=>Does.to (cU G G) (congrArg Value.bool (decide_eq_false (by omega))))<|qr 1 rfl<|qK ?_;clear H a;intro a H
  refine aF H G G G G (fun _ S=>(aC dQ rfl)) ?_;clear H a;intro a H
  refine aF H G G G G (fun _ S=>aH aE rfl (boxM.rd S (i:=0) G G)) ?_;clear H a;intro a H
  refine aF H G G G G (fun _ S=>Does.to (bU G G) (congrArg Value.bool (decide_eq_false (by omega)))) ?_;clear H a;intro a H
  refine qF H<|qd rfl (fun _ S=>(aW G G G))<|qr 1 rfl<|qK ?_;clear H a;intro a H
  refine aF H G G G G (fun _ S=>(aC jV rfl)) ?_;clear H a;intro a H
  refine aF H G G G G (fun _ S=>aH aE rfl (boxM.rd S (i:=0) G G)) ?_;clear H a;intro a H
  refine aT rfl ?_
  refine aX H G G ?_
  refine aA H G G Tryz.func118 G G (dM _ _) ?_;clear H a
  rintro _ _ a ⟨rfl,S2⟩ H
  replace S:=S.call S2;clear S2
  refine wpList_nil (And.intro (S.sel [0] G G) ?_)
  refine aT rfl ?_
  refine aX H G G ?_
  refine aA H G G Tryz.func117 G G (kD (by omega)) ?_;clear H a
  rintro _ _ a ⟨rfl,S2⟩ H
  replace S:=S.call S2;clear S2
  refine wpList_nil (And.intro (S.sel [0] G G) ?_)
  refine aF H G G G G (fun _ S=>cJ rfl) ?_;clear H a;intro a H
  refine qF H<|qd rfl (fun _ S=>(aW G G G))<|qr 1 rfl<|qK ?_;clear H a;intro a H
  refine aJ H G G G G G ?_;clear H a;intro a H
  refine aJ H G G G G G ?_;clear H a;intro a H
  refine aJ H G G G G G ?_;clear H a;intro a H
  refine aJ H G G G G G ?_;clear H a;intro a H
  refine aJ H G G G G G ?_;clear H a;intro a H
  refine qF H<|qd rfl (fun _ S=>(aU G G G))<|qr 1 rfl<|qK ?_;clear H a;intro a H
  refine aJ H G G G G G ?_;clear H a;intro a H
  refine aJ H G G G G G ?_;clear H a;intro a H
  refine aJ H G G G G G ?_;clear H a;intro a H
  refine aJ H G G G G G ?_;clear H a;intro a H
  refine aJ H G G G G G ?_;clear H a;intro a H
  refine qF H<|qd rfl (fun _ S=>(aU G G G))<|qr 1 rfl<|qK ?_;clear H a;intro a H
  refine aJ H G G G G G ?_;clear H a;intro a H
  refine aJ H G G G G G ?_;clear H a;intro a H
  refine aJ H G G G G G ?_;clear H a;intro a H
  refine aJ H G G G G G ?_;clear H a;intro a H
  refine qF H<|qd rfl (fun _ S=>(aU G G G))<|qK ?_;clear H a;intro a H
  refine bN ?_
  refine k8 _ _ ?_
  clear k8 K8
  refine cond_ H rfl (fun hc3=>?_) (fun hc3=>?_)
  ·skip
   skip
   replace H:=H.keep [] rfl
   refine sS H fun K9 k9=>sr 1 rfl<|sE ?_;clear H a;intro a H
   refine k9 _ ?_;clear k9 K9
   refine wp_ret ?_
   refine ret1 (fn:=Tryz.f116) rfl H rfl ?_
   refine ⟨?_,(S.sel [] rfl rfl)⟩;rw [if_neg (by unfold escOk;simp only [Bool.and_eq_true,decide_eq_true_eq];rintro ⟨h1,_⟩;omega)]
  skip
  exact absurd hc3 (by decide)
 ·skip
  skip
  replace H:=H.keep [1,3] rfl
  replace S:=S.drew
  refine seq_wq [(0,true),(1,true),(2,true),(3,true),(4,true),(5,true),(6,true),(7,true),(8,true),(9,true),(10,true),(11,false),(12,false),(13,true),(14,true),(15,true),(16,true),(17,true),(18,false),(19,false),(20,true),(21,true),(22,true),(23,true),(24,true),(25,true),(26,true),(27,true),(28,true),(29,true),(30,true),(31,true),(32,true),(33,true),(34,true)] (by kernel_rfl) (by kernel_rfl) (S.sel [0] G G) fun K10 k10=>?_
  refine qF H<|qd rfl (fun _ S=>(aC dQ rfl))<|qd rfl (fun _ S=>aH aE rfl (boxM.rd S (i:=0) G G))<|qd rfl (fun _ S=>Does.to (cU G G) (congrArg Value.bool (decide_eq_false (by omega))))<|qr 1 rfl<|qK ?_;clear H a;intro a H
  refine aF H G G G G (fun _ S=>(aC dQ rfl)) ?_;clear H a;intro a H
  refine aF H G G G G (fun _ S=>aH aE rfl (boxM.rd S (i:=0) G G)) ?_;clear H a;intro a H
  refine aF H G G G G (fun _ S=>Does.to (bU G G) (congrArg Value.bool (decide_eq_false (by omega)))) ?_;clear H a;intro a H
  refine qF H<|qd rfl (fun _ S=>(aW G G G))<|qr 1 rfl<|qK ?_;clear H a;intro a H
  refine aF H G G G G (fun _ S=>(aC jV rfl)) ?_;clear H a;intro a H
  refine aF H G G G G (fun _ S=>aH aE rfl (boxM.rd S (i:=0) G G)) ?_;clear H a;intro a H
  refine aT rfl ?_
  refine aX H G G ?_
  refine aA H G G Tryz.func118 G G (dM _ _) ?_;clear H a
  rintro _ _ a ⟨rfl,S2⟩ H
  replace S:=S.call S2;clear S2
  refine wpList_nil (And.intro (S.sel [0] G G) ?_)
  refine aT rfl ?_
  refine aX H G G ?_
  refine aA H G G Tryz.func117 G G (cA (by omega)) ?_;clear H a
  rintro _ _ a ⟨rfl,S2⟩ H
  replace S:=S.call S2;clear S2
  refine wpList_nil (And.intro (S.sel [0] G G) ?_)
  refine aF H G G G G (fun _ S=>cJ rfl) ?_;clear H a;intro a H
  refine qF H<|qd rfl (fun _ S=>(aW G G G))<|qr 1 rfl<|qK ?_;clear H a;intro a H
  refine aF H G G G G (fun _ S=>(aC lF rfl)) ?_;clear H a;intro a H
  refine aF H G G G G (fun _ S=>aH aE rfl (boxM.rd S (i:=0) G G)) ?_;clear H a;intro a H
  refine aT rfl ?_
  refine aX H G G ?_
  refine aA H G G Tryz.func118 G G (dM _ _) ?_;clear H a
  rintro _ _ a ⟨rfl,S2⟩ H
  replace S:=S.call S2;clear S2
  refine wpList_nil (And.intro (S.sel [0] G G) ?_)
  refine aT rfl ?_
  refine aX H G G ?_
  refine aA H G G Tryz.func117 G G (kD (by omega)) ?_;clear H a
  rintro _ _ a ⟨rfl,S2⟩ H
  replace S:=S.call S2;clear S2
  refine wpList_nil (And.intro (S.sel [0] G G) ?_)
  refine aF H G G G G (fun _ S=>cJ rfl) ?_;clear H a;intro a H
  refine qF H<|qd rfl (fun _ S=>(aW G G G))<|qr 1 rfl<|qK ?_;clear H a;intro a H
  refine aJ H G G G G G ?_;clear H a;intro a H
  refine aJ H G G G G G ?_;clear H a;intro a H
  refine aJ H G G G G G ?_;clear H a;intro a H
  refine aJ H G G G G G ?_;clear H a;intro a H
  refine aJ H G G G G G ?_;clear H a;intro a H
  refine qF H<|qd rfl (fun _ S=>(aU G G G))<|qr 1 rfl<|qK ?_;clear H a;intro a H
  refine aJ H G G G G G ?_;clear H a;intro a H
  refine aJ H G G G G G ?_;clear H a;intro a H
  refine aJ H G G G G G ?_;clear H a;intro a H
  refine aJ H G G G G G ?_;clear H a;intro a H
  refine qF H<|qd rfl (fun _ S=>(aU G G G))<|qK ?_;clear H a;intro a H
  refine bN ?_
  refine k10 _ _ ?_
  clear k10 K10
  refine cond_ H rfl (fun hc4=>?_) (fun hc4=>?_)
  ·skip
   skip
   replace H:=H.keep [] rfl
   refine sS H fun K11 k11=>sr 1 rfl<|sE ?_;clear H a;intro a H
   refine k11 _ ?_;clear k11 K11
   refine wp_ret ?_
   refine ret1 (fn:=Tryz.f116) rfl H rfl ?_
   refine ⟨?_,(S.sel [] rfl rfl)⟩;rw [if_neg (by unfold escOk;simp only [Bool.and_eq_true,decide_eq_true_eq];rintro ⟨h1,_⟩;omega)]
  skip
  exact absurd hc4 (by decide)
 ·skip
  skip
  replace H:=H.keep [1,3] rfl
  replace S:=S.drew
  refine seq_wq [(0,true),(1,true),(2,true),(3,true),(4,true),(5,true),(6,true),(7,true),(8,true),(9,true),(10,true),(11,false),(12,false),(13,true),(14,true),(15,true),(16,true),(17,true),(18,false),(19,false),(20,true),(21,true),(22,true),(23,true),(24,true),(25,false),(26,false),(27,true),(28,true),(29,true),(30,true),(31,true),(32,true),(33,true),(34,true)] (by kernel_rfl) (by kernel_rfl) (S.sel [0] G G) fun K12 k12=>?_
  refine qF H<|qd rfl (fun _ S=>(aC dQ rfl))<|qd rfl (fun _ S=>aH aE rfl (boxM.rd S (i:=0) G G))<|qd rfl (fun _ S=>Does.to (cU G G) (congrArg Value.bool (decide_eq_false (by omega))))<|qr 1 rfl<|qK ?_;clear H a;intro a H
  refine aF H G G G G (fun _ S=>(aC dQ rfl)) ?_;clear H a;intro a H
  refine aF H G G G G (fun _ S=>aH aE rfl (boxM.rd S (i:=0) G G)) ?_;clear H a;intro a H
  refine aF H G G G G (fun _ S=>Does.to (bU G G) (congrArg Value.bool (decide_eq_false (by omega)))) ?_;clear H a;intro a H
  refine qF H<|qd rfl (fun _ S=>(aW G G G))<|qr 1 rfl<|qK ?_;clear H a;intro a H
  refine aF H G G G G (fun _ S=>(aC jV rfl)) ?_;clear H a;intro a H
  refine aF H G G G G (fun _ S=>aH aE rfl (boxM.rd S (i:=0) G G)) ?_;clear H a;intro a H
  refine aT rfl ?_
  refine aX H G G ?_
  refine aA H G G Tryz.func118 G G (dM _ _) ?_;clear H a
  rintro _ _ a ⟨rfl,S2⟩ H
  replace S:=S.call S2;clear S2
  refine wpList_nil (And.intro (S.sel [0] G G) ?_)
  refine aT rfl ?_
  refine aX H G G ?_
  refine aA H G G Tryz.func117 G G (cA (by omega)) ?_;clear H a
  rintro _ _ a ⟨rfl,S2⟩ H
  replace S:=S.call S2;clear S2
  refine wpList_nil (And.intro (S.sel [0] G G) ?_)
  refine aF H G G G G (fun _ S=>cJ rfl) ?_;clear H a;intro a H
  refine qF H<|qd rfl (fun _ S=>(aW G G G))<|qr 1 rfl<|qK ?_;clear H a;intro a H
  refine aF H G G G G (fun _ S=>(aC lF rfl)) ?_;clear H a;intro a H
  refine aF H G G G G (fun _ S=>aH aE rfl (boxM.rd S (i:=0) G G)) ?_;clear H a;intro a H
  refine aT rfl ?_
  refine aX H G G ?_
  refine aA H G G Tryz.func118 G G (dM _ _) ?_;clear H a
  rintro _ _ a ⟨rfl,S2⟩ H
  replace S:=S.call S2;clear S2
  refine wpList_nil (And.intro (S.sel [0] G G) ?_)
  refine aT rfl ?_
  refine aX H G G ?_
  refine aA H G G Tryz.func117 G G (cA (by omega)) ?_;clear H a
  rintro _ _ a ⟨rfl,S2⟩ H
  replace S:=S.call S2;clear S2
  refine wpList_nil (And.intro (S.sel [0] G G) ?_)
  refine aF H G G G G (fun _ S=>cJ rfl) ?_;clear H a;intro a H
  refine qF H<|qd rfl (fun _ S=>(aW G G G))<|qr 1 rfl<|qK ?_;clear H a;intro a H
  refine aF H G G G G (fun _ S=>(aC rB rfl)) ?_;clear H a;intro a H
  refine aF H G G G G (fun _ S=>aH aE rfl (boxM.rd S (i:=0) G G)) ?_;clear H a;intro a H
  refine aT rfl ?_
  refine aX H G G ?_
  refine aA H G G Tryz.func118 G G (dM _ _) ?_;clear H a
  rintro _ _ a ⟨rfl,S2⟩ H
  replace S:=S.call S2;clear S2
  refine wpList_nil (And.intro (S.sel [0] G G) ?_)
  refine aT rfl ?_
  refine aX H G G ?_
  refine aA H G G Tryz.func117 G G (kD (by omega)) ?_;clear H a
  rintro _ _ a ⟨rfl,S2⟩ H
  replace S:=S.call S2;clear S2
  refine wpList_nil (And.intro (S.sel [0] G G) ?_)
  refine aF H G G G G (fun _ S=>cJ rfl) ?_;clear H a;intro a H
  refine qF H<|qd rfl (fun _ S=>(aW G G G))<|qr 1 rfl<|qK ?_;clear H a;intro a H
  refine aJ H G G G G G ?_;clear H a;intro a H
  refine aJ H G G G G G ?_;clear H a;intro a H
  refine aJ H G G G G G ?_;clear H a;intro a H
  refine aJ H G G G G G ?_;clear H a;intro a H
  refine qF H<|qd rfl (fun _ S=>(aU G G G))<|qK ?_;clear H a;intro a H
  refine bN ?_
  refine k12 _ _ ?_
  clear k12 K12
  refine cond_ H rfl (fun hc5=>?_) (fun hc5=>?_)
  ·skip
   skip
   replace H:=H.keep [] rfl
   refine sS H fun K13 k13=>sr 1 rfl<|sE ?_;clear H a;intro a H
   refine k13 _ ?_;clear k13 K13
   refine wp_ret ?_
   refine ret1 (fn:=Tryz.f116) rfl H rfl ?_
   refine ⟨?_,(S.sel [] rfl rfl)⟩;rw [if_neg (by unfold escOk;simp only [Bool.and_eq_true,decide_eq_true_eq];rintro ⟨h1,_⟩;omega)]
  skip
  exact absurd hc5 (by decide)
 ·skip
  skip
  replace H:=H.keep [1,3] rfl
  replace S:=S.drew
  refine seq_wq [(0,true),(1,true),(2,true),(3,true),(4,true),(5,true),(6,true),(7,true),(8,true),(9,true),(10,true),(11,false),(12,false),(13,true),(14,true),(15,true),(16,true),(17,true),(18,false),(19,false),(20,true),(21,true),(22,true),(23,true),(24,true),(25,false),(26,false),(27,true),(28,true),(29,true),(30,true),(31,true),(32,true),(33,true),(34,true)] (by kernel_rfl) (by kernel_rfl) (S.sel [0] G G) fun K14 k14=>?_
  refine qF H<|qd rfl (fun _ S=>(aC dQ rfl))<|qd rfl (fun _ S=>aH aE rfl (boxM.rd S (i:=0) G G))<|qd rfl (fun _ S=>Does.to (cU G G) (congrArg Value.bool (decide_eq_false (by omega))))<|qr 1 rfl<|qK ?_;clear H a;intro a H
  refine aF H G G G G (fun _ S=>(aC dQ rfl)) ?_;clear H a;intro a H
  refine aF H G G G G (fun _ S=>aH aE rfl (boxM.rd S (i:=0) G G)) ?_;clear H a;intro a H
  refine aF H G G G G (fun _ S=>Does.to (bU G G) (congrArg Value.bool (decide_eq_false (by omega)))) ?_;clear H a;intro a H
  refine qF H<|qd rfl (fun _ S=>(aW G G G))<|qr 1 rfl<|qK ?_;clear H a;intro a H
  refine aF H G G G G (fun _ S=>(aC jV rfl)) ?_;clear H a;intro a H
  refine aF H G G G G (fun _ S=>aH aE rfl (boxM.rd S (i:=0) G G)) ?_;clear H a;intro a H
  refine aT rfl ?_
  refine aX H G G ?_
  refine aA H G G Tryz.func118 G G (dM _ _) ?_;clear H a
  rintro _ _ a ⟨rfl,S2⟩ H
  replace S:=S.call S2;clear S2
  refine wpList_nil (And.intro (S.sel [0] G G) ?_)
  refine aT rfl ?_
  refine aX H G G ?_
  refine aA H G G Tryz.func117 G G (cA (by omega)) ?_;clear H a
  rintro _ _ a ⟨rfl,S2⟩ H
  replace S:=S.call S2;clear S2
  refine wpList_nil (And.intro (S.sel [0] G G) ?_)
  refine aF H G G G G (fun _ S=>cJ rfl) ?_;clear H a;intro a H
  refine qF H<|qd rfl (fun _ S=>(aW G G G))<|qr 1 rfl<|qK ?_;clear H a;intro a H
  refine aF H G G G G (fun _ S=>(aC lF rfl)) ?_;clear H a;intro a H
  refine aF H G G G G (fun _ S=>aH aE rfl (boxM.rd S (i:=0) G G)) ?_;clear H a;intro a H
  refine aT rfl ?_
  refine aX H G G ?_
  refine aA H G G Tryz.func118 G G (dM _ _) ?_;clear H a
  rintro _ _ a ⟨rfl,S2⟩ H
  replace S:=S.call S2;clear S2
  refine wpList_nil (And.intro (S.sel [0] G G) ?_)
  refine aT rfl ?_
  refine aX H G G ?_
  refine aA H G G Tryz.func117 G G (cA (by omega)) ?_;clear H a
  rintro _ _ a ⟨rfl,S2⟩ H
  replace S:=S.call S2;clear S2
  refine wpList_nil (And.intro (S.sel [0] G G) ?_)
  refine aF H G G G G (fun _ S=>cJ rfl) ?_;clear H a;intro a H
  refine qF H<|qd rfl (fun _ S=>(aW G G G))<|qr 1 rfl<|qK ?_;clear H a;intro a H
  refine aF H G G G G (fun _ S=>(aC rB rfl)) ?_;clear H a;intro a H
  refine aF H G G G G (fun _ S=>aH aE rfl (boxM.rd S (i:=0) G G)) ?_;clear H a;intro a H
  refine aT rfl ?_
  refine aX H G G ?_
  refine aA H G G Tryz.func118 G G (dM _ _) ?_;clear H a
  rintro _ _ a ⟨rfl,S2⟩ H
  replace S:=S.call S2;clear S2
  refine wpList_nil (And.intro (S.sel [0] G G) ?_)
  refine aT rfl ?_
  refine aX H G G ?_
  refine aA H G G Tryz.func117 G G (cA (by omega)) ?_;clear H a
  rintro _ _ a ⟨rfl,S2⟩ H
  replace S:=S.call S2;clear S2
  refine wpList_nil (And.intro (S.sel [0] G G) ?_)
  refine aF H G G G G (fun _ S=>cJ rfl) ?_;clear H a;intro a H
  refine qF H<|qd rfl (fun _ S=>(aW G G G))<|qr 1 rfl<|qK ?_;clear H a;intro a H
  refine aF H G G G G (fun _ S=>(aC jW rfl)) ?_;clear H a;intro a H
  refine aF H G G G G (fun _ S=>aH lU rfl (boxM.rd S (i:=0) G G)) ?_;clear H a;intro a H
  refine aF H G G G G (fun _ S=>cD kM rfl) ?_;clear H a;intro a H
  refine aF H G G G G (fun _ S=>Does.to (bU G G) (congrArg Value.bool (decide_eq_true (by omega)))) ?_;clear H a;intro a H
  refine qF H<|qd rfl (fun _ S=>(aW G G G))<|qK ?_;clear H a;intro a H
  refine bN ?_
  refine k14 _ _ ?_
  clear k14 K14
  refine cond_ H rfl (fun hc6=>?_) (fun hc6=>?_)
  ·skip
   skip
   replace H:=H.keep [] rfl
   refine sS H fun K15 k15=>sr 1 rfl<|sE ?_;clear H a;intro a H
   refine k15 _ ?_;clear k15 K15
   refine wp_ret ?_
   refine ret1 (fn:=Tryz.f116) rfl H rfl ?_
   refine ⟨?_,(S.sel [] rfl rfl)⟩;rw [if_neg (by unfold escOk;simp only [Bool.and_eq_true,decide_eq_true_eq];rintro ⟨h1,_⟩;omega)]
  skip
  exact absurd hc6 (by decide)
 skip
 replace H:=H.keep [1,3] rfl
 replace S:=S.drew
 refine seq_wq [(0,true),(1,true),(2,true),(3,true),(4,true),(5,true),(6,true),(7,true),(8,true),(9,true),(10,true),(11,false),(12,false),(13,true),(14,true),(15,true),(16,true),(17,true),(18,false),(19,false),(20,true),(21,true),(22,true),(23,true),(24,true),(25,false),(26,false),(27,true),(28,true),(29,true),(30,true),(31,true),(32,true),(33,true),(34,true)] (by kernel_rfl) (by kernel_rfl) (S.sel [0] G G) fun K16 k16=>?_
 refine qF H<|qd rfl (fun _ S=>(aC dQ rfl))<|qd rfl (fun _ S=>aH aE rfl (boxM.rd S (i:=0) G G))<|qd rfl (fun _ S=>Does.to (cU G G) (congrArg Value.bool (decide_eq_false (by omega))))<|qr 1 rfl<|qK ?_;clear H a;intro a H
 refine aF H G G G G (fun _ S=>(aC dQ rfl)) ?_;clear H a;intro a H
 refine aF H G G G G (fun _ S=>aH aE rfl (boxM.rd S (i:=0) G G)) ?_;clear H a;intro a H
 refine aF H G G G G (fun _ S=>Does.to (bU G G) (congrArg Value.bool (decide_eq_false (by omega)))) ?_;clear H a;intro a H
 refine qF H<|qd rfl (fun _ S=>(aW G G G))<|qr 1 rfl<|qK ?_;clear H a;intro a H
 refine aF H G G G G (fun _ S=>(aC jV rfl)) ?_;clear H a;intro a H
 refine aF H G G G G (fun _ S=>aH aE rfl (boxM.rd S (i:=0) G G)) ?_;clear H a;intro a H
 refine aT rfl ?_
 refine aX H G G ?_
 refine aA H G G Tryz.func118 G G (dM _ _) ?_;clear H a
 rintro _ _ a ⟨rfl,S2⟩ H
 replace S:=S.call S2;clear S2
 refine wpList_nil (And.intro (S.sel [0] G G) ?_)
 refine aT rfl ?_
 refine aX H G G ?_
 refine aA H G G Tryz.func117 G G (cA (by omega)) ?_;clear H a
 rintro _ _ a ⟨rfl,S2⟩ H
 replace S:=S.call S2;clear S2
 refine wpList_nil (And.intro (S.sel [0] G G) ?_)
 refine aF H G G G G (fun _ S=>cJ rfl) ?_;clear H a;intro a H
 refine qF H<|qd rfl (fun _ S=>(aW G G G))<|qr 1 rfl<|qK ?_;clear H a;intro a H
 refine aF H G G G G (fun _ S=>(aC lF rfl)) ?_;clear H a;intro a H
 refine aF H G G G G (fun _ S=>aH aE rfl (boxM.rd S (i:=0) G G)) ?_;clear H a;intro a H
 refine aT rfl ?_
 refine aX H G G ?_
 refine aA H G G Tryz.func118 G G (dM _ _) ?_;clear H a
 rintro _ _ a ⟨rfl,S2⟩ H
 replace S:=S.call S2;clear S2
 refine wpList_nil (And.intro (S.sel [0] G G) ?_)
 refine aT rfl ?_
 refine aX H G G ?_
 refine aA H G G Tryz.func117 G G (cA (by omega)) ?_;clear H a
 rintro _ _ a ⟨rfl,S2⟩ H
 replace S:=S.call S2;clear S2
 refine wpList_nil (And.intro (S.sel [0] G G) ?_)
 refine aF H G G G G (fun _ S=>cJ rfl) ?_;clear H a;intro a H
 refine qF H<|qd rfl (fun _ S=>(aW G G G))<|qr 1 rfl<|qK ?_;clear H a;intro a H
 refine aF H G G G G (fun _ S=>(aC rB rfl)) ?_;clear H a;intro a H
 refine aF H G G G G (fun _ S=>aH aE rfl (boxM.rd S (i:=0) G G)) ?_;clear H a;intro a H
 refine aT rfl ?_
 refine aX H G G ?_
 refine aA H G G Tryz.func118 G G (dM _ _) ?_;clear H a
 rintro _ _ a ⟨rfl,S2⟩ H
 replace S:=S.call S2;clear S2
 refine wpList_nil (And.intro (S.sel [0] G G) ?_)
 refine aT rfl ?_
 refine aX H G G ?_
 refine aA H G G Tryz.func117 G G (cA (by omega)) ?_;clear H a
 rintro _ _ a ⟨rfl,S2⟩ H
 replace S:=S.call S2;clear S2
 refine wpList_nil (And.intro (S.sel [0] G G) ?_)
 refine aF H G G G G (fun _ S=>cJ rfl) ?_;clear H a;intro a H
 refine qF H<|qd rfl (fun _ S=>(aW G G G))<|qr 1 rfl<|qK ?_;clear H a;intro a H
 refine aF H G G G G (fun _ S=>(aC jW rfl)) ?_;clear H a;intro a H
 refine aF H G G G G (fun _ S=>aH lU rfl (boxM.rd S (i:=0) G G)) ?_;clear H a;intro a H
 refine aF H G G G G (fun _ S=>cD kM rfl) ?_;clear H a;intro a H
 refine aF H G G G G (fun _ S=>Does.to (bU G G) (congrArg Value.bool (decide_eq_false (by omega)))) ?_;clear H a;intro a H
 refine qF H<|qd rfl (fun _ S=>(aW G G G))<|qK ?_;clear H a;intro a H
 refine bN ?_
 refine k16 _ _ ?_
 clear k16 K16
 refine cond_ H rfl (fun hc7=>?_) (fun hc7=>?_)
 ·skip
  skip
  exact absurd hc7 (by decide)
 skip
 refine wp_skip ?_
 refine k3 _ _ ?_
 refine wp_seq_k fun K17 k17=>?_
 replace H:=H.keep [1,3] rfl
 refine sS H fun K18 k18=>sf jW rfl<|sl S 0 lU G G G<|sL kM rfl<|sr 1 rfl<|sE ?_;clear H a;intro a H
 refine k18 _ ?_;clear k18 K18
 refine wp_block ?_
 refine loop_st (X:=Nat) (R0:=_) [3,42,43] H rfl (fun k=>[(44,.int .i64 (k:Int))]) (fun k=>[]) (fun g k=>k≤br.length∧g+k=br.length∧(br.take k).all gL=true) (br.length) 0 ?_ (S.sel [0] G G) (H.keep [44,3,42,43] rfl) ?_
 · exact ⟨by omega,by omega,by simp⟩
 clear H S a
 intro g1 x1 a w1 hp S H K19 k19
 obtain ⟨k,rfl⟩:∃ y,y=x1:=⟨_,rfl⟩
 refine sS H fun K20 k20=>sr 1 rfl<|sE ?_;clear H a;intro a H
 refine k20 _ ?_;clear k20 K20
 refine wp_seq_k fun K21 k21=>?_
 refine condL H rfl (fun hc8=>?_) (fun hc8=>?_)
 ·skip
  refine wp_skip ?_
  refine k21 _ _ ?_
  refine wp_seq_k fun K22 k22=>?_
  refine wp_block ?_
  refine seq_list fun K23 k23=>?_
  refine ls 2 H<|si kM lE G G (hb.adr (by omega)) (by omega)<|sd ((aV uZ lE rfl S hb (by omega) (by omega)))<|sE ?_;clear H a;intro a H
  refine aI H rfl S vJ ?_;clear H a S;intro b5 _ a hb5 hbw5 S H
  refine aD H S (i:=0) G G G G lE G G ?_
  clear H a S;intro _ a S H
  refine k23 _ _ ?_;clear k23 K23
  refine seq_list fun K24 k24=>?_
  refine ls 2 H<|sr 1 rfl<|sd ((aB uZ lE rfl S (i:=0) G G))<|sE ?_;clear H a;intro a H
  refine mN H G G G Tryz.func147 G G (Gl (br.getD k Brake.zero) _) ?_;clear H a
  rintro _ _ a ⟨rfl,S2⟩ H
  replace S:=S.call S2;clear S2
  refine ls 1 H<|sr 1 rfl<|sE ?_;clear H a;intro a H
  refine k24 _ _ ?_;clear k24 K24
  refine cond_ H rfl (fun hc9=>?_) (fun hc9=>?_)
  ·skip
   try simp only [o1,o2,o3,o4,o5,o6,o7,o8,o9,oa] at hc9
   replace H:=H.keep [] rfl
   refine sS H fun K25 k25=>sr 1 rfl<|sE ?_;clear H a;intro a H
   refine k25 _ ?_;clear k25 K25
   refine wp_ret ?_
   refine ret1 (fn:=Tryz.f116) rfl H rfl ?_
   refine ⟨?_,(S.sel [] G G)⟩;rw [if_neg (by unfold escOk;rw [oZ (l:=br) (k:=k) (d:=Brake.zero) (by omega) (by simpa using hc9)];simp)]
  try simp only [o1,o2,o3,o4,o5,o6,o7,o8,o9,oa] at hc9
  refine wp_skip ?_
  refine k22 _ _ ?_
  refine sO H<|sd (aK G G (by unfold i64ok;omega))<|sr 1 rfl<|sE ?_;clear H a;intro a H
  exact k19 (g1-1) (k+1) a _ (by omega) (⟨by omega,by omega,rQ (d:=Brake.zero) (by omega) hp.2.2 (by simpa using hc9)⟩) (S.sel [1] G G) (H.keep [44,3,42,43] rfl)
 refine wp_exit ?_
 refine k17 _ _ ?_
 refine sS H fun K27 k27=>sr 1 rfl<|sE ?_;clear H a;intro a H
 refine k27 _ ?_;clear k27 K27
 refine wp_ret ?_
 refine ret1 (fn:=Tryz.f116) rfl H rfl ?_
 refine ⟨?_,(S.sel [] G G)⟩;rw [List.take_of_length_le (by omega)] at hp;rw [if_pos (by unfold escOk;simp only [Bool.and_eq_true,decide_eq_true_eq];exact ⟨by omega,hp.2.2⟩)]
theorem Gm (a b:Int) (w:World) (hb:0<b) (ha:i64ok a) (ha2 : -9000000000000000000≤a∧a≤9000000000000000000) :
    Calls Tryz.prog 198 [.int .i64 a,.int .i64 b].toArray w (Ret (fun v w'=>v = .int .i64 (a/b)∧St w noF [] w')):=by
 have hfl:=Gu (m:=a) hb;have hdb:=tA (B:=9000000000000000000) hb ha2
 refine enter Tryz.func198 rfl Tryz.ntmps198 rfl (fun a H=>?_)
 have S:=St.start w
 refine sS H fun K1 k1=>sr 1 rfl<|sE ?_;clear H a;intro a H
 refine k1 _ ?_;clear k1 K1
 replace S:=S.drew
 refine sD H fun K2 k2=>sr 2 rfl<|sd (Df G G (by omega) (Lq ha hb))<|sr 2 rfl<|sd (Dg G G (by omega))<|sr 2 rfl<|sE ?_;clear H a;intro a H
 refine k2 _ ?_;clear k2 K2
 refine wp_seq_k fun K3 k3=>?_
 replace H:=H.keep [5,6] rfl
 refine sS H fun K4 k4=>sr 2 rfl<|sE ?_;clear H a;intro a H
 refine k4 _ ?_;clear k4 K4
 refine condL H rfl (fun hc1=>?_) (fun hc1=>?_)
 ·skip
  refine sO H<|sr 1 rfl<|sd (aR G G (by unfold i64ok;omega))<|sr 1 rfl<|sE ?_;clear H a;intro a H
  refine k3 _ _ ?_
  refine sS H fun K6 k6=>sr 2 rfl<|sE ?_;clear H a;intro a H
  refine k6 _ ?_;clear k6 K6
  refine wp_ret ?_
  refine ret1 (fn:=Tryz.f198) rfl H rfl ?_
  first|rw [if_pos (by omega)] at hfl|rw [if_neg (by omega)] at hfl
  exact ⟨congrArg (Value.int .i64) (by omega),(S.sel [] G G)⟩
 refine wp_skip ?_
 refine k3 _ _ ?_
 refine sS H fun K7 k7=>sr 2 rfl<|sE ?_;clear H a;intro a H
 refine k7 _ ?_;clear k7 K7
 refine wp_ret ?_
 refine ret1 (fn:=Tryz.f198) rfl H rfl ?_
 first|rw [if_pos (by omega)] at hfl|rw [if_neg (by omega)] at hfl
 exact ⟨congrArg (Value.int .i64) (by omega),(S.sel [] G G)⟩
theorem mI (v g f m:Int) (w:World) (hm:0<m) (hg : -50000000≤g-f∧g-f≤50000000) (hv : -1000000000000≤v∧v≤1000000000000) :
    Calls Tryz.prog 189 [.int .i64 v,.int .i64 g,.int .i64 f,.int .i64 m].toArray w (Ret (fun u w'=>u = .int .i64 (nB v g f m)∧St w noF [] w')):=by
 have hdb:=tA (B:=50000000) hm hg
 refine enter Tryz.func189 rfl Tryz.ntmps189 rfl (fun a H=>?_)
 have S:=St.start w
 refine sS H fun K1 k1=>sr 1 rfl<|sE ?_;clear H a;intro a H
 refine k1 _ ?_;clear k1 K1
 replace H:=H.keep [0,1,2,3] rfl
 refine seq_list fun K2 k2=>?_
 refine ls 5 H<|sr 3 rfl<|sd (aR G G (by unfold i64ok;omega))<|sr 1 rfl<|sE ?_;clear H a;intro a H
 refine aA H G G Tryz.func198 G G (Gm _ _ _ hm (by unfold i64ok;omega) (by omega)) ?_;clear H a
 rintro _ _ a ⟨rfl,S2⟩ H
 replace S:=S.call S2;clear S2
 refine ls 3 H<|sd (aK G G (by unfold i64ok;omega))<|sd (kX G G)<|sr 1 rfl<|sE ?_;clear H a;intro a H
 refine k2 _ _ ?_;clear k2 K2
 refine wp_ret ?_
 refine ret1 (fn:=Tryz.f189) rfl H rfl ?_
 exact ⟨rfl,(S.sel [] G G)⟩
theorem kE (up:Bool) (empty pull drag motor:Int) (br:List Brake) (BA:Option Addr) (bcp:Nat) (v x bf:Int) (w:World) (hesc:escOk (⟨up,empty,pull,drag,motor,br⟩:Esc)=true) (hx:0≤x∧x≤100000) (hbf:0≤bf∧bf≤30000000) (hv : -900000000000≤v∧v≤900000000000) :
    Calls Tryz.prog 178 [.agg [.bool up,.int .i64 empty,.int .i64 pull,.int .i64 drag,.int .i64 motor,.slice BA br.length bcp].toArray,.int .i64 v,.int .i64 x,.int .i64 bf].toArray w (Ret (fun u w'=>u = .int .i64 (tickI (⟨up,empty,pull,drag,motor,br⟩:Esc) v x bf)∧St w noF [] w')):=by
 have hE:=cZ hesc
 dsimp only at hE
 obtain ⟨hE1,hE2,hE3,hE4,hE5⟩:=hE
 have hm1:0≤pull*x:=Int.mul_nonneg (by omega) (by omega)
 have hm2:pull*x≤100*100000:=Int.mul_le_mul (by omega) (by omega) (by omega) (by omega)
 have ab:∀ v' g':Int,(-900000000000≤v'∧v'≤900000000000)→(-10000000≤g'∧g'≤10000000)→0≤nB v' g' (drag+bf) (empty+x)∧nB v' g' (drag+bf) (empty+x)≤1000000000000:=fun v' g' h h'=>by have:=tA (x:=g'-(drag+bf)) (m:=empty+x) (B:=50000000) (by omega) (by omega);unfold nB;omega
 refine enter Tryz.func178 rfl Tryz.ntmps178 rfl (fun a H=>?_)
 have S:=St.start w
 refine seq_list fun K1 k1=>?_
 refine aN H rfl S G G ?_;clear H a S;intro b4 _ a hb4 hbw4 S H
 refine ls 1 H<|sr 1 rfl<|sE ?_;clear H a;intro a H
 refine k1 _ _ ?_;clear k1 K1
 replace H:=H.keep [1,2,3,4] rfl
 replace S:=S.drew
 refine sD H fun K2 k2=>sf jV rfl<|sl S 0 aE G G G<|sr 1 rfl<|sd (iP G G (by unfold i64ok;omega))<|sf lF rfl<|sl S 0 aE G G G<|sr 1 rfl<|sd (aK G G (by unfold i64ok;omega))<|sf dQ rfl<|sl S 0 aE G G G<|sr 1 rfl<|sd (aK G G (by unfold i64ok;omega))<|sr 3 rfl<|sE ?_;clear H a;intro a H
 refine k2 _ ?_;clear k2 K2
 refine wp_seq_k fun K3 k3=>?_
 cases up
 ·skip
  replace H:=H.keep [1,4,9,10,11] rfl
  refine sS H fun K4 k4=>sf xJ rfl<|sl S 0 jE G G G<|sE ?_;clear H a;intro a H
  refine k4 _ ?_;clear k4 K4
  refine cond_ H rfl (fun hc1=>?_) (fun hc1=>?_)
  ·skip
   skip
   exact absurd hc1 (by decide)
  skip
  refine wp_skip ?_
  refine k3 _ _ ?_
  refine wp_seq_k fun K5 k5=>?_
  replace H:=H.keep [1,9,10,11] rfl
  refine sS H fun K6 k6=>sr 3 rfl<|sg 6 2 30 36 false G G (fun hg3=>sy hg3<|sr 1 rfl<|sy hg3<|sr 1 rfl<|sy hg3<|sr 1 rfl<|sg 2 5 33 35 true G G (fun hg6=>sy hg6<|sr 1 rfl<|sy hg6<|sr 1 rfl<|sz 2 G G G)<|sy hg3<|sa G G G<|sz 5 G G G)<|so G G G<|sE ?_;clear H a;intro a H
  refine k6 _ ?_;clear k6 K6
  refine cond_ H rfl (fun hc2=>?_) (fun hc2=>?_)
  ·skip
   try simp only [o1,o2,o3,o4,o5,o6,o7,o8,o9,oa] at hc2
   have a1:=ab (-v) (-(pull*x)) (by omega) (by omega);have a2:=ab (-v) (- -(pull*x)) (by omega) (by omega)
   replace H:=H.keep [1,9,10,11] rfl
   refine seq_list fun K7 k7=>?_
   refine ls 6 H<|sr 1 rfl<|sd (hT rfl (by unfold i64ok;omega))<|sr 1 rfl<|sd (hT rfl (by unfold i64ok;omega))<|sr 2 rfl<|sE ?_;clear H a;intro a H
   refine aA H G G Tryz.func189 G G (mI _ _ _ _ _ (by omega) (by omega) (by omega)) ?_;clear H a
   rintro _ _ a ⟨rfl,S2⟩ H
   replace S:=S.call S2;clear S2
   refine ls 2 H<|sd (hT rfl (by unfold i64ok;omega))<|sr 1 rfl<|sE ?_;clear H a;intro a H
   refine k7 _ _ ?_;clear k7 K7
   refine wp_ret ?_
   refine ret1 (fn:=Tryz.f178) rfl H rfl ?_
   exact ⟨congrArg (Value.int .i64) (by unfold tickI;simp only [Bool.false_eq_true,if_true,if_false];first|rw [if_pos (by omega)]|rw [if_neg (by omega)]),(S.sel [] G G)⟩
  try simp only [o1,o2,o3,o4,o5,o6,o7,o8,o9,oa] at hc2
  refine wp_skip ?_
  refine k5 _ _ ?_
  replace H:=H.keep [1,9,10,11] rfl
  refine seq_list fun K8 k8=>?_
  refine ls 4 H<|sr 4 rfl<|sE ?_;clear H a;intro a H
  refine aA H G G Tryz.func189 G G (mI _ _ _ _ _ (by omega) (by omega) (by omega)) ?_;clear H a
  rintro _ _ a ⟨rfl,S2⟩ H
  replace S:=S.call S2;clear S2
  refine ls 1 H<|sr 1 rfl<|sE ?_;clear H a;intro a H
  refine k8 _ _ ?_;clear k8 K8
  refine wp_ret ?_
  refine ret1 (fn:=Tryz.f178) rfl H rfl ?_
  exact ⟨congrArg (Value.int .i64) (by unfold tickI;simp only [Bool.false_eq_true,if_true,if_false];first|rw [if_pos (by omega)]|rw [if_neg (by omega)]),(S.sel [] G G)⟩
 refine sS H fun K9 k9=>sf xJ rfl<|sl S 0 jE G G G<|sE ?_;clear H a;intro a H
 refine k9 _ ?_;clear k9 K9
 refine cond_ H rfl (fun hc3=>?_) (fun hc3=>?_)
 ·skip
  skip
  replace H:=H.keep [1,9,10,11] rfl
  refine sO H<|sr 1 rfl<|sd (hT rfl (by unfold i64ok;omega))<|sr 1 rfl<|sE ?_;clear H a;intro a H
  refine k3 _ _ ?_
  refine wp_seq_k fun K11 k11=>?_
  replace H:=H.keep [1,9,10,11] rfl
  refine sS H fun K12 k12=>sr 3 rfl<|sg 6 2 30 36 false G G (fun hg3=>sy hg3<|sr 1 rfl<|sy hg3<|sr 1 rfl<|sy hg3<|sr 1 rfl<|sg 2 5 33 35 true G G (fun hg6=>sy hg6<|sr 1 rfl<|sy hg6<|sr 1 rfl<|sz 2 G G G)<|sy hg3<|sa G G G<|sz 5 G G G)<|so G G G<|sE ?_;clear H a;intro a H
  refine k12 _ ?_;clear k12 K12
  refine cond_ H rfl (fun hc4=>?_) (fun hc4=>?_)
  ·skip
   try simp only [o1,o2,o3,o4,o5,o6,o7,o8,o9,oa] at hc4
   have a1:=ab (-v) (-(pull*x)) (by omega) (by omega);have a2:=ab (-v) (- -(pull*x)) (by omega) (by omega)
   replace H:=H.keep [1,9,10,11] rfl
   refine seq_list fun K13 k13=>?_
   refine ls 6 H<|sr 1 rfl<|sd (hT rfl (by unfold i64ok;omega))<|sr 1 rfl<|sd (hT rfl (by unfold i64ok;omega))<|sr 2 rfl<|sE ?_;clear H a;intro a H
   refine aA H G G Tryz.func189 G G (mI _ _ _ _ _ (by omega) (by omega) (by omega)) ?_;clear H a
   rintro _ _ a ⟨rfl,S2⟩ H
   replace S:=S.call S2;clear S2
   refine ls 2 H<|sd (hT rfl (by unfold i64ok;omega))<|sr 1 rfl<|sE ?_;clear H a;intro a H
   refine k13 _ _ ?_;clear k13 K13
   refine wp_ret ?_
   refine ret1 (fn:=Tryz.f178) rfl H rfl ?_
   exact ⟨congrArg (Value.int .i64) (by unfold tickI;simp only [Bool.false_eq_true,if_true,if_false];first|rw [if_pos (by omega)]|rw [if_neg (by omega)]),(S.sel [] G G)⟩
  try simp only [o1,o2,o3,o4,o5,o6,o7,o8,o9,oa] at hc4
  refine wp_skip ?_
  refine k11 _ _ ?_
  replace H:=H.keep [1,9,10,11] rfl
  refine seq_list fun K14 k14=>?_
  refine ls 4 H<|sr 4 rfl<|sE ?_;clear H a;intro a H
  refine aA H G G Tryz.func189 G G (mI _ _ _ _ _ (by omega) (by omega) (by omega)) ?_;clear H a
  rintro _ _ a ⟨rfl,S2⟩ H
  replace S:=S.call S2;clear S2
  refine ls 1 H<|sr 1 rfl<|sE ?_;clear H a;intro a H
  refine k14 _ _ ?_;clear k14 K14
  refine wp_ret ?_
  refine ret1 (fn:=Tryz.f178) rfl H rfl ?_
  exact ⟨congrArg (Value.int .i64) (by unfold tickI;simp only [Bool.false_eq_true,if_true,if_false];first|rw [if_pos (by omega)]|rw [if_neg (by omega)]),(S.sel [] G G)⟩
 skip
 exact absurd hc3 (by decide)
theorem lR (up:Bool) (empty pull drag motor:Int) (br:List Brake) (BA:Option Addr) (bcp:Nat) (sp slo shi sfail:Int) (mb:Nat) (v:Int) (t:Nat) (w:World) (F:Nat→Prop) (S:St w F [boxM mb 231 [.bool up,.int .i64 empty,.int .i64 pull,.int .i64 drag,.int .i64 motor,.slice BA br.length bcp,.int .i64 sp,.int .i64 slo,.int .i64 shi,.int .i64 sfail,.int .i64 (v),.int .i64 (t:Int)]] w) (hb:InS w F 2 BA br.length (bcell br)) (hesc:escOk (⟨up,empty,pull,drag,motor,br⟩:Esc)=true) (hstp:stpOk (⟨up,empty,pull,drag,motor,br⟩:Esc) (⟨sp,slo,shi,sfail⟩:Stp)=true) :
    Calls Tryz.prog 179 [.pointer (some ⟨mb,0,none⟩)].toArray w (Ret (fun u w'=>u = .int .i64 (gripI (⟨up,empty,pull,drag,motor,br⟩:Esc) (⟨sp,slo,shi,sfail⟩:Stp) t)∧St w F [boxM mb 231 [.bool up,.int .i64 empty,.int .i64 pull,.int .i64 drag,.int .i64 motor,.slice BA br.length bcp,.int .i64 sp,.int .i64 slo,.int .i64 shi,.int .i64 sfail,.int .i64 (v),.int .i64 (t:Int)]] w')):=by
 have hE:=cZ hesc
 dsimp only at hE
 obtain ⟨hE1,hE2,hE3,hE4,hE5⟩:=hE
 have hS1:=hstp;unfold stpOk at hS1;simp only [decide_eq_true_eq] at hS1
 refine enter Tryz.func179 rfl Tryz.ntmps179 rfl (fun a H=>?_)
 skip
 refine sS H fun K1 k1=>sr 1 rfl<|sE ?_;clear H a;intro a H
 refine k1 _ ?_;clear k1 K1
 refine wp_seq_k fun K2 k2=>?_
 refine sS H fun K3 k3=>sr 2 rfl<|sf xR rfl<|sf jW rfl<|sl S 0 lU G G G<|sL kM rfl<|sr 1 rfl<|sE ?_;clear H a;intro a H
 refine k3 _ ?_;clear k3 K3
 refine wp_block ?_
 refine loop_st (X:=Nat) (R0:=_) [0,9,10] H rfl (fun k=>[(2,.int .i64 (gY sfail t br k)),(11,.int .i64 (k:Int))]) (fun k=>[]) (fun g k=>k≤br.length∧g+k=br.length) (br.length) 0 ?_ (S.sel [0] G G) (H.keep [2,11,0,9,10] rfl) ?_
 · exact ⟨by omega,by omega⟩
 clear H S a
 intro g1 x1 a w1 hp S H K4 k4
 obtain ⟨k,rfl⟩:∃ y,y=x1:=⟨_,rfl⟩
 refine sS H fun K5 k5=>sr 1 rfl<|sE ?_;clear H a;intro a H
 refine k5 _ ?_;clear k5 K5
 refine wp_seq_k fun K6 k6=>?_
 refine condL H rfl (fun hc1=>?_) (fun hc1=>?_)
 ·skip
  refine wp_skip ?_
  refine k6 _ _ ?_
  refine wp_seq_k fun K7 k7=>?_
  refine wp_block ?_
  have hgb:=wP (fail:=sfail) (t:=t) (l:=br) (by unfold escOk at hesc;simp only [Bool.and_eq_true] at hesc;exact hesc.2) k (by omega)
  have hkb:=hE2 k (by omega);unfold gL at hkb;simp only [decide_eq_true_eq] at hkb
  refine seq_list fun K8 k8=>?_
  refine ls 3 H<|sr 1 rfl<|si kM lE G G (hb.adr (by omega)) (by omega)<|sd ((aV uZ lE rfl S hb (by omega) (by omega)))<|sE ?_;clear H a;intro a H
  refine aI H rfl S vJ ?_;clear H a S;intro b4 _ a hb4 hbw4 S H
  refine ls 1 H<|sr 1 rfl<|sE ?_;clear H a;intro a H
  refine aD H S (i:=0) G G G G lE G G ?_
  clear H a S;intro _ a S H
  refine k8 _ _ ?_;clear k8 K8
  replace H:=H.keep [0,2,3,4,9,10,11] rfl
  replace S:=S.drew
  refine sD H fun K9 k9=>sr 2 rfl<|sf gD rfl<|sf jU rfl<|sl S 1 aE G G G<|sr 1 rfl<|sd (fD G G (by omega) (by omega))<|sd (eL G G)<|sr 2 rfl<|sg 7 9 25 32 true G G (fun hg10=>sy hg10<|sf xM rfl<|sy hg10<|sl S 0 aE G G G<|sy hg10<|sr 1 rfl<|sy hg10<|sr 1 rfl<|sy hg10<|sf dR rfl<|sy hg10<|sl S 1 aE G G G<|sy hg10<|sr 1 rfl<|sz 7 G G G)<|sa G G G<|sE ?_;clear H a;intro a H
  refine k9 _ ?_;clear k9 K9
  refine cond_ H rfl (fun hc2=>?_) (fun hc2=>?_)
  ·skip
   try simp only [o1,o2,o3,o4,o5,o6,o7,o8,o9,oa] at hc2
   replace H:=H.keep [0,2,4,9,10,11] rfl
   refine sO H<|sr 1 rfl<|sf rC rfl<|sl S 0 aE G G G<|sd (aK G G (by unfold i64ok;omega))<|sr 1 rfl<|sE ?_;clear H a;intro a H
   refine k7 _ _ ?_
   refine sO H<|sd (aK G G (by unfold i64ok;omega))<|sr 1 rfl<|sE ?_;clear H a;intro a H
   try rw [Int.toNat_natCast] at hc2
   first|rw [sZ (fail:=sfail) (t:=(t:Int)) (l:=br) (k:=k) (by omega)] at H|rw [uN (fail:=sfail) (t:=(t:Int)) (l:=br) (k:=k) (by omega)] at H
   exact k4 (g1-1) (k+1) a _ (by omega) (by omega) (S.sel [1] G G) (H.keep [2,11,0,9,10] rfl)
  try simp only [o1,o2,o3,o4,o5,o6,o7,o8,o9,oa] at hc2
  refine wp_skip ?_
  refine k7 _ _ ?_
  refine sO H<|sd (aK G G (by unfold i64ok;omega))<|sr 1 rfl<|sE ?_;clear H a;intro a H
  try rw [Int.toNat_natCast] at hc2
  first|rw [sZ (fail:=sfail) (t:=(t:Int)) (l:=br) (k:=k) (by omega)] at H|rw [uN (fail:=sfail) (t:=(t:Int)) (l:=br) (k:=k) (by omega)] at H
  exact k4 (g1-1) (k+1) a _ (by omega) (by omega) (S.sel [1] G G) (H.keep [2,11,0,9,10] rfl)
 refine wp_exit ?_
 refine k2 _ _ ?_
 replace H:=H.keep [2] rfl
 refine sS H fun K13 k13=>sr 2 rfl<|sE ?_;clear H a;intro a H
 refine k13 _ ?_;clear k13 K13
 refine wp_ret ?_
 refine ret1 (fn:=Tryz.f179) rfl H rfl ?_
 have hk9:k=br.length:=by omega
 subst hk9
 exact ⟨rfl,(S.sel [0] G G)⟩
end
end Go.Proofs.YtinghmelkmblmaaGreat
