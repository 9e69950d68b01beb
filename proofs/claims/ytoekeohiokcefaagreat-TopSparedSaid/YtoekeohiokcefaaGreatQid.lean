/- Part 4 of the proof. -/
import Derived.Test.YtoekeohiokcefaaGreatQic
namespace Go.Proofs.YtoekeohiokcefaaGreat
open Go.RowKit
set_option linter.unusedVariables false
set_option linter.unusedSimpArgs false
set_option maxRecDepth 100000
set_option maxHeartbeats 4000000
section
theorem Pf {y:Yr} {out:Int} {w w':World} {u:Value} (hl:cH y.pl y.ps y.xs out y.pe y.limit=0) (h:(cH y.pl y.ps y.xs out y.pe y.limit≠0∧u = .tuple #[.int .i64 0,.int .i64 (cH y.pl y.ps y.xs out y.pe y.limit)]∧St w noF [] w')∨(cH y.pl y.ps y.xs out y.pe y.limit=0∧u = .tuple #[.int .i64 (mfv y.pl.toNat y.limit.toNat y.pe y.xs (hds out y.xs y.ps)),.int .i64 0]∧St w noF [] w')):∃ n:Int,u = .tuple #[.int .i64 n,.int .i64 0]∧leavB y out=decide (n=sumI y.pe y.pe.length)∧St w noF [] w':=by
  rcases h with ⟨h0,_⟩|⟨_,rfl,S⟩
  · exact absurd hl h0
  · exact ⟨_,rfl,rfl,S⟩
theorem Gj {y:Yr} {out fr to:Int} {help:Bool} {w w':World} {u:Value} (ha:askE y.pl y.ps y.xs out [fr,to]=0) (h:(askE y.pl y.ps y.xs out [fr,to]≠0∧u = .tuple #[.int .i64 0,.slice none 0 0,.int .i64 (askE y.pl y.ps y.xs out [fr,to])]∧St w noF [] w')∨(askE y.pl y.ps y.xs out [fr,to]=0∧FarOk y.pl.toNat y.ps out help to.toNat (dst y.pl.toNat y.ps out help to.toNat)∧((dst y.pl.toNat y.ps out help to.toNat fr.toNat<0∧u = .tuple #[.int .i64 0,.slice none 0 0,.int .i64 3]∧St w noF [] w')∨(0≤dst y.pl.toNat y.ps out help to.toNat fr.toNat∧∃ A c,u = .tuple #[.int .i64 (dst y.pl.toNat y.ps out help to.toNat fr.toNat),.slice A (wayL y.pl.toNat y.ps out help fr.toNat to.toNat).length c,.int .i64 0]∧St w noF [ownM 3 1 A (wayL y.pl.toNat y.ps out help fr.toNat to.toNat).length c (wcl (wayL y.pl.toNat y.ps out help fr.toNat to.toNat))] w')))):∃ (t e:Int) (A:Option Addr) (n c:Nat),u = .tuple #[.int .i64 t,.slice A n c,.int .i64 e]∧(decide (e=0)=decide (0≤dst y.pl.toNat y.ps out help to.toNat fr.toNat))∧St w noF [] w':=by
  rcases h with ⟨h0,_⟩|⟨_,_,⟨h1,rfl,S⟩|⟨h1,A,c,rfl,S⟩⟩
  · exact absurd ha h0
  · exact ⟨0,3,none,0,0,rfl,by rw [decide_eq_false (show ¬ 0≤dst y.pl.toNat y.ps out help to.toNat fr.toNat by omega)];rfl,S⟩
  · exact ⟨_,0,A,_,c,rfl,by rw [decide_eq_true h1];rfl,S.sel [] rfl rfl⟩
theorem lt40 {m:Int} (h:m≤4095):m<2^40:=by
  have e9:(2:Int)^40=1099511627776:=by decide
  omega
theorem Pg {y:Yr} {l:List Tsk} {k q:Nat}:setsQ y l k q q 0 = .int .i64 (outY y l q k):=by unfold setsQ;rw [if_neg (Nat.lt_irrefl q)]
theorem sets0 {y:Yr} {l:List Tsk} {k j:Nat} (hj:j<1):([Value.int .i64 0]:List Value).getD j undef=setsV y l 0 k j:=by
  have:j=0:=by omega
  subst this
  rfl
theorem To {m:Int} (h:0≤m∧m≤11):i64ok (1*2^m.toNat):=by
  have:=Ed (d:=m.toNat) (by omega)
  rw [Int.toNat_natCast] at this
  exact this
section
variable {y:Yr} {d out:Int} {k:Nat} {b:Bool} {e:Int}
theorem Jo (hb:b=allN (prmB y d out) k) (h:d<(y.prs.getD k Prm.zero).first∨(y.prs.getD k Prm.zero).last<d):b=allN (prmB y d out) (k+1):=by
  have:prmB y d out k=true:=by
    unfold prmB
    rcases h with h|h
    · rw [decide_eq_false (p:=(y.prs.getD k Prm.zero).first≤d) (by omega)];rfl
    · rw [decide_eq_false (p:=d≤(y.prs.getD k Prm.zero).last) (by omega),Bool.and_false];rfl
  rw [allN,this,Bool.and_true,hb]
theorem Cb (hb:b=allN (prmB y d out) k) (h:(y.prs.getD k Prm.zero).first≤d∧d≤(y.prs.getD k Prm.zero).last) (hw:decide (e=0)=decide (0≤dst y.pl.toNat y.ps out (y.help&&(y.prs.getD k Prm.zero).helped) (y.prs.getD k Prm.zero).to.toNat (y.prs.getD k Prm.zero).fr.toNat)) (he:¬ e=0):false=allN (prmB y d out) (k+1):=by
  have:prmB y d out k=false:=by
    unfold prmB
    rw [←hw,decide_eq_true h.1,decide_eq_true h.2,decide_eq_false he];rfl
  rw [allN,this,Bool.and_false]
theorem wQ (hb:b=allN (prmB y d out) k) (h:(y.prs.getD k Prm.zero).first≤d∧d≤(y.prs.getD k Prm.zero).last) (hw:decide (e=0)=decide (0≤dst y.pl.toNat y.ps out (y.help&&(y.prs.getD k Prm.zero).helped) (y.prs.getD k Prm.zero).to.toNat (y.prs.getD k Prm.zero).fr.toNat)) (he:e=0):b=allN (prmB y d out) (k+1):=by
  have:prmB y d out k=true:=by
    unfold prmB
    rw [←hw,decide_eq_true he,Bool.or_true]
  rw [allN,this,Bool.and_true,hb]
end
theorem Ph {y:Yr} (h:YOk y) {out:Int} (ho:0≤out∧out≤4095) {k:Nat} (hk:k<y.prs.length):askE y.pl y.ps y.xs out [(y.prs.getD k Prm.zero).fr,(y.prs.getD k Prm.zero).to]=0:=by
  have h1:=pF h.kept
  have h2:=mX.1 (h1.2.2 k hk)
  have h3:=(pE h1.1).1
  unfold askE
  rw [if_neg (by omega),if_pos]
  rw [decide_eq_true ho,uG.2 ⟨by omega,by omega⟩]
  rfl
theorem Gk (y:Yr) (cb bl bs bk:Nat) (l:List Tsk) (LA:Option Addr) (lc:Nat) (w:World) (F:Nat→Prop) (S:St w F [boxM cb 106 [.int .i64 y.days,.int .i64 y.pl,.slice y.PA y.ps.length y.pc,.slice y.XA y.xs.length y.xc,.slice y.BA y.pe.length y.bc,.int .i64 y.limit,.bool y.help,.slice y.QA y.prs.length y.qc,.slice y.VA y.us.length y.vc,.int .i64 y.crew,.slice y.SA y.sps.length y.sc,.map (some bl),.map (some bs),.map (some bk)],mapK (encN (n:=21)) bl (livP y),mapK (fun n:Int=>Value.int .i64 n) bs (safP y),mapK enc2 bk (kepP y)] w) (hy:YIn w F y) (hyb:YBd y) (hok:YOk y) (hl:InS w F 3 LA l.length (cM l)) (hln:l.length≤9223372036854775807) (htk:∀ k,k<l.length→tskI y (l.getD k Tsk.zero)) :
    Calls Tryz.prog 23 [.pointer (some ⟨cb,0,none⟩),.slice LA l.length lc].toArray w (Ret (fun v w'=>∃ A c,v = .slice A y.days.toNat c∧St w F (ownM 3 1 A y.days.toNat c (setsV y l y.us.length)::[boxM cb 106 [.int .i64 y.days,.int .i64 y.pl,.slice y.PA y.ps.length y.pc,.slice y.XA y.xs.length y.xc,.slice y.BA y.pe.length y.bc,.int .i64 y.limit,.bool y.help,.slice y.QA y.prs.length y.qc,.slice y.VA y.us.length y.vc,.int .i64 y.crew,.slice y.SA y.sps.length y.sc,.map (some bl),.map (some bs),.map (some bk)],mapK (encN (n:=21)) bl (livP y),mapK (fun n:Int=>Value.int .i64 n) bs (safP y),mapK enc2 bk (kepP y)]) w')):=by
 have hmx:maxLen=9223372036854775807:=rfl
 have hdy:=hok.days;have husn:=hyb.usn
 have hD:((y.days.toNat:Nat):Int)=y.days:=by omega
 refine enter Tryz.func23 rfl Tryz.ntmps23 rfl (fun a H=>?_)
 skip
 refine sS H fun K1 k1=>sr 1 rfl<|sE ?_;clear H a;intro a H
 refine k1 _ ?_;clear k1 K1
 refine seq_list fun K2 k2=>?_
 refine ls 5 H<|sr 2 rfl<|sf dK rfl<|sf dH rfl<|sl S 0 aD G G G<|sE ?_;clear H a;intro a H
 rw [←hD] at H
 refine iA (n:=y.days.toNat) H rfl S aT bA fO oY rfl (by decide) G G (by omega) (by omega) ?_;clear H a S;intro A1 _ a hA1 S H
 refine ls 1 H<|sr 1 rfl<|sE ?_;clear H a;intro a H
 refine k2 _ _ ?_;clear k2 K2
 refine wp_seq_k fun K3 k3=>?_
 replace H:=H.keep [0,1,5] rfl
 refine sS H fun K4 k4=>sr 2 rfl<|sf dK rfl<|sf cP rfl<|sl S 1 dT G G G<|sL eM rfl<|sr 1 rfl<|sE ?_;clear H a;intro a H
 refine k4 _ ?_;clear k4 K4
 refine wp_block ?_
 replace S:=S.recell (i:=0) rfl (cell':=setsV y l 0) (fun k9 j9 hk9 hj9=>sets0 hj9)
 refine loop_st (X:=Nat) (R0:=_) [0,1,5,20,21] H rfl (fun k=>[(22,.int .i64 (k:Int))]) (fun k=>[ownM 3 1 A1 y.days.toNat y.days.toNat (setsV y l k)]) (fun g k=>k≤y.us.length∧g+k=y.us.length) (y.us.length) 0 ?_ (S.sel [0,1,2,3,4] G G) (H.keep [22,0,1,5,20,21] rfl) ?_
 · exact ⟨by omega,by omega⟩
 clear H S a
 intro g1 x1 a w1 hp S H K5 k5
 obtain ⟨k,rfl⟩:∃ y,y=x1:=⟨_,rfl⟩
 refine sS H fun K6 k6=>sr 1 rfl<|sE ?_;clear H a;intro a H
 refine k6 _ ?_;clear k6 K6
 refine wp_seq_k fun K7 k7=>?_
 refine condL H rfl (fun hc1=>?_) (fun hc1=>?_)
 ·skip
  refine wp_skip ?_
  refine k7 _ _ ?_
  refine wp_seq_k fun K8 k8=>?_
  refine wp_block ?_
  refine seq_list fun K9 k9=>?_
  refine ls 3 H<|sr 1 rfl<|si eM gN G G (hy.us.adr (by omega)) (by omega)<|sd ((aW qG gN rfl S hy.us (by omega) (by omega)))<|sE ?_;clear H a;intro a H
  refine aI H rfl S Lv ?_;clear H a S;intro b7 _ a hb7 hbw7 S H
  refine ls 1 H<|sr 1 rfl<|sE ?_;clear H a;intro a H
  refine aF H S (i:=0) G G G G gN G G ?_
  clear H a S;intro _ a S H
  refine k9 _ _ ?_;clear k9 K9
  replace H:=H.keep [0,1,5,6,7,20,21,22] rfl
  refine seq_list fun K10 k10=>?_
  refine ls 3 H<|sr 3 rfl<|sE ?_;clear H a;intro a H
  refine aA H G G Tryz.func42 G G (Pd y cb bl bs bk k l LA lc _ _ ((S.sel [2,3,4,5] G G).startR) (hy.nowR (S.sel [2,3,4,5] G G)) hyb hok (by omega) (hl.nowR (S.sel [2,3,4,5] G G)) hln htk) ?_;clear H a
  rintro _ _ a ⟨rfl,S2⟩ H
  replace S:=St.callR (M:=[_,_,_,_]) (S.sel [2,3,4,5,0,1] G G) S2;clear S2
  refine aI H rfl S qI ?_;clear H a S;intro b8 _ a hb8 hbw8 S H
  refine aF H S (i:=0) G G G G gO G G ?_
  clear H a S;intro _ a S H
  refine k10 _ _ ?_;clear k10 K10
  refine sS H fun K11 k11=>sr 1 rfl<|sL aT rfl<|sr 1 rfl<|sE ?_;clear H a;intro a H
  refine k11 _ ?_;clear k11 K11
  refine wp_block ?_
  rw [←Ej] at S
  refine loop_st (X:=Nat) (R0:=_) [0,1,5,7,8,20,21,22,32] H rfl (fun q=>[(33,.int .i64 (q:Int))]) (fun q=>[ownM 3 1 A1 y.days.toNat y.days.toNat (setsQ y l k q)]) (fun g q=>q≤y.days.toNat∧g+q=y.days.toNat) (y.days.toNat) 0 ?_ (S.sel [6,0,1,2,3,4,5] G G) (H.keep [33,0,1,5,7,8,20,21,22,32] rfl) ?_
  · exact ⟨by omega,by omega⟩
  clear H S a
  intro g2 x2 a w2 hp S H K12 k12
  obtain ⟨q,rfl⟩:∃ y,y=x2:=⟨_,rfl⟩
  refine sS H fun K13 k13=>sr 1 rfl<|sE ?_;clear H a;intro a H
  refine k13 _ ?_;clear k13 K13
  refine wp_seq_k fun K14 k14=>?_
  refine condL H rfl (fun hc2=>?_) (fun hc2=>?_)
  ·skip
   refine wp_skip ?_
   refine k14 _ _ ?_
   refine wp_seq_k fun K15 k15=>?_
   refine wp_block ?_
   refine sS H fun K16 k16=>sr 2 rfl<|sE ?_;clear H a;intro a H
   refine k16 _ ?_;clear k16 K16
   have hmk:=jJ hok.V (hok.unit (show k<y.us.length by omega))
   refine sS H fun K17 k17=>sf tP rfl<|sl S 1 aD G G G<|sr 1 rfl<|sd (fQ G G (by omega) (by omega))<|sd (eY G G)<|sr 1 rfl<|sE ?_;clear H a;intro a H
   refine k17 _ ?_;clear k17 K17
   refine condE H rfl (fun hc3=>?_) (fun hc3=>?_)
   ·skip
    have hrn:=Za (y:=y) (l:=l) (k:=k) (show q<y.days.toNat by omega) hc3
    have hob:=sM (l:=l) (d:=q) hok (show k≤y.us.length by omega)
    replace H:=H.keep [0,1,5,7,8,9,20,21,22,32,33] rfl
    refine lN 9 (by kernel_rfl) (by kernel_rfl) ?_
    replace S:=S.drew
    refine sF H<|sr 2 rfl<|si aT bA G G (ownM.adr S (i:=0) rfl (by omega)) (by omega)<|sd ((aE aD rfl (ownM.rd S (i:=0) (k:=q) (j:=0) rfl (by omega) (by omega))).to Pg)<|sf iL rfl<|sl S 6 aD G G G<|sd (eJ G G (by omega) (by omega) (To hmk.1))<|sd (uY G G ⟨hob.1,lt40 hob.2⟩ (by omega) (Ei hok (by omega)))<|si aT bA G G (ownM.adr S (i:=0) rfl (by omega)) (by omega)<|sE ?_;clear H a;intro a H
    refine bN H S (i:=0) G G G (by omega) (by omega) bA rfl ?_
    clear H a S;intro _ a S H
    refine k15 _ _ ?_
    replace H:=H.keep [0,1,5,7,8,20,21,22,32,33] rfl
    refine sO H<|sd (aK G G (by unfold i64ok;omega))<|sr 1 rfl<|sE ?_;clear H a;intro a H
    replace S:=S.recell (i:=0) rfl (cell':=setsQ y l k (q+1)) (fun k9 j9 hk9 hj9=>Jh hrn rfl k9 j9 hj9)
    exact k12 (g2-1) (q+1) a _ (by omega) (⟨by omega,by omega⟩) (S.sel [0,1,2,3,4,5,6] G G) (H.keep [33,0,1,5,7,8,20,21,22,32] rfl)
   refine wp_skip ?_
   refine k15 _ _ ?_
   refine sO H<|sd (aK G G (by unfold i64ok;omega))<|sr 1 rfl<|sE ?_;clear H a;intro a H
   rw [Jg (Zb (show q<y.days.toNat by omega) hc3)] at S
   exact k12 (g2-1) (q+1) a _ (by omega) (⟨by omega,by omega⟩) (S.sel [0,1,2,3,4,5,6] G G) (H.keep [33,0,1,5,7,8,20,21,22,32] rfl)
  refine wp_exit ?_
  refine k8 _ _ ?_
  refine sO H<|sd (aK G G (by unfold i64ok;omega))<|sr 1 rfl<|sE ?_;clear H a;intro a H
  obtain rfl:q=y.days.toNat:=by omega
  replace S:=S.recell (i:=0) rfl (cell':=setsV y l (k+1)) Jf
  exact k5 (g1-1) (k+1) a _ (by omega) (⟨by omega,by omega⟩) (S.sel [0,2,3,4,5] G G) (H.keep [22,0,1,5,20,21] rfl)
 refine wp_exit ?_
 refine k3 _ _ ?_
 refine sS H fun K22 k22=>sr 2 rfl<|sE ?_;clear H a;intro a H
 refine k22 _ ?_;clear k22 K22
 refine wp_ret ?_
 refine ret1 (fn:=Tryz.f23) rfl H rfl ?_
 obtain rfl:k=y.us.length:=by omega
 exact ⟨_,_,rfl,(S.sel [0,1,2,3,4] G G)⟩
theorem Em (y:Yr) (cb bl bs bk:Nat) (out:Int) (w:World) (F:Nat→Prop) (S:St w F [boxM cb 106 [.int .i64 y.days,.int .i64 y.pl,.slice y.PA y.ps.length y.pc,.slice y.XA y.xs.length y.xc,.slice y.BA y.pe.length y.bc,.int .i64 y.limit,.bool y.help,.slice y.QA y.prs.length y.qc,.slice y.VA y.us.length y.vc,.int .i64 y.crew,.slice y.SA y.sps.length y.sc,.map (some bl),.map (some bs),.map (some bk)],mapK (encN (n:=21)) bl (livP y),mapK (fun n:Int=>Value.int .i64 n) bs (safP y),mapK enc2 bk (kepP y)] w) (hy:YIn w F y) (hyb:YBd y) (hok:YOk y) (ho:0≤out∧out≤4095) :
    Calls Tryz.prog 41 [.pointer (some ⟨cb,0,none⟩),.int .i64 out].toArray w (Ret (fun v w'=>v = .bool (leavB y out)∧St w F [boxM cb 106 [.int .i64 y.days,.int .i64 y.pl,.slice y.PA y.ps.length y.pc,.slice y.XA y.xs.length y.xc,.slice y.BA y.pe.length y.bc,.int .i64 y.limit,.bool y.help,.slice y.QA y.prs.length y.qc,.slice y.VA y.us.length y.vc,.int .i64 y.crew,.slice y.SA y.sps.length y.sc,.map (some bl),.map (some bs),.map (some bk)],mapK (encN (n:=21)) bl (livP y),mapK (fun n:Int=>Value.int .i64 n) bs (safP y),mapK enc2 bk (kepP y)] w')):=by
 have hmx:maxLen=9223372036854775807:=rfl
 have hdy:=hok.days;have husn:=hyb.usn
 have hD:((y.days.toNat:Nat):Int)=y.days:=by omega
 have hpel:y.pe.length≤1000∧∀ k,k<y.pe.length→0≤y.pe.getD k 0∧y.pe.getD k 0≤1000:=⟨by have h1:=hok.yr.2.1.1;have h2:=hok.V.size;omega,hok.yr.2.1.2⟩
 refine enter Tryz.func41 rfl Tryz.ntmps41 rfl (fun a H=>?_)
 skip
 refine sS H fun K1 k1=>sr 1 rfl<|sE ?_;clear H a;intro a H
 refine k1 _ ?_;clear k1 K1
 obtain ⟨h0,hh0,S⟩:=mapK.fix S (i:=2) rfl
 rcases hk0:h0 out with _|v0
 ·skip
  skip
  replace H:=H.keep [0,1] rfl
  refine sS H fun K2 k2=>sr 2 rfl<|sf tK rfl<|sl S 0 xO G G G<|sr 1 rfl<|sd (eL S (i:=2) rfl qM (fH rfl) Rm rfl (k:=out) rfl (fun h e=>by subst e;rw [hk0];exact ⟨rfl,rfl⟩))<|sr 5 rfl<|sE ?_;clear H a;intro a H
  refine k2 _ ?_;clear k2 K2
  refine wp_seq_k fun K3 k3=>?_
  replace H:=H.keep [0,1,5,6] rfl
  refine sS H fun K4 k4=>sr 2 rfl<|sE ?_;clear H a;intro a H
  refine k4 _ ?_;clear k4 K4
  refine cond_ H rfl (fun hc1=>?_) (fun hc1=>?_)
  ·skip
   skip
   refine sS H fun K5 k5=>sr 1 rfl<|sE ?_;clear H a;intro a H
   refine k5 _ ?_;clear k5 K5
   refine wp_seq_k fun K6 k6=>?_
   replace H:=H.keep [0,1,7] rfl
   refine sS H fun K7 k7=>sr 2 rfl<|sf dK rfl<|sf iK rfl<|sl S 0 bM G G G<|sL aT rfl<|sr 1 rfl<|sE ?_;clear H a;intro a H
   refine k7 _ ?_;clear k7 K7
   refine wp_block ?_
   refine loop_st (X:=Nat) (R0:=_) [0,1,27,28] H rfl (fun k=>[(7,.int .i64 (sumI y.pe k)),(29,.int .i64 (k:Int))]) (fun k=>[]) (fun g k=>k≤y.pe.length∧g+k=y.pe.length) (y.pe.length) 0 ?_ (S.sel [0,1,2,3] G G) (H.keep [7,29,0,1,27,28] rfl) ?_
   · exact ⟨by omega,by omega⟩
   clear H S a
   intro g1 x1 a w1 hp S H K8 k8
   obtain ⟨k,rfl⟩:∃ y,y=x1:=⟨_,rfl⟩
   refine sS H fun K9 k9=>sr 1 rfl<|sE ?_;clear H a;intro a H
   refine k9 _ ?_;clear k9 K9
   refine wp_seq_k fun K10 k10=>?_
   refine condL H rfl (fun hc2=>?_) (fun hc2=>?_)
   ·skip
    refine wp_skip ?_
    refine k10 _ _ ?_
    refine wp_seq_k fun K11 k11=>?_
    refine wp_block ?_
    refine sS H fun K12 k12=>si aT bA G G (hy.pe.adr (by omega)) (by omega)<|slm aD rfl (hy.pe.rd S (by omega) (by omega))<|sr 1 rfl<|sE ?_;clear H a;intro a H
    refine k12 _ ?_;clear k12 K12
    have hsb:=yW hpel.2 k (by omega);have hsk:=hpel.2 k (by omega)
    refine sO H<|sr 2 rfl<|sd (aK G G (by unfold i64ok;omega))<|sr 1 rfl<|sE ?_;clear H a;intro a H
    refine k11 _ _ ?_
    replace H:=H.keep [0,1,7,27,28,29] rfl
    refine sO H<|sd (aK G G (by unfold i64ok;omega))<|sr 1 rfl<|sE ?_;clear H a;intro a H
    exact k8 (g1-1) (k+1) a _ (by omega) (⟨by omega,by omega⟩) (S.sel [0,1,2,3] G G) (H.keep [7,29,0,1,27,28] rfl)
   refine wp_exit ?_
   refine k6 _ _ ?_
   replace H:=H.keep [0,1,7] rfl
   replace S:=S.drew
   refine seq_wq [(0,true),(1,true),(2,true),(3,true),(4,true),(5,true),(6,true),(7,true),(8,true),(9,true),(10,true),(11,true),(12,true),(13,true),(14,true),(15,true),(16,false),(17,true),(18,true),(19,true),(20,true),(21,true)] (by kernel_rfl) (by kernel_rfl) (S.sel [0,1,2,3] G G) fun K15 k15=>?_
   refine qF H<|qr 2 rfl<|qd rfl (fun _ S=>(aB dK rfl))<|qd rfl (fun _ S=>(aB eB rfl))<|qd rfl (fun _ S=>(aC cA cZ rfl S (i:=0) G G))<|qr 3 rfl<|qd rfl (fun _ S=>(aB dK rfl))<|qd rfl (fun _ S=>(aB iK rfl))<|qd rfl (fun _ S=>aE bM rfl (boxM.rd S (i:=0) G G))<|qr 2 rfl<|qd rfl (fun _ S=>(aB dK rfl))<|qd rfl (fun _ S=>(aB jZ rfl))<|qd rfl (fun _ S=>aE aD rfl (boxM.rd S (i:=0) G G))<|qK ?_;clear H a;intro a H
   refine aS rfl ?_
   have hcl9:=eD (Jl y.pl y.ps y.PA y.pc y.xs y.XA y.xc out y.pe y.BA y.bc y.limit _ (hy.ps.now S) hyb.psn (hy.xs.now S) hyb.xsn (hy.pe.now S) hyb.pen) (fun _ _ h=>Pf (hok.leave ho) h)
   refine aA H G G Tryz.func68 G G hcl9 ?_;clear H a hcl9
   rintro _ _ a ⟨n9,rfl,hlb,S2⟩ H
   replace S:=S.call S2;clear S2
   refine wpList_nil (And.intro (S.sel [0,1,2,3] G G) ?_)
   refine qF H<|qr 5 rfl<|qK ?_;clear H a;intro a H
   refine bF ?_
   refine k15 _ _ ?_
   clear k15 K15
   replace H:=H.keep [0,1,7,10] rfl
   refine sS H fun K16 k16=>sr 4 rfl<|sE ?_;clear H a;intro a H
   refine k16 _ ?_;clear k16 K16
   replace H:=H.keep [0,1,5] rfl
   refine one_list ?_
   refine ls 6 H<|sr 2 rfl<|sf tK rfl<|sl S 0 xO G G G<|sr 2 rfl<|sE ?_;clear H a;intro a H
   refine eV (k:=out) (safP y) H S (i:=2) rfl qM (fH rfl) G G G (fun h e=>by subst e;exact Oq (congrArg Value.bool (by rw [hlb,show k=y.pe.length by omega])) h hh0) ?_;clear H a S;intro _ a S H
   refine k3 _ _ ?_
   refine sS H fun K18 k18=>sr 2 rfl<|sE ?_;clear H a;intro a H
   refine k18 _ ?_;clear k18 K18
   refine wp_ret ?_
   refine ret1 (fn:=Tryz.f41) rfl H rfl ?_
   exact ⟨congrArg Value.bool (by rw [hlb,show k=y.pe.length by omega]),(S.sel [0,1,2,3] G G)⟩
  skip
  cases hc1
 obtain rfl:=hh0 _ _ ho hk0
 replace H:=H.keep [0,1] rfl
 refine sS H fun K19 k19=>sr 2 rfl<|sf tK rfl<|sl S 0 xO G G G<|sr 1 rfl<|sd (eL S (i:=2) rfl qM (fH rfl) Rm rfl (k:=out) rfl (fun h e=>by subst e;rw [hk0];exact ⟨rfl,rfl⟩))<|sr 5 rfl<|sE ?_;clear H a;intro a H
 refine k19 _ ?_;clear k19 K19
 refine wp_seq_k fun K20 k20=>?_
 replace H:=H.keep [0,1,5,6] rfl
 refine sS H fun K21 k21=>sr 2 rfl<|sE ?_;clear H a;intro a H
 refine k21 _ ?_;clear k21 K21
 refine cond_ H rfl (fun hc3=>?_) (fun hc3=>?_)
 ·skip
  skip
  cases hc3
 skip
 refine wp_skip ?_
 refine k20 _ _ ?_
 refine sS H fun K22 k22=>sr 2 rfl<|sE ?_;clear H a;intro a H
 refine k22 _ ?_;clear k22 K22
 refine wp_ret ?_
 refine ret1 (fn:=Tryz.f41) rfl H rfl ?_
 replace S:=mapK.weak S (i:=2) rfl (Φ':=safP y) (fun g e=>by subst e;exact hh0)
 exact ⟨rfl,(S.sel [0,1,2,3] G G)⟩
theorem Jp (y:Yr) (cb bl bs bk:Nat) (d out:Int) (w:World) (F:Nat→Prop) (S:St w F [boxM cb 106 [.int .i64 y.days,.int .i64 y.pl,.slice y.PA y.ps.length y.pc,.slice y.XA y.xs.length y.xc,.slice y.BA y.pe.length y.bc,.int .i64 y.limit,.bool y.help,.slice y.QA y.prs.length y.qc,.slice y.VA y.us.length y.vc,.int .i64 y.crew,.slice y.SA y.sps.length y.sc,.map (some bl),.map (some bs),.map (some bk)],mapK (encN (n:=21)) bl (livP y),mapK (fun n:Int=>Value.int .i64 n) bs (safP y),mapK enc2 bk (kepP y)] w) (hy:YIn w F y) (hyb:YBd y) (hok:YOk y) (ho:0≤out∧out≤4095) :
    Calls Tryz.prog 40 [.pointer (some ⟨cb,0,none⟩),.int .i64 d,.int .i64 out].toArray w (Ret (fun v w'=>v = .bool (keepB y d out)∧St w F [boxM cb 106 [.int .i64 y.days,.int .i64 y.pl,.slice y.PA y.ps.length y.pc,.slice y.XA y.xs.length y.xc,.slice y.BA y.pe.length y.bc,.int .i64 y.limit,.bool y.help,.slice y.QA y.prs.length y.qc,.slice y.VA y.us.length y.vc,.int .i64 y.crew,.slice y.SA y.sps.length y.sc,.map (some bl),.map (some bs),.map (some bk)],mapK (encN (n:=21)) bl (livP y),mapK (fun n:Int=>Value.int .i64 n) bs (safP y),mapK enc2 bk (kepP y)] w')):=by
 have hprn:=hyb.prn
 refine enter Tryz.func40 rfl Tryz.ntmps40 rfl (fun a H=>?_)
 skip
 refine sS H fun K1 k1=>sr 1 rfl<|sE ?_;clear H a;intro a H
 refine k1 _ ?_;clear k1 K1
 obtain ⟨h0,hh0,S⟩:=mapK.fix S (i:=3) rfl
 rcases hk0:h0 (d,out) with _|v0
 ·skip
  skip
  replace H:=H.keep [0,1,2] rfl
  refine sS H fun K2 k2=>sr 2 rfl<|sf tL rfl<|sl S 0 xP G G G<|sr 2 rfl<|sd (aN yA G G)<|sd (eL S (i:=3) rfl Dn (Ec Tryz.underlying101 Tryz.underlying3 aD bA) Rm rfl (k:=(d,out)) rfl (fun h e=>by subst e;rw [hk0];exact ⟨rfl,rfl⟩))<|sr 5 rfl<|sE ?_;clear H a;intro a H
  refine k2 _ ?_;clear k2 K2
  refine wp_seq_k fun K3 k3=>?_
  replace H:=H.keep [0,1,2,7,8] rfl
  refine sS H fun K4 k4=>sr 1 rfl<|sE ?_;clear H a;intro a H
  refine k4 _ ?_;clear k4 K4
  refine cond_ H rfl (fun hc1=>?_) (fun hc1=>?_)
  ·skip
   skip
   cases hc1
  skip
  refine wp_skip ?_
  refine k3 _ _ ?_
  refine sS H fun K5 k5=>sr 1 rfl<|sE ?_;clear H a;intro a H
  refine k5 _ ?_;clear k5 K5
  refine wp_seq_k fun K6 k6=>?_
  refine sS H fun K7 k7=>sr 2 rfl<|sf dK rfl<|sf rW rfl<|sl S 0 xM G G G<|sL lV rfl<|sr 1 rfl<|sE ?_;clear H a;intro a H
  refine k7 _ ?_;clear k7 K7
  refine wp_block ?_
  refine loop_st (X:=Nat×Bool) (R0:=_) [0,1,2,31,32] H rfl (fun ⟨k,b⟩=>[(7,.bool b),(33,.int .i64 (k:Int))]) (fun ⟨k,b⟩=>[]) (fun g ⟨k,b⟩=>k≤y.prs.length∧g+k=y.prs.length∧b=allN (prmB y d out) k) (y.prs.length) (0,true) ?_ (S.sel [0,1,2,3] G G) (H.keep [7,33,0,1,2,31,32] rfl) ?_
  · exact ⟨by omega,by omega,rfl⟩
  clear H S a
  intro g1 x1 a w1 hp S H K8 k8
  obtain ⟨k,b⟩:=x1
  dsimp only at hp S H
  refine sS H fun K9 k9=>sr 1 rfl<|sE ?_;clear H a;intro a H
  refine k9 _ ?_;clear k9 K9
  refine wp_seq_k fun K10 k10=>?_
  refine condL H rfl (fun hc2=>?_) (fun hc2=>?_)
  ·skip
   refine wp_skip ?_
   refine k10 _ _ ?_
   refine wp_seq_k fun K11 k11=>?_
   refine wp_block ?_
   refine seq_list fun K12 k12=>?_
   refine ls 2 H<|si lV iV G G (hy.prs.adr (by omega)) (by omega)<|sd ((aW rT iV rfl S hy.prs (by omega) (by omega)))<|sE ?_;clear H a;intro a H
   refine aI H rfl S xZ ?_;clear H a S;intro b10 _ a hb10 hbw10 S H
   refine aF H S (i:=0) G G G G iV G G ?_
   clear H a S;intro _ a S H
   refine k12 _ _ ?_;clear k12 K12
   refine wp_seq_k fun K13 k13=>?_
   replace H:=H.keep [0,1,2,7,10,31,32,33] rfl
   refine sS H fun K14 k14=>sr 1 rfl<|sf lY rfl<|sl S 0 aD G G G<|sf kP rfl<|sl S 0 aD G G G<|sc rfl Tryz.func38 G G (bO _ _ _ _)<|sr 1 rfl<|sE ?_;clear H a;intro a H
   refine k14 _ ?_;clear k14 K14
   refine cond_ H rfl (fun hc3=>?_) (fun hc3=>?_)
   ·skip
    try simp only [o1,o2,o3,o4,o5,o6,o7,o8,o9,oa] at hc3
    refine wp_exit ?_
    refine k11 _ _ ?_
    refine sO H<|sd (aK G G (by unfold i64ok;omega))<|sr 1 rfl<|sE ?_;clear H a;intro a H
    exact k8 (g1-1) (k+1,_) a _ (by omega) (⟨by omega,by omega,Jo hp.2.2 (by omega)⟩) (S.sel [1,2,3,4] G G) (H.keep [7,33,0,1,2,31,32] rfl)
   try simp only [o1,o2,o3,o4,o5,o6,o7,o8,o9,oa] at hc3
   refine wp_skip ?_
   refine k13 _ _ ?_
   rcases hhp:y.help with _|_
   ·skip
    skip
    replace H:=H.keep [0,1,2,7,10,31,32,33] rfl
    replace S:=S.drew
    refine seq_wq [(0,true),(1,true),(2,true),(3,true),(4,true),(5,true),(6,true),(7,true),(8,true),(9,true),(10,true),(11,true),(12,true),(13,true),(14,true),(15,true),(16,true),(17,true),(18,true),(19,false),(20,true),(21,true),(22,true),(23,true),(24,true),(25,true),(26,true)] (by kernel_rfl) (by kernel_rfl) (S.sel [0,1,2,3,4] G G) fun K16 k16=>?_
    refine qF H<|qr 2 rfl<|qd rfl (fun _ S=>(aB dK rfl))<|qd rfl (fun _ S=>(aB eB rfl))<|qd rfl (fun _ S=>(aC cA cZ rfl S (i:=1) G G))<|qr 3 rfl<|qd rfl (fun _ S=>(aB dK rfl))<|qd rfl (fun _ S=>(aB Fd rfl))<|qd rfl (fun _ S=>(aE iY rfl (boxM.rd S (i:=1) G G)).to (v' := .bool false) (congrArg Value.bool hhp))<|qr 1 rfl<|qK ?_;clear H a;intro a H
    refine aJ H G G G G G ?_;clear H a;intro a H
    refine aJ H G G G G G ?_;clear H a;intro a H
    refine qF H<|qd rfl (fun _ S=>(aR G G G))<|qd rfl (fun _ S=>(aB lW rfl))<|qd rfl (fun _ S=>aE aD rfl (boxM.rd S (i:=0) G G))<|qd rfl (fun _ S=>(aB lX rfl))<|qd rfl (fun _ S=>aE aD rfl (boxM.rd S (i:=0) G G))<|qK ?_;clear H a;intro a H
    refine aS rfl ?_
    have hcl9:=eD (Av y.pl y.ps y.PA y.pc y.xs y.XA y.xc out false (y.prs.getD k Prm.zero).fr (y.prs.getD k Prm.zero).to _ (hy.ps.now S) hyb.psn (hy.xs.now S) hyb.xsn) (fun _ _ h=>Gj (Ph hok ho (show k<y.prs.length by omega)) h)
    refine aA H G G Tryz.func67 G G hcl9 ?_;clear H a hcl9
    rintro _ _ a ⟨t9,e9,A9,n9,c9,rfl,hwb,S2⟩ H
    replace S:=S.call S2;clear S2
    refine wpList_nil (And.intro (S.sel [0,1,2,3,4] G G) ?_)
    refine qF H<|qr 7 rfl<|qK ?_;clear H a;intro a H
    refine bF ?_
    refine k16 _ _ ?_
    clear k16 K16
    replace H:=H.keep [0,1,2,7,13,31,32,33] rfl
    refine sS H fun K17 k17=>sr 2 rfl<|sE ?_;clear H a;intro a H
    refine k17 _ ?_;clear k17 K17
    refine condN H rfl (fun hc4=>?_) (fun hc4=>?_)
    ·skip
     refine sO H<|sr 1 rfl<|sE ?_;clear H a;intro a H
     refine k11 _ _ ?_
     refine sO H<|sd (aK G G (by unfold i64ok;omega))<|sr 1 rfl<|sE ?_;clear H a;intro a H
     exact k8 (g1-1) (k+1,_) a _ (by omega) (⟨by omega,by omega,Cb hp.2.2 (by omega) (by rw [hhp];exact hwb) (by omega)⟩) (S.sel [1,2,3,4] G G) (H.keep [7,33,0,1,2,31,32] rfl)
    refine wp_skip ?_
    refine k11 _ _ ?_
    refine sO H<|sd (aK G G (by unfold i64ok;omega))<|sr 1 rfl<|sE ?_;clear H a;intro a H
    exact k8 (g1-1) (k+1,_) a _ (by omega) (⟨by omega,by omega,wQ hp.2.2 (by omega) (by rw [hhp];exact hwb) (by omega)⟩) (S.sel [1,2,3,4] G G) (H.keep [7,33,0,1,2,31,32] rfl)
   skip
   replace H:=H.keep [0,1,2,7,10,31,32,33] rfl
   replace S:=S.drew
   refine seq_wq [(0,true),(1,true),(2,true),(3,true),(4,true),(5,true),(6,true),(7,true),(8,true),(9,true),(10,true),(11,true),(12,true),(13,true),(14,true),(15,true),(16,true),(17,true),(18,true),(19,false),(20,true),(21,true),(22,true),(23,true),(24,true),(25,true),(26,true)] (by kernel_rfl) (by kernel_rfl) (S.sel [0,1,2,3,4] G G) fun K21 k21=>?_
   refine qF H<|qr 2 rfl<|qd rfl (fun _ S=>(aB dK rfl))<|qd rfl (fun _ S=>(aB eB rfl))<|qd rfl (fun _ S=>(aC cA cZ rfl S (i:=1) G G))<|qr 3 rfl<|qd rfl (fun _ S=>(aB dK rfl))<|qd rfl (fun _ S=>(aB Fd rfl))<|qd rfl (fun _ S=>(aE iY rfl (boxM.rd S (i:=1) G G)).to (v' := .bool true) (congrArg Value.bool hhp))<|qr 1 rfl<|qK ?_;clear H a;intro a H
   refine aG H G G G G (fun _ S=>(aB Ac rfl)) ?_;clear H a;intro a H
   refine aG H G G G G (fun _ S=>aE iY rfl (boxM.rd S (i:=0) G G)) ?_;clear H a;intro a H
   refine qF H<|qd rfl (fun _ S=>(fD G G G))<|qd rfl (fun _ S=>(aB lW rfl))<|qd rfl (fun _ S=>aE aD rfl (boxM.rd S (i:=0) G G))<|qd rfl (fun _ S=>(aB lX rfl))<|qd rfl (fun _ S=>aE aD rfl (boxM.rd S (i:=0) G G))<|qK ?_;clear H a;intro a H
   refine aS rfl ?_
   have hcl9:=eD (Av y.pl y.ps y.PA y.pc y.xs y.XA y.xc out (y.prs.getD k Prm.zero).helped (y.prs.getD k Prm.zero).fr (y.prs.getD k Prm.zero).to _ (hy.ps.now S) hyb.psn (hy.xs.now S) hyb.xsn) (fun _ _ h=>Gj (Ph hok ho (show k<y.prs.length by omega)) h)
   refine aA H G G Tryz.func67 G G hcl9 ?_;clear H a hcl9
   rintro _ _ a ⟨t9,e9,A9,n9,c9,rfl,hwb,S2⟩ H
   replace S:=S.call S2;clear S2
   refine wpList_nil (And.intro (S.sel [0,1,2,3,4] G G) ?_)
   refine qF H<|qr 7 rfl<|qK ?_;clear H a;intro a H
   refine bF ?_
   refine k21 _ _ ?_
   clear k21 K21
   replace H:=H.keep [0,1,2,7,13,31,32,33] rfl
   refine sS H fun K22 k22=>sr 2 rfl<|sE ?_;clear H a;intro a H
   refine k22 _ ?_;clear k22 K22
   refine condN H rfl (fun hc5=>?_) (fun hc5=>?_)
   ·skip
    refine sO H<|sr 1 rfl<|sE ?_;clear H a;intro a H
    refine k11 _ _ ?_
    refine sO H<|sd (aK G G (by unfold i64ok;omega))<|sr 1 rfl<|sE ?_;clear H a;intro a H
    exact k8 (g1-1) (k+1,_) a _ (by omega) (⟨by omega,by omega,Cb hp.2.2 (by omega) (by rw [hhp];exact hwb) (by omega)⟩) (S.sel [1,2,3,4] G G) (H.keep [7,33,0,1,2,31,32] rfl)
   refine wp_skip ?_
   refine k11 _ _ ?_
   refine sO H<|sd (aK G G (by unfold i64ok;omega))<|sr 1 rfl<|sE ?_;clear H a;intro a H
   exact k8 (g1-1) (k+1,_) a _ (by omega) (⟨by omega,by omega,wQ hp.2.2 (by omega) (by rw [hhp];exact hwb) (by omega)⟩) (S.sel [1,2,3,4] G G) (H.keep [7,33,0,1,2,31,32] rfl)
  refine wp_exit ?_
  refine k6 _ _ ?_
  have hb9:b=keepB y d out:=by rw [hp.2.2,show k=y.prs.length by omega];rfl
  subst hb9
  replace H:=H.keep [0,1,2,7] rfl
  refine seq_list fun K26 k26=>?_
  refine ls 8 H<|sr 2 rfl<|sf tL rfl<|sl S 0 xP G G G<|sr 2 rfl<|sd (aN yA G G)<|sr 1 rfl<|sE ?_;clear H a;intro a H
  refine eV (k:=(d,out)) (kepP y) H S (i:=3) rfl Dn (Ec Tryz.underlying101 Tryz.underlying3 aD bA) G G G (fun h e=>by subst e;exact Ot rfl h hh0) ?_;clear H a S;intro _ a S H
  refine k26 _ _ ?_;clear k26 K26
  replace H:=H.keep [7] rfl
  refine sS H fun K27 k27=>sr 2 rfl<|sE ?_;clear H a;intro a H
  refine k27 _ ?_;clear k27 K27
  refine wp_ret ?_
  refine ret1 (fn:=Tryz.f40) rfl H rfl ?_
  exact ⟨rfl,(S.sel [0,1,2,3] G G)⟩
 obtain rfl:=hh0 _ _ _ ho hk0
 replace H:=H.keep [0,1,2] rfl
 refine sS H fun K28 k28=>sr 2 rfl<|sf tL rfl<|sl S 0 xP G G G<|sr 2 rfl<|sd (aN yA G G)<|sd (eL S (i:=3) rfl Dn (Ec Tryz.underlying101 Tryz.underlying3 aD bA) Rm rfl (k:=(d,out)) rfl (fun h e=>by subst e;rw [hk0];exact ⟨rfl,rfl⟩))<|sr 5 rfl<|sE ?_;clear H a;intro a H
 refine k28 _ ?_;clear k28 K28
 refine wp_seq_k fun K29 k29=>?_
 replace H:=H.keep [0,1,2,7,8] rfl
 refine sS H fun K30 k30=>sr 1 rfl<|sE ?_;clear H a;intro a H
 refine k30 _ ?_;clear k30 K30
 refine cond_ H rfl (fun hc6=>?_) (fun hc6=>?_)
 ·skip
  skip
  refine sS H fun K31 k31=>sr 2 rfl<|sE ?_;clear H a;intro a H
  refine k31 _ ?_;clear k31 K31
  refine wp_ret ?_
  refine ret1 (fn:=Tryz.f40) rfl H rfl ?_
  replace S:=mapK.weak S (i:=3) rfl (Φ':=kepP y) (fun g e=>by subst e;exact hh0)
  exact ⟨rfl,(S.sel [0,1,2,3] G G)⟩
 skip
 cases hc6
end
section
theorem Tp {y:Yr} (hok:YOk y) {i:Nat} (hi:i<y.us.length):0≤(y.us.getD i Unt.zero).kind∧(y.us.getD i Unt.zero).kind≤3:=by
  have h:=(hok.unit hi).i
  unfold untI at h
  exact h.2.2.1
theorem stk0 {y:Yr} {l:List Tsk} {k j:Nat} (hk:k<4) (hj:j<1):([Value.int .i64 0,Value.int .i64 0,Value.int .i64 0,Value.int .i64 0]:List Value).getD k undef=stkC y l 0 0 0 k j:=by
  have e:stkC y l 0 0 0 k j = .int .i64 0:=rfl
  rw [e]
  match k,hk with
  | 0,_=>rfl
  | 1,_=>rfl
  | 2,_=>rfl
  | 3,_=>rfl
theorem Jq (y:Yr) (cb bl bs bk:Nat) (l:List Tsk) (LA:Option Addr) (lc:Nat) (w:World) (F:Nat→Prop) (S:St w F [boxM cb 106 [.int .i64 y.days,.int .i64 y.pl,.slice y.PA y.ps.length y.pc,.slice y.XA y.xs.length y.xc,.slice y.BA y.pe.length y.bc,.int .i64 y.limit,.bool y.help,.slice y.QA y.prs.length y.qc,.slice y.VA y.us.length y.vc,.int .i64 y.crew,.slice y.SA y.sps.length y.sc,.map (some bl),.map (some bs),.map (some bk)],mapK (encN (n:=21)) bl (livP y),mapK (fun n:Int=>Value.int .i64 n) bs (safP y),mapK enc2 bk (kepP y)] w) (hy:YIn w F y) (hyb:YBd y) (hok:YOk y) (hl:InS w F 3 LA l.length (cM l)) (hln:l.length≤9223372036854775807) (htk:∀ k,k<l.length→tskI y (l.getD k Tsk.zero)) (hl60:l.length≤60) :
    Calls Tryz.prog 22 [.pointer (some ⟨cb,0,none⟩),.slice LA l.length lc].toArray w (Ret (fun v w'=>v = .tuple #[.int .i64 (gF y l).1,.int .i64 (gF y l).2]∧St w F [boxM cb 106 [.int .i64 y.days,.int .i64 y.pl,.slice y.PA y.ps.length y.pc,.slice y.XA y.xs.length y.xc,.slice y.BA y.pe.length y.bc,.int .i64 y.limit,.bool y.help,.slice y.QA y.prs.length y.qc,.slice y.VA y.us.length y.vc,.int .i64 y.crew,.slice y.SA y.sps.length y.sc,.map (some bl),.map (some bs),.map (some bk)],mapK (encN (n:=21)) bl (livP y),mapK (fun n:Int=>Value.int .i64 n) bs (safP y),mapK enc2 bk (kepP y)] w')):=by
 have hmx:maxLen=9223372036854775807:=rfl
 have hdy:=hok.days;have husn:=hyb.usn;have hspn:=hyb.spn
 have hD:((y.days.toNat:Nat):Int)=y.days:=by omega
 refine enter Tryz.func22 rfl Tryz.ntmps22 rfl (fun a H=>?_)
 skip
 refine sS H fun K1 k1=>sr 2 rfl<|sE ?_;clear H a;intro a H
 refine k1 _ ?_;clear k1 K1
 refine seq_list fun K2 k2=>?_
 refine ls 2 H<|sr 2 rfl<|sE ?_;clear H a;intro a H
 refine aA H G G Tryz.func23 G G (Gk y cb bl bs bk l LA lc _ _ ((S.sel [0,1,2,3] G G).startR) (hy.nowR (S.sel [0,1,2,3] G G)) hyb hok (hl.nowR (S.sel [0,1,2,3] G G)) hln htk) ?_;clear H a
 rintro _ _ a ⟨A6,c6,rfl,S2⟩ H
 replace S:=St.callR (M:=[_,_,_,_]) (S.sel [0,1,2,3] G G) S2;clear S2
 refine ls 1 H<|sr 1 rfl<|sE ?_;clear H a;intro a H
 refine k2 _ _ ?_;clear k2 K2
 refine seq_list fun K3 k3=>?_
 refine aI H rfl S Vt ?_;clear H a S;intro b7 _ a hb7 hbw7 S H
 refine k3 _ _ ?_;clear k3 K3
 refine wp_seq_k fun K4 k4=>?_
 replace S:=Br S (i:=0) rfl (by show 4≤maxLen;decide)
 replace S:=S.recell (i:=0) rfl (cell':=stkC y l 0 0 0) (fun k9 j9 hk9 hj9=>stk0 hk9 hj9)
 replace H:=H.keep [0,1,6,7] rfl
 refine sS H fun K5 k5=>sr 2 rfl<|sf dK rfl<|sf dH rfl<|sl S 2 aD G G G<|sr 1 rfl<|sE ?_;clear H a;intro a H
 refine k5 _ ?_;clear k5 K5
 refine wp_block ?_
 refine loop_st (X:=Nat) (R0:=_) [0,1,6,7,23] H rfl (fun d=>[(24,.int .i64 (d:Int))]) (fun d=>[ownM 107 1 (some ⟨b7,0,none⟩) 4 4 (stkC y l d 0 0)]) (fun g d=>(d≤y.days.toNat∧g+d=y.days.toNat)∧∀ q,q<d→cR y l q=0) (y.days.toNat) 0 ?_ (S.sel [0,1,2,3,4,5] G G) (H.keep [24,0,1,6,7,23] rfl) ?_
 · exact ⟨⟨by omega,by omega⟩,fun q hq=>absurd hq (Nat.not_lt_zero q)⟩
 clear H S a
 intro g1 x1 a w1 hp S H K6 k6
 obtain ⟨d,rfl⟩:∃ y,y=x1:=⟨_,rfl⟩
 obtain ⟨⟨hdl,hgd⟩,hfl⟩:=hp
 refine sS H fun K7 k7=>sr 1 rfl<|sE ?_;clear H a;intro a H
 refine k7 _ ?_;clear k7 K7
 refine wp_seq_k fun K8 k8=>?_
 refine condL H rfl (fun hc1=>?_) (fun hc1=>?_)
 ·skip
  refine wp_skip ?_
  refine k8 _ _ ?_
  refine wp_seq_k fun K9 k9=>?_
  refine wp_block ?_
  refine sS H fun K10 k10=>sr 2 rfl<|sE ?_;clear H a;intro a H
  refine k10 _ ?_;clear k10 K10
  refine wp_seq_k fun K11 k11=>?_
  replace H:=H.keep [0,1,6,7,8,23,24] rfl
  refine sS H fun K12 k12=>sr 2 rfl<|sf dK rfl<|sf lC rfl<|sl S 2 nQ G G G<|sL oO rfl<|sr 1 rfl<|sE ?_;clear H a;intro a H
  refine k12 _ ?_;clear k12 K12
  refine wp_block ?_
  refine loop_st (X:=Nat) (R0:=_) [0,1,6,7,8,23,24,31,32] H rfl (fun n=>[(33,.int .i64 (n:Int))]) (fun n=>[ownM 107 1 (some ⟨b7,0,none⟩) 4 4 (stkC y l d n 0)]) (fun g n=>n≤y.sps.length∧g+n=y.sps.length) (y.sps.length) 0 ?_ (S.sel [0,1,2,3,4,5] G G) (H.keep [33,0,1,6,7,8,23,24,31,32] rfl) ?_
  · exact ⟨by omega,by omega⟩
  clear H S a
  intro g2 x2 a w2 hp S H K13 k13
  obtain ⟨n,rfl⟩:∃ y,y=x2:=⟨_,rfl⟩
  refine sS H fun K14 k14=>sr 1 rfl<|sE ?_;clear H a;intro a H
  refine k14 _ ?_;clear k14 K14
  refine wp_seq_k fun K15 k15=>?_
  refine condL H rfl (fun hc2=>?_) (fun hc2=>?_)
  ·skip
   refine wp_skip ?_
   refine k15 _ _ ?_
   refine wp_seq_k fun K16 k16=>?_
   refine wp_block ?_
   refine seq_list fun K17 k17=>?_
   refine ls 2 H<|si oO kZ G G (hy.sps.adr (by omega)) (by omega)<|sd ((aW xQ kZ rfl S hy.sps (by omega) (by omega)))<|sE ?_;clear H a;intro a H
   refine aI H rfl S Dj ?_;clear H a S;intro b10 _ a hb10 hbw10 S H
   refine aF H S (i:=0) G G G G kZ G G ?_
   clear H a S;intro _ a S H
   refine k17 _ _ ?_;clear k17 K17
   have hsq:=mH.1 (hok.yr.2.2.2.2.2 n (by omega))
   refine sS H fun K18 k18=>sf tM rfl<|sl S 0 aD G G G<|sr 2 rfl<|sE ?_;clear H a;intro a H
   refine k18 _ ?_;clear k18 K18
   refine condE H rfl (fun hc3=>?_) (fun hc3=>?_)
   ·skip
    have hb0:=yR (d:=d) (k:=(y.sps.getD n Spr.zero).kind.toNat) hok n (by omega)
    have hb1:=yR (d:=d) (k:=(y.sps.getD n Spr.zero).kind.toNat) hok y.sps.length (Nat.le_refl _)
    have hb2:=El (y:=y) (l:=l) (d:=d) (k:=(y.sps.getD n Spr.zero).kind.toNat) 0
    have hb3:=Ox (l:=l) (k:=(y.sps.getD n Spr.zero).kind.toNat) hok (by omega) d
    have hb4:=hok.yr.2.2.2.2.1
    replace H:=H.keep [0,1,6,7,8,10,23,24,31,32,33] rfl
    refine lN 8 (by kernel_rfl) (by kernel_rfl) ?_
    replace S:=S.drew
    refine sF H<|sf tN rfl<|sl S 0 aD G G G<|sd (cS Tryz.underlying107 bA G G (by omega) (by omega))<|slm aD rfl (ownM.rd S (i:=1) (k:=(y.sps.getD n Spr.zero).kind.toNat) (j:=0) rfl (by omega) (by omega))<|sf tO rfl<|sl S 0 aD G G G<|sd (aK G G (by unfold i64ok;omega))<|sd (cS Tryz.underlying107 bA G G (by omega) (by omega))<|sE ?_;clear H a;intro a H
    refine bN H S (i:=1) (kk:=(y.sps.getD n Spr.zero).kind.toNat) (j:=0) G G G (by omega) (by omega) bA rfl ?_
    clear H a S;intro _ a S H
    refine k16 _ _ ?_
    replace H:=H.keep [0,1,6,7,8,23,24,31,32,33] rfl
    refine sO H<|sd (aK G G (by unfold i64ok;omega))<|sr 1 rfl<|sE ?_;clear H a;intro a H
    replace S:=S.recell (i:=1) rfl (cell':=stkC y l d (n+1) 0) (fun k9 j9 hk9 hj9=>Td (q:=(y.sps.getD n Spr.zero).kind.toNat) hc3 (by omega) rfl k9 j9 hj9)
    exact k13 (g2-1) (n+1) a _ (by omega) (⟨by omega,by omega⟩) (S.sel [1,2,3,4,5,6] G G) (H.keep [33,0,1,6,7,8,23,24,31,32] rfl)
   refine wp_skip ?_
   refine k16 _ _ ?_
   refine sO H<|sd (aK G G (by unfold i64ok;omega))<|sr 1 rfl<|sE ?_;clear H a;intro a H
   rw [Te hc3] at S
   exact k13 (g2-1) (n+1) a _ (by omega) (⟨by omega,by omega⟩) (S.sel [1,2,3,4,5,6] G G) (H.keep [33,0,1,6,7,8,23,24,31,32] rfl)
  refine wp_exit ?_
  refine k11 _ _ ?_
  refine sS H fun K22 k22=>sr 2 rfl<|sE ?_;clear H a;intro a H
  refine k22 _ ?_;clear k22 K22
  refine wp_seq_k fun K23 k23=>?_
  refine sS H fun K24 k24=>sr 1 rfl<|sL dE rfl<|sr 1 rfl<|sE ?_;clear H a;intro a H
  refine k24 _ ?_;clear k24 K24
  refine wp_block ?_
  obtain rfl:n=y.sps.length:=by omega
  refine loop_st (X:=Nat×Int×Bool) (R0:=_) [0,1,6,7,8,23,24,50,51] H rfl (fun ⟨q,jb,sh⟩=>[(11,.int .i64 jb),(12,.bool sh),(52,.int .i64 (q:Int))]) (fun ⟨q,jb,sh⟩=>[ownM 107 1 (some ⟨b7,0,none⟩) 4 4 (stkC y l d y.sps.length q)]) (fun g ⟨q,jb,sh⟩=>(q≤l.length∧g+q=l.length)∧jb=jbS l d q∧sh=shS y l d q) (l.length) (0,0,false) ?_ (S.sel [0,1,2,3,4,5] G G) (H.keep [11,12,52,0,1,6,7,8,23,24,50,51] rfl) ?_
  · exact ⟨⟨by omega,by omega⟩,rfl,rfl⟩
  clear H S a
  intro g3 x3 a w3 hp S H K25 k25
  obtain ⟨q,jb,sh⟩:=x3
  dsimp only at hp S H
  obtain ⟨⟨hql,hgq⟩,hjb9,hsh9⟩:=hp
  refine sS H fun K26 k26=>sr 1 rfl<|sE ?_;clear H a;intro a H
  refine k26 _ ?_;clear k26 K26
  refine wp_seq_k fun K27 k27=>?_
  refine condL H rfl (fun hc4=>?_) (fun hc4=>?_)
  ·skip
   refine wp_skip ?_
   refine k27 _ _ ?_
   refine wp_seq_k fun K28 k28=>?_
   refine wp_block ?_
   refine seq_list fun K29 k29=>?_
   refine ls 2 H<|si dE cT G G (hl.adr (by omega)) (by omega)<|sd ((aW lU cT rfl S hl (by omega) (by omega)))<|sE ?_;clear H a;intro a H
   refine aI H rfl S rD ?_;clear H a S;intro b14 _ a hb14 hbw14 S H
   refine aF H S (i:=0) G G G G cT G G ?_
   clear H a S;intro _ a S H
   refine k29 _ _ ?_;clear k29 K29
   refine wp_seq_k fun K30 k30=>?_
   have htt:=htk q (by omega);unfold tskI at htt
   refine sS H fun K31 k31=>sf cQ rfl<|sl S 0 aD G G G<|sr 2 rfl<|sE ?_;clear H a;intro a H
   refine k31 _ ?_;clear k31 K31
   refine condN H rfl (fun hc5=>?_) (fun hc5=>?_)
   ·skip
    refine wp_exit ?_
    refine k28 _ _ ?_
    replace H:=H.keep [0,1,6,7,8,11,12,23,24,50,51,52] rfl
    refine sO H<|sd (aK G G (by unfold i64ok;omega))<|sr 1 rfl<|sE ?_;clear H a;intro a H
    rw [Bv (fun h=>hc5 h.1)] at S
    exact k25 (g3-1) (q+1,_,_) a _ (by omega) (⟨⟨by omega,by omega⟩,Zc hjb9 hc5,Vj hsh9 (fun h=>hc5 h.1)⟩) (S.sel [1,2,3,4,5,6] G G) (H.keep [11,12,52,0,1,6,7,8,23,24,50,51] rfl)
   refine wp_skip ?_
   refine k30 _ _ ?_
   have hjb:=Wp (l:=l) (d:=d) q
   rw [←hjb9] at hjb
   refine sS H fun K33 k33=>sr 1 rfl<|sd (aK G G (by unfold i64ok;omega))<|sr 1 rfl<|sE ?_;clear H a;intro a H
   refine k33 _ ?_;clear k33 K33
   refine sS H fun K34 k34=>sf fV rfl<|sl S 0 aD G G G<|sr 1 rfl<|sE ?_;clear H a;intro a H
   refine k34 _ ?_;clear k34 K34
   refine condE H rfl (fun hc6=>?_) (fun hc6=>?_)
   ·skip
    have hkk:=Tp hok (show (l.getD q Tsk.zero).unit.toNat<y.us.length by omega)
    replace H:=H.keep [0,1,6,7,8,11,12,14,23,24,50,51,52] rfl
    replace S:=S.drew
    refine sD H fun K35 k35=>sr 2 rfl<|sf dK rfl<|sf cP rfl<|sl S 3 dT G G G<|sf dN rfl<|sl S 0 aD G G G<|sI eM gN G G (hy.us.adr (by omega)) (by omega) (by omega)<|sp xW rfl<|slm aD rfl (hy.us.rd S (by omega) (by omega))<|sr 1 rfl<|sE ?_;clear H a;intro a H
    refine k35 _ ?_;clear k35 K35
    have hb1:=yR (d:=d) (k:=(y.us.getD (l.getD q Tsk.zero).unit.toNat Unt.zero).kind.toNat) hok y.sps.length (Nat.le_refl _)
    have hb2:=El (y:=y) (l:=l) (d:=d) (k:=(y.us.getD (l.getD q Tsk.zero).unit.toNat Unt.zero).kind.toNat) q
    have hb3:=Ox (l:=l) (k:=(y.us.getD (l.getD q Tsk.zero).unit.toNat Unt.zero).kind.toNat) hok (by omega) d
    have hb4:=hok.yr.2.2.2.2.1
    replace H:=H.keep [0,1,6,7,8,11,12,15,23,24,50,51,52] rfl
    refine seq_list fun K36 k36=>?_
    refine ls 5 H<|sr 1 rfl<|sd (cS Tryz.underlying107 bA G G (by omega) (by omega))<|slm aD rfl (ownM.rd S (i:=1) (k:=(y.us.getD (l.getD q Tsk.zero).unit.toNat Unt.zero).kind.toNat) (j:=0) rfl (by omega) (by omega))<|sd (aU G G (by unfold i64ok;omega))<|sd (cS Tryz.underlying107 bA G G (by omega) (by omega))<|sE ?_;clear H a;intro a H
    refine bN H S (i:=1) (kk:=(y.us.getD (l.getD q Tsk.zero).unit.toNat Unt.zero).kind.toNat) (j:=0) G G G (by omega) (by omega) bA rfl ?_
    clear H a S;intro _ a S H
    refine k36 _ _ ?_;clear k36 K36
    replace S:=S.recell (i:=1) rfl (cell':=stkC y l d y.sps.length (q+1)) (fun k9 j9 hk9 hj9=>Tf (q:=(y.us.getD (l.getD q Tsk.zero).unit.toNat Unt.zero).kind.toNat) ⟨by omega,hc6⟩ (show tkK y l q=_ by unfold tkK;omega) rfl k9 j9 hj9)
    replace H:=H.keep [0,1,6,7,8,11,12,15,23,24,50,51,52] rfl
    refine sO H<|sr 2 rfl<|sg 4 1 81 85 false G G (fun hg2=>sy hg2<|sr 1 rfl<|sy hg2<|sd (cS Tryz.underlying107 bA G G (by omega) (by omega))<|sy hg2<|slm aD rfl (ownM.rd S (i:=1) (k:=(y.us.getD (l.getD q Tsk.zero).unit.toNat Unt.zero).kind.toNat) (j:=0) rfl (by omega) (by omega))<|sy hg2<|sr 1 rfl<|sz 4 G G G)<|so G G G<|sr 1 rfl<|sE ?_;clear H a;intro a H
    refine k28 _ _ ?_
    replace H:=H.keep [0,1,6,7,8,11,12,23,24,50,51,52] rfl
    refine sO H<|sd (aK G G (by unfold i64ok;omega))<|sr 1 rfl<|sE ?_;clear H a;intro a H
    exact k25 (g3-1) (q+1,_,_) a _ (by omega) (⟨⟨by omega,by omega⟩,Oy hjb9 (by omega),Wq (q:=(y.us.getD (l.getD q Tsk.zero).unit.toNat Unt.zero).kind.toNat) hsh9 ⟨by omega,hc6⟩ (show tkK y l q=_ by unfold tkK;omega) rfl⟩) (S.sel [1,2,3,4,5,6] G G) (H.keep [11,12,52,0,1,6,7,8,23,24,50,51] rfl)
   skip
   refine wp_skip ?_
   refine k28 _ _ ?_
   refine sO H<|sd (aK G G (by unfold i64ok;omega))<|sr 1 rfl<|sE ?_;clear H a;intro a H
   rw [Bv (fun h=>hc6 h.2)] at S
   exact k25 (g3-1) (q+1,_,_) a _ (by omega) (⟨⟨by omega,by omega⟩,Oy hjb9 (by omega),Vj hsh9 (fun h=>hc6 h.2)⟩) (S.sel [1,2,3,4,5,6] G G) (H.keep [11,12,52,0,1,6,7,8,23,24,50,51] rfl)
  refine wp_exit ?_
  refine k23 _ _ ?_
  refine wp_block ?_
  obtain rfl:q=l.length:=by omega
  subst hjb9
  subst hsh9
  replace H:=H.keep [0,1,6,7,8,11,12,23,24] rfl
  refine sS H fun K40 k40=>sr 3 rfl<|sf dK rfl<|sf xT rfl<|sl S 2 aD G G G<|sr 2 rfl<|sE ?_;clear H a;intro a H
  refine k40 _ ?_;clear k40 K40
  refine condL H rfl (fun hc7=>?_) (fun hc7=>?_)
  ·skip
   replace H:=H.keep [8] rfl
   refine sS H fun K41 k41=>sr 3 rfl<|sE ?_;clear H a;intro a H
   refine k41 _ ?_;clear k41 K41
   refine wp_ret ?_
   refine ret2 (fn:=Tryz.f22) rfl H G G ?_
   rw [pP (show d<y.days.toNat by omega) hfl (by rw [yS (by omega)];decide),yS (by omega)]
   exact ⟨rfl,(S.sel [2,3,4,5] G G)⟩
  refine sS H fun K42 k42=>sr 2 rfl<|sE ?_;clear H a;intro a H
  refine k42 _ ?_;clear k42 K42
  refine cond_ H rfl (fun hc8=>?_) (fun hc8=>?_)
  ·skip
   try simp only [o1,o2,o3,o4,o5,o6,o7,o8,o9,oa] at hc8
   refine sS H fun K43 k43=>sr 3 rfl<|sE ?_;clear H a;intro a H
   refine k43 _ ?_;clear k43 K43
   refine wp_ret ?_
   refine ret2 (fn:=Tryz.f22) rfl H G G ?_
   rw [pP (show d<y.days.toNat by omega) hfl (by rw [yT (by omega) hc8];decide),yT (by omega) hc8]
   exact ⟨rfl,(S.sel [2,3,4,5] G G)⟩
  try simp only [o1,o2,o3,o4,o5,o6,o7,o8,o9,oa] at hc8
  replace H:=H.keep [0,1,6,7,8,23,24] rfl
  refine seq_list fun K44 k44=>?_
  refine ls 6 H<|sr 4 rfl<|si aT bA G G (ownM.adr S (i:=1) rfl (by omega)) (by omega)<|slm aD rfl (ownM.rd S (i:=1) (k:=d) (j:=0) rfl (by omega) (by omega))<|sE ?_;clear H a;intro a H
  refine aA H G G Tryz.func40 G G (Jp y cb bl bs bk (d:Int) (outY y l d y.us.length) _ _ ((S.sel [2,3,4,5] G G).startR) (hy.nowR (S.sel [2,3,4,5] G G)) hyb hok (sM hok (Nat.le_refl _))) ?_;clear H a
  rintro _ _ a ⟨rfl,S2⟩ H
  replace S:=St.callR (M:=[_,_,_,_]) (S.sel [2,3,4,5,0,1] G G) S2;clear S2
  refine ls 2 H<|sr 2 rfl<|sE ?_;clear H a;intro a H
  refine k44 _ _ ?_;clear k44 K44
  refine cond_ H rfl (fun hc9=>?_) (fun hc9=>?_)
  ·skip
   try simp only [o1,o2,o3,o4,o5,o6,o7,o8,o9,oa] at hc9
   replace H:=H.keep [8] rfl
   refine sS H fun K45 k45=>sr 3 rfl<|sE ?_;clear H a;intro a H
   refine k45 _ ?_;clear k45 K45
   refine wp_ret ?_
   refine ret2 (fn:=Tryz.f22) rfl H G G ?_
   rw [pP (show d<y.days.toNat by omega) hfl (by rw [yU (by omega) hc8 hc9];decide),yU (by omega) hc8 hc9]
   exact ⟨rfl,(S.sel [0,1,2,3] G G)⟩
  try simp only [o1,o2,o3,o4,o5,o6,o7,o8,o9,oa] at hc9
  replace H:=H.keep [0,1,6,7,8,23,24] rfl
  refine seq_list fun K46 k46=>?_
  refine ls 5 H<|sr 3 rfl<|si aT bA G G (ownM.adr S (i:=5) rfl (by omega)) (by omega)<|slm aD rfl (ownM.rd S (i:=5) (k:=d) (j:=0) rfl (by omega) (by omega))<|sE ?_;clear H a;intro a H
  refine aA H G G Tryz.func41 G G (Em y cb bl bs bk (outY y l d y.us.length) _ _ ((S.sel [0,1,2,3] G G).startR) (hy.nowR (S.sel [0,1,2,3] G G)) hyb hok (sM hok (Nat.le_refl _))) ?_;clear H a
  rintro _ _ a ⟨rfl,S2⟩ H
  replace S:=St.callR (M:=[_,_,_,_]) (S.sel [0,1,2,3,4,5] G G) S2;clear S2
  refine ls 2 H<|sr 2 rfl<|sE ?_;clear H a;intro a H
  refine k46 _ _ ?_;clear k46 K46
  refine cond_ H rfl (fun hc10=>?_) (fun hc10=>?_)
  ·skip
   try simp only [o1,o2,o3,o4,o5,o6,o7,o8,o9,oa] at hc10
   replace H:=H.keep [8] rfl
   refine sS H fun K47 k47=>sr 3 rfl<|sE ?_;clear H a;intro a H
   refine k47 _ ?_;clear k47 K47
   refine wp_ret ?_
   refine ret2 (fn:=Tryz.f22) rfl H G G ?_
   rw [pP (show d<y.days.toNat by omega) hfl (by rw [yV (by omega) hc8 hc9 hc10];decide),yV (by omega) hc8 hc9 hc10]
   exact ⟨rfl,(S.sel [0,1,2,3] G G)⟩
  try simp only [o1,o2,o3,o4,o5,o6,o7,o8,o9,oa] at hc10
  refine wp_skip ?_
  refine k9 _ _ ?_
  refine sO H<|sd (aK G G (by unfold i64ok;omega))<|sr 1 rfl<|sE ?_;clear H a;intro a H
  rw [Ji] at S
  exact k6 (g1-1) (d+1) a _ (by omega) (⟨⟨by omega,by omega⟩,Oz hfl (Gh (by omega) hc8 hc9 hc10)⟩) (S.sel [4,5,0,1,2,3] G G) (H.keep [24,0,1,6,7,23] rfl)
 refine wp_exit ?_
 refine k4 _ _ ?_
 refine sS H fun K49 k49=>sr 2 rfl<|sE ?_;clear H a;intro a H
 refine k49 _ ?_;clear k49 K49
 refine wp_ret ?_
 refine ret2 (fn:=Tryz.f22) rfl H G G ?_
 rw [Ek (fun q hq=>hfl q (by omega))]
 exact ⟨rfl,(S.sel [2,3,4,5] G G)⟩
theorem Ws (y:Yr) (l:List Tsk) (LA:Option Addr) (lc:Nat) (w:World) (hy:YIn w noF y) (hyb:YBd y) (hl:InS w noF 3 LA l.length (cM l)) (hln:l.length≤9223372036854775807) :
    Calls Tryz.prog 8 [.agg [.int .i64 y.days,.int .i64 y.pl,.slice y.PA y.ps.length y.pc,.slice y.XA y.xs.length y.xc,.slice y.BA y.pe.length y.bc,.int .i64 y.limit,.bool y.help,.slice y.QA y.prs.length y.qc,.slice y.VA y.us.length y.vc,.int .i64 y.crew,.slice y.SA y.sps.length y.sc].toArray,.slice LA l.length lc].toArray w (Ret (fun v w'=>(taskE y l≠0∧v = .tuple #[.slice none 0 0,.int .i64 (taskE y l)]∧St w noF [] w')∨(taskE y l=0∧∃ A c,v = .tuple #[.slice A y.days.toNat c,.int .i64 0]∧St w noF [ownM 3 1 A y.days.toNat c (setsV y l y.us.length)] w'))):=by
 refine enter Tryz.func8 rfl Tryz.ntmps8 rfl (fun a H=>?_)
 have S:=St.start w
 refine seq_list fun K1 k1=>?_
 refine aO H rfl S G G ?_;clear H a S;intro b2 _ a hb2 hbw2 S H
 refine ls 2 H<|sr 2 rfl<|sE ?_;clear H a;intro a H
 refine k1 _ _ ?_;clear k1 K1
 refine wp_seq_k fun K2 k2=>?_
 refine seq_list fun K3 k3=>?_
 refine ls 2 H<|sd ((aC fA hY rfl S (i:=0) G G))<|sr 1 rfl<|sE ?_;clear H a;intro a H
 refine aA H G G Tryz.func20 G G (Bz y l LA lc _ (hy.now S) hyb (hl.now S) hln) ?_;clear H a
 rintro _ _ a ⟨rfl,S2⟩ H
 replace S:=S.call S2;clear S2
 refine ls 1 H<|sr 1 rfl<|sE ?_;clear H a;intro a H
 refine k3 _ _ ?_;clear k3 K3
 refine sS H fun K4 k4=>sr 2 rfl<|sE ?_;clear H a;intro a H
 refine k4 _ ?_;clear k4 K4
 refine condN H rfl (fun hc1=>?_) (fun hc1=>?_)
 ·skip
  replace H:=H.keep [6] rfl
  refine sS H fun K5 k5=>sr 3 rfl<|sE ?_;clear H a;intro a H
  refine k5 _ ?_;clear k5 K5
  refine wp_ret ?_
  refine ret2 (fn:=Tryz.f8) rfl H G G ?_
  exact .inl ⟨hc1,rfl,(S.sel [] G G)⟩
 have hte:taskE y l=0:=by omega
 have htk0:=pM hte
 have hok:=pL htk0.1
 have htk:∀ k,k<l.length→tskI y (l.getD k Tsk.zero):=fun k hk=>yP (htk0.2.2 k hk)
 refine wp_skip ?_
 refine k2 _ _ ?_
 refine seq_list fun K6 k6=>?_
 refine ls 1 H<|sd ((aC fA hY rfl S (i:=0) G G))<|sE ?_;clear H a;intro a H
 refine aA H G G Tryz.func21 G G (Gi y _) ?_;clear H a
 rintro _ _ a ⟨cb,bl,bs,bk,rfl,S2⟩ H
 replace S:=S.call S2;clear S2
 refine ls 1 H<|sr 1 rfl<|sE ?_;clear H a;intro a H
 refine aA H G G Tryz.func23 G G (Gk y cb bl bs bk l LA lc _ _ ((S.sel [0,1,2,3] G G).startR) (hy.nowR (S.sel [0,1,2,3] G G)) hyb hok (hl.nowR (S.sel [0,1,2,3] G G)) hln htk) ?_;clear H a
 rintro _ _ a ⟨A6,c6,rfl,S2⟩ H
 replace S:=St.callR (M:=[_,_,_,_]) (S.sel [0,1,2,3,4] G G) S2;clear S2
 refine ls 2 H<|sr 2 rfl<|sE ?_;clear H a;intro a H
 refine k6 _ _ ?_;clear k6 K6
 refine wp_ret ?_
 refine ret2 (fn:=Tryz.f8) rfl H G G ?_
 exact .inr ⟨hte,A6,c6,rfl,(S.sel [0] G G)⟩
theorem Cc (y:Yr) (l:List Tsk) (LA:Option Addr) (lc:Nat) (w:World) (hy:YIn w noF y) (hyb:YBd y) (hl:InS w noF 3 LA l.length (cM l)) (hln:l.length≤9223372036854775807) :
    Calls Tryz.prog 7 [.agg [.int .i64 y.days,.int .i64 y.pl,.slice y.PA y.ps.length y.pc,.slice y.XA y.xs.length y.xc,.slice y.BA y.pe.length y.bc,.int .i64 y.limit,.bool y.help,.slice y.QA y.prs.length y.qc,.slice y.VA y.us.length y.vc,.int .i64 y.crew,.slice y.SA y.sps.length y.sc].toArray,.slice LA l.length lc].toArray w (Ret (fun v w'=>(taskE y l≠0∧v = .tuple #[.int .i64 0,.int .i64 0,.int .i64 (taskE y l)]∧St w noF [] w')∨(taskE y l=0∧v = .tuple #[.int .i64 (gF y l).1,.int .i64 (gF y l).2,.int .i64 0]∧St w noF [] w'))):=by
 refine enter Tryz.func7 rfl Tryz.ntmps7 rfl (fun a H=>?_)
 have S:=St.start w
 refine seq_list fun K1 k1=>?_
 refine aO H rfl S G G ?_;clear H a S;intro b2 _ a hb2 hbw2 S H
 refine ls 3 H<|sr 3 rfl<|sE ?_;clear H a;intro a H
 refine k1 _ _ ?_;clear k1 K1
 refine wp_seq_k fun K2 k2=>?_
 refine seq_list fun K3 k3=>?_
 refine ls 2 H<|sd ((aC fA hY rfl S (i:=0) G G))<|sr 1 rfl<|sE ?_;clear H a;intro a H
 refine aA H G G Tryz.func20 G G (Bz y l LA lc _ (hy.now S) hyb (hl.now S) hln) ?_;clear H a
 rintro _ _ a ⟨rfl,S2⟩ H
 replace S:=S.call S2;clear S2
 refine ls 1 H<|sr 1 rfl<|sE ?_;clear H a;intro a H
 refine k3 _ _ ?_;clear k3 K3
 replace H:=H.keep [1,2,6] rfl
 refine sS H fun K4 k4=>sr 2 rfl<|sE ?_;clear H a;intro a H
 refine k4 _ ?_;clear k4 K4
 refine condN H rfl (fun hc1=>?_) (fun hc1=>?_)
 ·skip
  refine sS H fun K5 k5=>sr 4 rfl<|sE ?_;clear H a;intro a H
  refine k5 _ ?_;clear k5 K5
  refine wp_ret ?_
  refine ret3 (fn:=Tryz.f7) rfl H G G G ?_
  exact .inl ⟨hc1,rfl,(S.sel [] G G)⟩
 have hte:taskE y l=0:=by omega
 have htk0:=pM hte
 have hok:=pL htk0.1
 have htk:∀ k,k<l.length→tskI y (l.getD k Tsk.zero):=fun k hk=>yP (htk0.2.2 k hk)
 refine wp_skip ?_
 refine k2 _ _ ?_
 replace H:=H.keep [1,2] rfl
 refine seq_list fun K6 k6=>?_
 refine ls 1 H<|sd ((aC fA hY rfl S (i:=0) G G))<|sE ?_;clear H a;intro a H
 refine aA H G G Tryz.func21 G G (Gi y _) ?_;clear H a
 rintro _ _ a ⟨cb,bl,bs,bk,rfl,S2⟩ H
 replace S:=S.call S2;clear S2
 refine ls 1 H<|sr 1 rfl<|sE ?_;clear H a;intro a H
 refine aA H G G Tryz.func22 G G (Jq y cb bl bs bk l LA lc _ _ ((S.sel [0,1,2,3] G G).startR) (hy.nowR (S.sel [0,1,2,3] G G)) hyb hok (hl.nowR (S.sel [0,1,2,3] G G)) hln htk htk0.2.1) ?_;clear H a
 rintro _ _ a ⟨rfl,S2⟩ H
 replace S:=St.callR (M:=[_,_,_,_]) (S.sel [0,1,2,3,4] G G) S2;clear S2
 refine ls 5 H<|sr 5 rfl<|sE ?_;clear H a;intro a H
 refine k6 _ _ ?_;clear k6 K6
 replace H:=H.keep [4,5] rfl
 refine sS H fun K7 k7=>sr 5 rfl<|sE ?_;clear H a;intro a H
 refine k7 _ ?_;clear k7 K7
 refine wp_ret ?_
 refine ret3 (fn:=Tryz.f7) rfl H G G G ?_
 exact .inr ⟨hte,rfl,(S.sel [] G G)⟩
end
section
section
variable {y:Yr} {l r:List Tsk} {a b c t:Tsk} {d D k n:Nat}
theorem yX:befB a b=true↔a.day<b.day∨(a.day=b.day∧(a.unit<b.unit∨(a.unit=b.unit∧a.kind<b.kind))):=by
  unfold befB
  split
  · rw [decide_eq_true_eq];omega
  · split
    · rw [decide_eq_true_eq];omega
    · rw [decide_eq_true_eq];omega
theorem wR (h1:befB a b=true) (h2:befB b c=true):befB a c=true:=by
  rw [yX] at *;omega
theorem Tq (h:¬ befB a b=true) (hn:a≠b):befB b a=true:=by
  rw [yX] at *
  have h2:¬ (a.day=b.day∧a.unit=b.unit∧a.kind=b.kind):=fun h3=>hn (by
    cases a;cases b
    simp only [Tsk.mk.injEq]
    exact h3)
  omega
def Srt (l:List Tsk):Prop:=l.Pairwise fun a b=>befB a b=true
def inR (y:Yr) (t:Tsk):Prop:=(0≤t.day∧t.day≤y.days-1)∧(0≤t.unit∧t.unit≤(y.us.length:Int)-1)∧(1≤t.kind∧t.kind≤2)
theorem getT {q:Nat} (hq:q<l.length):l.getD q Tsk.zero=l[q]:=by rw [List.getD_eq_getElem?_getD,List.getElem?_eq_getElem hq];rfl
theorem Wu (h:taskE y l=0):Srt l∧∀ t ∈ l,inR y t:=by
  obtain ⟨h1,h2,h3⟩:=pM h
  have h4:∀ n i,i+n+1<l.length→befB (l.getD i Tsk.zero) (l.getD (i+n+1) Tsk.zero)=true:=by
    intro n
    induction n with
    | zero=>intro i hi;exact Gd (h3 (i+1) hi) (by omega)
    | succ n ih=>
      intro i hi
      have h5:=Gd (h3 (i+(n+1)+1) hi) (by omega)
      exact wR (ih i (by omega)) h5
  refine ⟨List.pairwise_iff_getElem.2 fun i j hi hj hij=>?_,fun t ht=>?_⟩
  · have h5:=h4 (j-i-1) i (by omega)
    rw [show i+(j-i-1)+1=j by omega,getT hi,getT hj] at h5
    exact h5
  · obtain ⟨q,hq,rfl⟩:=List.getElem_of_mem ht
    have h5:=yP (h3 q hq)
    rw [getT hq] at h5
    exact h5
theorem Wv (hy:yearE y=0) (hl:l.length≤60) (hs:Srt l) (hr:∀ t ∈ l,inR y t):taskE y l=0:=by
  refine uV hy (by omega) (bX.2 fun i hi=>?_)
  have h1:=hr l[i] (List.getElem_mem hi)
  unfold tskB
  rw [Bool.and_eq_true,getT hi]
  refine ⟨decide_eq_true h1,?_⟩
  rw [Bool.or_eq_true]
  by_cases h0:i=0
  · exact .inl (decide_eq_true h0)
  · refine .inr ?_
    rw [getT (show i-1<l.length by omega)]
    exact List.pairwise_iff_getElem.1 hs (i-1) i (by omega) hi (by omega)
def putT:List Tsk→Tsk→List Tsk
  | [],t=>[t]
  | x::l,t=>if befB x t=true then x::putT l t else t::x::l
theorem pQ:∀ {l:List Tsk},a ∈ putT l t↔a=t∨a ∈ l:=by
  intro l
  induction l with
  | nil=>rw [putT,List.mem_singleton];simp
  | cons x l ih=>
    rw [putT]
    split
    · rw [List.mem_cons,ih,List.mem_cons]
      constructor
      · rintro (h|h|h)
        · exact .inr (.inl h)
        · exact .inl h
        · exact .inr (.inr h)
      · rintro (h|h|h)
        · exact .inr (.inl h)
        · exact .inl h
        · exact .inr (.inr h)
    · rw [List.mem_cons]
theorem Gl:∀ {l:List Tsk},(putT l t).length=l.length+1:=by
  intro l
  induction l with
  | nil=>rfl
  | cons x l ih=>
    rw [putT]
    split
    · rw [List.length_cons,ih,List.length_cons]
    · rw [List.length_cons]
theorem Tr:∀ {l:List Tsk},Srt l→t ∉ l→Srt (putT l t):=by
  intro l
  induction l with
  | nil=>intro _ _;exact List.pairwise_singleton _ _
  | cons x l ih=>
    intro hs ht
    obtain ⟨h1,h2⟩:=List.pairwise_cons.1 hs
    rw [List.mem_cons] at ht
    rw [putT]
    split
    · rename_i hx
      refine List.pairwise_cons.2 ⟨fun b hb=>?_,ih h2 (fun h=>ht (.inr h))⟩
      rcases pQ.1 hb with rfl|hb
      · exact hx
      · exact h1 b hb
    · rename_i hx
      have hx2:=Tq hx (fun h=>ht (.inl h.symm))
      refine List.pairwise_cons.2 ⟨fun b hb=>?_,hs⟩
      rcases List.mem_cons.1 hb with rfl|hb
      · exact hx2
      · exact wR hx2 (h1 b hb)
theorem Ww:∀ {l:List Tsk} {n:Nat},n≤l.length→(∀ q,q<n→befB (l.getD q Tsk.zero) t=true)→(n<l.length→¬ befB (l.getD n Tsk.zero) t=true)→l.take n++t::l.drop n=putT l t:=by
  intro l
  induction l with
  | nil => intro n hn _ _;have:n=0:=by have:([]:List Tsk).length=0:=rfl;omega
           subst this;rfl
  | cons x l ih=>
    intro n hn h1 h2
    rw [putT]
    cases n with
    | zero=>
      have h3:¬ befB x t=true:=h2 (by simp)
      rw [if_neg h3];rfl
    | succ n=>
      have h4:befB x t=true:=h1 0 (by omega)
      rw [if_pos h4]
      have h3:=ih (n:=n) (by simpa using hn) (fun q hq=>h1 (q+1) (by omega)) (fun h=>h2 (by simpa using h))
      rw [←h3];rfl
end
end
section
noncomputable def allB (P T:Nat) (ps:List Psg) (xs:List Int) (out:Int) (pe:List Int):Bool:=decide (mfv P T pe xs (hds out xs ps)=sumI pe pe.length)
section
variable {P T:Nat} {ps:List Psg} {xs:List Int} {day:List Hq} {h:Nat}
end
noncomputable def mustB (P T:Nat) (ps:List Psg) (xs:List Int) (out:Int) (pe:List Int) (m:Nat):Bool:=!allB P T ps xs (out+2^m) pe
noncomputable def mustL (P T:Nat) (ps:List Psg) (xs:List Int) (out:Int) (pe:List Int):List Nat:=(machL ps out 3 12).filter (mustB P T ps xs out pe)
def movB (ps:List Psg) (out:Int) (f:Nat→Bool) (k:Nat):Bool:=(decide ((ps.getD k Psg.zero).kind=3)&&decide (out/2^(bI ps k).toNat%2=0))&&f (bI ps k).toNat
def mustP (ps:List Psg) (out:Int) (f:Nat→Bool):Nat→List Nat
  | 0=>[]
  | k+1=>mustP ps out f k++(if movB ps out f k=true then [(bI ps k).toNat] else [])
section
variable {P:Nat} {ps:List Psg} {xs:List Int} {out:Int} {f:Nat→Bool}
theorem Jr:∀ k,(mustP ps out f k).length≤k:=by
  intro k
  induction k with
  | zero=>exact Nat.le_refl 0
  | succ k ih=>rw [mustP,List.length_append];split <;> simp <;> omega
theorem nC {k:Nat} {wl:List Nat} (h:wl=mustP ps out f k) (hb:movB ps out f k=true):wl++[(bI ps k).toNat]=mustP ps out f (k+1):=by rw [mustP,if_pos hb,h]
theorem eX {k:Nat} {wl:List Nat} (h:wl=mustP ps out f k) (hb:movB ps out f k=false):wl=mustP ps out f (k+1):=by rw [mustP,if_neg (by rw [hb];simp),h,List.append_nil]
theorem mI {k:Nat}:movB ps out f k=true↔((ps.getD k Psg.zero).kind=3∧out/2^(bI ps k).toNat%2=0)∧f (bI ps k).toNat=true:=by
  unfold movB;simp only [Bool.and_eq_true,decide_eq_true_eq]
theorem mJ (V:StV P ps xs) {k:Nat} (hk:k<ps.length) (h:(ps.getD k Psg.zero).kind=3):0≤bI ps k∧bI ps k≤11:=by
  have:=dD.1 (V.pas k hk)
  unfold bI
  omega
theorem Cd:∀ (n x:Nat),x ∈ mustP ps out f n↔∃ k,k<n∧movB ps out f k=true∧x=(bI ps k).toNat:=by
  intro n
  induction n with
  | zero => intro x;constructor
            · intro h;cases h
            · rintro ⟨k,hk,_⟩;omega
  | succ n ih=>
    intro x
    rw [mustP,List.mem_append,ih]
    constructor
    · rintro (⟨k,hk,h⟩|h)
      · exact ⟨k,by omega,h⟩
      · split at h
        · rename_i hb
          exact ⟨n,by omega,hb,by simpa using h⟩
        · cases h
    · rintro ⟨k,hk,hb,hx⟩
      by_cases e:k=n
      · subst e;right;rw [if_pos hb];simpa using hx
      · exact .inl ⟨k,by omega,hb,hx⟩
theorem Ce (V:StV P ps xs):∀ n,n≤ps.length→(mustP ps out f n).Nodup:=by
  intro n
  induction n with
  | zero=>intro _;exact List.nodup_nil
  | succ n ih=>
    intro hn
    rw [mustP]
    by_cases hb:movB ps out f n=true
    · rw [if_pos hb,List.nodup_append]
      refine ⟨ih (by omega),by simp,fun a ha b hb2 e=>?_⟩
      rw [Cd] at ha
      obtain ⟨k,hk,hbk,hx⟩:=ha
      rw [List.mem_singleton] at hb2
      have h1:=mJ V (by omega) (mI.1 hb).1.1
      have h2:=mJ V (by omega) (mI.1 hbk).1.1
      exact V.mach n (by omega) h1.1 k hk (by omega)
    · rw [if_neg hb,List.append_nil];exact ih (by omega)
theorem wS:∀ (n x:Nat),x ∈ machL ps out 3 n↔x<n∧∃ i,i<ps.length∧machB ps out 3 x i=true:=by
  have hR : ∀ (m n x:Nat),x ∈ machR ps out 3 m n↔x=m∧∃ i,i<n∧machB ps out 3 m i=true:=by
    intro m n
    induction n with
    | zero => intro x;constructor
              · intro h;cases h
              · rintro ⟨_,i,hi,_⟩;omega
    | succ n ih=>
      intro x
      rw [machR,List.mem_append,ih]
      constructor
      · rintro (⟨h1,i,hi,h⟩|h)
        · exact ⟨h1,i,by omega,h⟩
        · split at h
          · rename_i hb
            exact ⟨by simpa using h,n,by omega,hb⟩
          · cases h
      · rintro ⟨h1,i,hi,hb⟩
        by_cases e:i=n
        · subst e;right;rw [if_pos hb];simpa using h1
        · exact .inl ⟨h1,i,by omega,hb⟩
  intro n
  induction n with
  | zero => intro x;constructor
            · intro h;cases h
            · rintro ⟨h,_⟩;omega
  | succ n ih=>
    intro x
    rw [machL,List.mem_append,ih,hR]
    constructor
    · rintro (⟨h1,h⟩|⟨h1,h⟩)
      · exact ⟨by omega,h⟩
      · subst h1;exact ⟨by omega,h⟩
    · rintro ⟨h1,h⟩
      by_cases e:x=n
      · subst e;exact .inr ⟨rfl,h⟩
      · exact .inl ⟨by omega,h⟩
theorem nD {m i:Nat}:machB ps out 3 m i=true↔((ps.getD i Psg.zero).kind=3∧bI ps i=(m:Int))∧out/2^m%2=0:=by
  unfold machB bI
  simp only [Bool.and_eq_true,decide_eq_true_eq,Bool.not_eq_true',decide_eq_false_iff_not]
  have:out/2^m%2=0∨out/2^m%2=1:=by omega
  constructor
  · rintro ⟨h1,h2⟩;exact ⟨h1,by omega⟩
  · rintro ⟨h1,h2⟩;exact ⟨h1,by omega⟩
theorem wT (V:StV P ps xs):∀ n,(machL ps out 3 n).Pairwise (·<·):=by
  intro n
  induction n with
  | zero=>exact List.Pairwise.nil
  | succ n ih=>
    rw [machL,List.pairwise_append]
    have hr:machR ps out 3 n ps.length=[]∨machR ps out 3 n ps.length=[n]:=by
      by_cases h:∃ i,i<ps.length∧machB ps out 3 n i=true
      · obtain ⟨i,hi,hb⟩:=h
        right
        refine Ig hb hi fun j hj hji=>?_
        cases hbj:machB ps out 3 n j
        · rfl
        · exfalso
          have h1:=(nD.1 hb).1.2
          have h2:=(nD.1 hbj).1.2
          rcases Nat.lt_or_gt_of_ne hji with h|h
          · exact V.mach i hi (by omega) j h (by omega)
          · exact V.mach j hj (by omega) i h (by omega)
      · left
        refine wC fun i hi=>?_
        cases hb:machB ps out 3 n i
        · rfl
        · exact absurd ⟨i,hi,hb⟩ h
    refine ⟨ih,?_,fun a ha b hb=>?_⟩
    · rcases hr with h|h <;> rw [h] <;> simp
    · have h1:=(wS n a).1 ha
      rcases hr with h|h <;> rw [h] at hb
      · cases hb
      · rw [List.mem_singleton] at hb;omega
theorem Js (V:StV P ps xs):(mustP ps out f ps.length).Perm ((machL ps out 3 12).filter f):=by
  refine (List.perm_ext_iff_of_nodup (Ce V _ (Nat.le_refl _)) ?_).2 fun x=>?_
  · exact ((wT V 12).filter _).imp (fun h=>Nat.ne_of_lt h)
  · rw [Cd,List.mem_filter,wS]
    constructor
    · rintro ⟨k,hk,hb,rfl⟩
      obtain ⟨⟨h1,h2⟩,h3⟩:=mI.1 hb
      have h4:=mJ V hk h1
      exact ⟨⟨by omega,k,hk,nD.2 ⟨⟨h1,by omega⟩,h2⟩⟩,h3⟩
    · rintro ⟨⟨h1,i,hi,hb⟩,h3⟩
      obtain ⟨⟨h4,h5⟩,h6⟩:=nD.1 hb
      have e:(bI ps i).toNat=x:=by omega
      exact ⟨i,hi,mI.2 ⟨⟨h4,by rw [e];exact h6⟩,by rw [e];exact h3⟩,e.symm⟩
theorem Jt (V:StV P ps xs):(toI (mustP ps out f ps.length)).mergeSort (fun x y=>decide (x≤y))=toI ((machL ps out 3 12).filter f):=by
  refine List.Perm.eq_of_pairwise (le:=fun x y=>decide (x≤y)=true) (fun a b _ _ h1 h2=>?_) ?_ ?_ ?_
  · have h1:=of_decide_eq_true h1;have h2:=of_decide_eq_true h2;omega
  · exact List.pairwise_mergeSort (fun a b c h1 h2=>by have h1:=of_decide_eq_true h1;have h2:=of_decide_eq_true h2;exact decide_eq_true (by omega)) (fun a b=>by simp only [Bool.or_eq_true,decide_eq_true_eq];omega) _
  · unfold toI
    rw [List.pairwise_map]
    exact ((wT V 12).filter _).imp (fun {a b} h=>decide_eq_true (by omega))
  · exact (List.mergeSort_perm _ _).trans ((Js V).map _)
end
noncomputable def mustV (pl:Int) (ps:List Psg) (xs:List Int) (out:Int) (pe:List Int) (T0:Int):List Int×Int:=
  if cH pl ps xs out pe T0≠0 then ([],cH pl ps xs out pe T0) else if allB pl.toNat T0.toNat ps xs out pe=true then (toI (mustL pl.toNat T0.toNat ps xs out pe),0) else ([],3)
theorem Pi {pl:Int} {ps:List Psg} {xs:List Int} {out:Int} {pe:List Int} {T0:Int} (h:cH pl ps xs out pe T0≠0):mustV pl ps xs out pe T0=([],cH pl ps xs out pe T0):=by unfold mustV;rw [if_pos h]
theorem wU {P T:Nat} {ps:List Psg} {xs:List Int} {out:Int} {pe:List Int} (h:cH P ps xs out pe T=0) (ha:¬ mfv P T pe xs (hds out xs ps)=sumI pe pe.length):mustV P ps xs out pe T=([],3):=by
  unfold mustV allB;rw [if_neg (by omega),Int.toNat_natCast,Int.toNat_natCast,if_neg (by rw [decide_eq_false ha];simp)]
theorem wV {P T:Nat} {ps:List Psg} {xs:List Int} {out:Int} {pe:List Int} (h:cH P ps xs out pe T=0) (ha:mfv P T pe xs (hds out xs ps)=sumI pe pe.length):mustV P ps xs out pe T=(toI (mustL P T ps xs out pe),0):=by
  unfold mustV allB;rw [if_neg (by omega),Int.toNat_natCast,Int.toNat_natCast,if_pos (decide_eq_true ha)]
end
section
section
variable {y:Yr} {l:List Tsk} {d k n:Nat}
theorem yY (d:Nat):(cR y l d=1∧y.crew<jbS l d l.length)∨(cR y l d=2∧¬ y.crew<jbS l d l.length∧shS y l d l.length=true)∨(cR y l d=3∧keepB y (d:Int) (outY y l d y.us.length)=false)∨(cR y l d=4∧keepB y (d:Int) (outY y l d y.us.length)=true∧leavB y (outY y l d y.us.length)=false)∨(cR y l d=0∧keepB y (d:Int) (outY y l d y.us.length)=true∧leavB y (outY y l d y.us.length)=true):=by
  by_cases h1:y.crew<jbS l d l.length
  · exact .inl ⟨yS h1,h1⟩
  · cases h2:shS y l d l.length
    · cases h3:keepB y (d:Int) (outY y l d y.us.length)
      · exact .inr (.inr (.inl ⟨yU h1 h2 h3,rfl⟩))
      · cases h4:leavB y (outY y l d y.us.length)
        · exact .inr (.inr (.inr (.inl ⟨yV h1 h2 h3 h4,rfl,rfl⟩)))
        · exact .inr (.inr (.inr (.inr ⟨Gh h1 h2 h3 h4,rfl,rfl⟩)))
    · exact .inr (.inl ⟨yT h1 h2,h1,rfl⟩)
end
end
section
section
variable {y:Yr} {l r:List Tsk} {d D k n J:Nat} {t:Tsk}
def Right (y:Yr) (r:List Tsk):Prop:=∀ q,q<y.days.toNat→cR y r q=0
theorem rM (h:(gF y l).2=0):Right y l:=by
  unfold gF at h
  intro q hq
  split at h
  · rename_i h1
    have h2:=Th (g:=fun d=>decide (cR y l d≠0)) h1
    exact absurd h (of_decide_eq_true h2)
  · rename_i h1
    have h3:=Mr (f:=fun d=>decide (cR y l d≠0)) y.days.toNat
    have h2:=Tg (g:=fun d=>decide (cR y l d≠0)) (n:=y.days.toNat) (q:=q) (by unfold qS at h1;omega)
    simpa using h2
theorem Wx (hl:taskE y l=0) (ht:inR y t) (hn:t ∉ l) (h60:l.length<60):taskE y (putT l t)=0:=by
  obtain ⟨h1,h2⟩:=Wu hl
  refine Wv (pM hl).1 (by rw [Gl];omega) (Tr h1 hn) fun a ha=>?_
  rcases pQ.1 ha with rfl|ha
  · exact ht
  · exact h2 a ha
end
end
section
def nmB (l:List Int) (x:Int):Bool:=l.any fun a=>decide (a=x)
theorem Wy {l:List Int} {x:Int} {k:Nat} (hk:k<l.length) (h:l.getD k 0=x):nmB l x=true:=by
  rw [List.getD_eq_getElem?_getD,List.getElem?_eq_getElem hk,Option.getD_some] at h
  exact List.any_eq_true.2 ⟨_,List.getElem_mem hk,decide_eq_true h⟩
theorem Zd {l:List Int} {x:Int} (h:∀ q,q<l.length→¬ l.getD q 0=x):nmB l x=false:=by
  unfold nmB
  rw [List.any_eq_false]
  intro a ha h2
  obtain ⟨q,hq,rfl⟩:=List.getElem_of_mem ha
  have h3:=h q hq
  rw [List.getD_eq_getElem?_getD,List.getElem?_eq_getElem hq,Option.getD_some] at h3
  exact h3 (of_decide_eq_true h2)
theorem Pj {l:List Nat} {x:Int} (h:nmB (toI l) x=true):x.toNat ∈ l:=by
  obtain ⟨a,ha,h2⟩:=List.any_eq_true.1 h
  obtain ⟨n,hn,rfl⟩:=List.mem_map.1 ha
  have h3:=of_decide_eq_true h2
  rw [←h3,Int.toNat_natCast]
  exact hn
theorem Gm {P T:Nat} {ps:List Psg} {xs:List Int} {out:Int} {pe:List Int} {m:Nat} (h:m ∈ mustL P T ps xs out pe):allB P T ps xs (out+2^m) pe=false:=by
  unfold mustL at h
  have h2:=(List.mem_filter.1 h).2
  unfold mustB at h2
  rw [Bool.not_eq_true'] at h2
  exact h2
section
variable {y:Yr} {l:List Tsk} {d i k n:Nat} {t:Tsk} {out:Int} {mu:List Nat}
theorem yZ {dd u x:Int}:hasT (putT l t) dd u x=(hasT l dd u x||decide (t.day=dd∧t.unit=u∧t.kind=x)):=by
  unfold hasT
  rw [Bool.eq_iff_iff,Bool.or_eq_true,List.any_eq_true,List.any_eq_true]
  constructor
  · rintro ⟨a,ha,h⟩
    rcases pQ.1 ha with rfl|ha
    · exact .inr h
    · exact .inl ⟨a,ha,h⟩
  · rintro (⟨a,ha,h⟩|h)
    · exact ⟨a,pQ.2 (.inr ha),h⟩
    · exact ⟨t,pQ.2 (.inl rfl),h⟩
theorem Ju (h:t.unit≠(k:Int)):jobF (putT l t) k=jobF l k:=by
  funext q
  unfold jobF jobV
  rw [yZ,yZ,decide_eq_false (fun h9=>h h9.2.1),decide_eq_false (fun h9=>h h9.2.1),Bool.or_false,Bool.or_false]
theorem Pk (hr:runsY y l i d=true):hasT l d i 1=false:=by
  unfold runsY runB' runN at hr
  rw [Bool.and_eq_true,Bool.and_eq_true] at hr
  have h:=hr.1.1
  unfold jobF at h
  rw [wM,Bool.and_eq_true,Bool.not_eq_true'] at h
  exact h.1
theorem Jv (hr:runsY y l i d=true):(⟨(d:Int),(i:Int),1⟩:Tsk) ∉ l:=fun h=>by
  have h1:=Pk hr
  unfold hasT at h1
  rw [List.any_eq_false] at h1
  exact h1 _ h (decide_eq_true ⟨rfl,rfl,rfl⟩)
theorem Pm:runsY y (putT l ⟨(d:Int),(i:Int),1⟩) i d=false:=by
  unfold runsY runB' runN
  have h:decide (jobF (putT l ⟨(d:Int),(i:Int),1⟩) i d=0)=false:=by
    unfold jobF
    rw [wM,yZ,decide_eq_true ⟨rfl,rfl,rfl⟩,Bool.or_true];rfl
  rw [h];rfl
theorem Ts (hr:runsY y l i d=true):∀ k,outY y (putT l ⟨(d:Int),(i:Int),1⟩) d k=outY y l d k+if i<k then 2^(y.us.getD i Unt.zero).mach.toNat else 0:=by
  intro k
  induction k with
  | zero=>rw [if_neg (Nat.not_lt_zero _)];rfl
  | succ k ih=>
    rw [outY,outY,ih]
    by_cases e:k=i
    · subst e
      rw [if_neg (Nat.lt_irrefl k),if_pos (c:=k<k+1) (Nat.lt_succ_self k),if_pos hr,if_neg (by rw [Pm];simp),Int.add_zero]
    · have h1:runsY y (putT l ⟨(d:Int),(i:Int),1⟩) k d=runsY y l k d:=by unfold runsY;rw [Ju (by show (i:Int)≠_;omega)]
      rw [h1]
      generalize (if runsY y l k d=true then (0:Int) else 2^(y.us.getD k Unt.zero).mach.toNat)=z
      by_cases h:i<k
      · rw [if_pos h,if_pos (c:=i<k+1) (by omega)];omega
      · rw [if_neg h,if_neg (c:=i<k+1) (by omega)];omega
theorem Pn (hok:YOk y) (hi:i<y.us.length) (h:¬ outY y l d y.us.length/2^(y.us.getD i Unt.zero).mach.toNat%2=1):runsY y l i d=true:=by
  have h1:=jJ hok.V (iT.1 (hok.un i hi))
  rw [Bu hok (Nat.le_refl _) (by omega)] at h
  refine Classical.byContradiction fun h2=>h ?_
  rw [if_pos]
  exact Bt.2 ⟨i,hi,by omega,by simpa using h2⟩
theorem oC (h:Right y l) (hd:d<y.days.toNat):leavB y (outY y l d y.us.length)=true:=by
  have h0:=h d hd
  rcases yY (y:=y) (l:=l) d with ⟨h2,_⟩|⟨h2,_⟩|⟨h2,_⟩|⟨h2,_⟩|⟨_,_,h2⟩
  · omega
  · omega
  · omega
  · omega
  · exact h2
theorem Po (hL:leavB y out=true) {m:Int} (ho:out-2^m.toNat+2^m.toNat=out) (hmu:mu=mustL y.pl.toNat y.limit.toNat y.ps y.xs (out-2^m.toNat) y.pe):nmB (toI mu) m=false:=by
  rw [←Bool.not_eq_true]
  intro h
  have h1:=Pj h
  rw [hmu] at h1
  have h2:=Gm h1
  rw [ho] at h2
  have h3:leavB y out=false:=h2
  rw [hL] at h3
  cases h3
theorem Pp (hok:YOk y) (hR:Right y l) (hi:i<y.us.length) (hd:d<y.days.toNat) (hr:runsY y l i d=true) (hmu:mu=mustL y.pl.toNat y.limit.toNat y.ps y.xs (outY y l d y.us.length) y.pe) (h:nmB (toI mu) (y.us.getD i Unt.zero).mach=true):(gF y (putT l ⟨(d:Int),(i:Int),1⟩)).2≠0:=fun h0=>by
  have h1:=Pj h
  rw [hmu] at h1
  have h2:=Gm h1
  have h3:=oC (rM h0) hd
  rw [Ts hr,if_pos hi] at h3
  have h4:leavB y (outY y l d y.us.length+2^(y.us.getD i Unt.zero).mach.toNat)=false:=h2
  rw [h3] at h4
  cases h4
theorem Wz (hl:taskE y l=0) (h30:l.length≤30) (hi:i<y.us.length) (hd:(d:Int)<y.days) (hr:runsY y l i d=true):taskE y (putT l ⟨(d:Int),(i:Int),1⟩)=0:=
  Wx hl ⟨⟨by show (0:Int)≤(d:Int);omega,by show (d:Int)≤_;omega⟩,⟨by show (0:Int)≤(i:Int);omega,by show (i:Int)≤_;omega⟩,by show (1:Int)≤1∧(1:Int)≤2;omega⟩ (Jv hr) (by omega)
theorem Cf {a:Tsk} {dd u:Int} (h:1≤a.kind):befB a ⟨dd,u,1⟩=true↔a.day<dd∨(a.day=dd∧a.unit<u):=by
  rw [yX]
  show a.day<dd∨(a.day=dd∧(a.unit<u∨(a.unit=u∧a.kind<1)))↔_
  omega
end
end
section
theorem oD (l:List Tsk):∀ k j,k<l.length→j<3→(cM l k j).oneCell'=true:=fun k j _ _=>by
  unfold cM Tsk.cell
  split <;> rfl
theorem vD {l m:List Tsk}:∀ k j,k<l.length+m.length→j<3→capp l.length (cM l) (cM m) k j=cM (l++m) k j:=by
  intro k j hk hj
  unfold capp cM
  by_cases h:k<l.length
  · rw [if_pos h,List.getD_eq_getElem?_getD,List.getD_eq_getElem?_getD,List.getElem?_append_left h]
  · rw [if_neg h,List.getD_eq_getElem?_getD,List.getD_eq_getElem?_getD,List.getElem?_append_right (by omega)]
theorem cutT {w:World} {F:Nat→Prop} {LA:Option Addr} {lc:Nat} {l:List Tsk} (h:InS w F 3 LA l.length (cM l)) (hc:l.length≤lc) {lo hi:Nat} (h1:lo≤hi) (h2:hi≤l.length):InS w F 3 (cutA LA lc lo 3) ((l.take hi).drop lo).length (cM ((l.take hi).drop lo)):=by
  have h3:=h.cut h1 h2 hc
  have e:((l.take hi).drop lo).length=hi-lo:=by rw [List.length_drop,List.length_take];omega
  rw [e]
  refine h3.congr fun k j hk hj=>?_
  unfold cM
  rw [List.getD_eq_getElem?_getD,List.getD_eq_getElem?_getD,List.getElem?_drop,List.getElem?_take_of_lt (by omega)]
theorem Xa {w:World} {F:Nat→Prop} {LA:Option Addr} {lc:Nat} {l:List Tsk} {i:Nat} (h:InS w F 3 LA l.length (cM l)) (hc:l.length≤lc) (hi:i≤l.length):InS w F 3 (cutA LA lc 0 3) (l.take i).length (cM (l.take i)):=cutT h hc (Nat.zero_le _) hi
theorem Xb {w:World} {F:Nat→Prop} {LA:Option Addr} {lc:Nat} {l:List Tsk} {i:Nat} (h:InS w F 3 LA l.length (cM l)) (hc:l.length≤lc) (hi:i≤l.length):InS w F 3 (cutA LA lc i 3) (l.drop i).length (cM (l.drop i)):=by
  have h1:=cutT h hc hi (Nat.le_refl _)
  rw [List.take_length] at h1
  exact h1
theorem Xc {p:Nat→Prop} (h0:p 0) (h1:p 1) (h2:p 2):∀ j,j<3→p j:=fun j hj=>by
  match j,hj with
  | 0,_=>exact h0
  | 1,_=>exact h1
  | 2,_=>exact h2
theorem Tt {x:Tsk} {vs:List Value} (h:∀ j,j<3→vs.getD j undef=x.cell j):∀ k j,k<1→j<3→([vs].getD k []).getD j undef=cM [x] k j:=fun k j hk hj=>by
  have:k=0:=by omega
  subst this
  exact h j hj
theorem qT (l:List Int) (LA:Option Addr) (lc:Nat) (x:Int) (w:World) (hl:InS w noF 1 LA l.length (icl l)) (hln:l.length≤9223372036854775807) :
    Calls Tryz.prog 10 [.slice LA l.length lc,.int .i64 x].toArray w (Ret (fun u w'=>u = .bool (nmB l x)∧St w noF [] w')):=by
 refine enter Tryz.func10 rfl Tryz.ntmps10 rfl (fun a H=>?_)
 have S:=St.start w
 refine sS H fun K1 k1=>sr 1 rfl<|sE ?_;clear H a;intro a H
 refine k1 _ ?_;clear k1 K1
 refine wp_seq_k fun K2 k2=>?_
 refine sS H fun K3 k3=>sr 1 rfl<|sE ?_;clear H a;intro a H
 refine k3 _ ?_;clear k3 K3
 refine wp_block ?_
 refine loop_st (X:=Nat) (R0:=_) [0,1] H rfl (fun k=>[(5,.int .i64 (k:Int))]) (fun k=>[]) (fun g k=>k≤l.length∧g+k=l.length∧∀ q,q<k→¬ l.getD q 0=x) (l.length) 0 ?_ (S.sel [] G G) (H.keep [5,0,1] rfl) ?_
 · exact ⟨by omega,by omega,fun q hq=>absurd hq (Nat.not_lt_zero q)⟩
 clear H S a
 intro g1 x1 a w1 hp S H K4 k4
 obtain ⟨k,rfl⟩:∃ y,y=x1:=⟨_,rfl⟩
 refine wp_seq_k fun K5 k5=>?_
 refine sS H fun K6 k6=>sr 2 rfl<|sL aT rfl<|sr 1 rfl<|sE ?_;clear H a;intro a H
 refine k6 _ ?_;clear k6 K6
 refine condL H rfl (fun hc1=>?_) (fun hc1=>?_)
 ·skip
  refine wp_skip ?_
  refine k5 _ _ ?_
  refine wp_seq_k fun K7 k7=>?_
  refine wp_block ?_
  replace H:=H.keep [0,1,5] rfl
  refine sS H fun K8 k8=>sr 2 rfl<|si aT bA G G (hl.adr (by omega)) (by omega)<|slm aD rfl (hl.rd S (by omega) (by omega))<|sr 2 rfl<|sE ?_;clear H a;intro a H
  refine k8 _ ?_;clear k8 K8
  refine condE H rfl (fun hc2=>?_) (fun hc2=>?_)
  ·skip
   refine sS H fun K9 k9=>sr 1 rfl<|sE ?_;clear H a;intro a H
   refine k9 _ ?_;clear k9 K9
   refine wp_ret ?_
   refine ret1 (fn:=Tryz.f10) rfl H rfl ?_
   rw [Wy (k:=k) (by omega) hc2];exact ⟨rfl,(S.sel [] G G)⟩
  refine wp_skip ?_
  refine k7 _ _ ?_
  replace H:=H.keep [0,1,5] rfl
  refine sO H<|sr 1 rfl<|sd (aK G G (by unfold i64ok;omega))<|sr 1 rfl<|sE ?_;clear H a;intro a H
  exact k4 (g1-1) (k+1) a _ (by omega) (⟨by omega,by omega,fun q hq=>if h9:q<k then hp.2.2 q h9 else by
    obtain rfl:q=k:=by omega
    exact hc2⟩) (S.sel [] G G) (H.keep [5,0,1] rfl)
 refine wp_exit ?_
 refine k2 _ _ ?_
 refine sS H fun K11 k11=>sr 1 rfl<|sE ?_;clear H a;intro a H
 refine k11 _ ?_;clear k11 K11
 refine wp_ret ?_
 refine ret1 (fn:=Tryz.f10) rfl H rfl ?_
 rw [Zd (fun q hq=>hp.2.2 q (by omega))];exact ⟨rfl,(S.sel [] G G)⟩
theorem En (l:List Tsk) (LA:Option Addr) (lc:Nat) (dd un:Int) (w:World) (hl:InS w noF 3 LA l.length (cM l)) (hln:l.length≤9223372036854775807) (hlc:l.length≤lc) (hl60:l.length≤60) (hkd:∀ q,q<l.length→1≤(l.getD q Tsk.zero).kind) :
    Calls Tryz.prog 11 [.slice LA l.length lc,.agg [.int .i64 dd,.int .i64 un,.int .i64 1].toArray].toArray w (Ret (fun v w'=>∃ A c,v = .slice A (putT l (⟨dd,un,1⟩:Tsk)).length c∧St w noF [ownM 51 3 A (putT l (⟨dd,un,1⟩:Tsk)).length c (cM (putT l (⟨dd,un,1⟩:Tsk)))] w')):=by
 have hmx:maxLen=9223372036854775807:=rfl
 refine enter Tryz.func11 rfl Tryz.ntmps11 rfl (fun a H=>?_)
 have S:=St.start w
 refine seq_list fun K1 k1=>?_
 refine aO H rfl S G G ?_;clear H a S;intro b3 _ a hb3 hbw3 S H
 refine ls 1 H<|sr 1 rfl<|sE ?_;clear H a;intro a H
 refine k1 _ _ ?_;clear k1 K1
 refine sS H fun K2 k2=>sr 1 rfl<|sE ?_;clear H a;intro a H
 refine k2 _ ?_;clear k2 K2
 refine wp_seq_k fun K3 k3=>?_
 refine wp_block ?_
 refine loop_st (X:=Nat) (R0:=_) [0,3] H rfl (fun k=>[(5,.int .i64 (k:Int))]) (fun k=>[]) (fun g k=>k≤l.length∧g+k=l.length∧∀ q,q<k→befB (l.getD q Tsk.zero) (⟨dd,un,1⟩:Tsk)=true) (l.length) 0 ?_ (S.sel [0] G G) (H.keep [5,0,3] rfl) ?_
 · exact ⟨by omega,by omega,fun q hq=>absurd hq (Nat.not_lt_zero q)⟩
 clear H S a
 intro g1 x1 a w1 hp S H K4 k4
 obtain ⟨k,rfl⟩:∃ y,y=x1:=⟨_,rfl⟩
 refine wp_seq_k fun K5 k5=>?_
 replace H:=H.keep [0,3,5] rfl
 replace S:=S.drew
 refine sD H fun K6 k6=>sr 2 rfl<|sL dE rfl<|sr 2 rfl<|sg 28 4 11 39 true G G (fun hg5=>by
     have hq5:=hg5;try simp only [o1,o2,o3,o4,o5,o6,o7,o8,o9,oa] at hq5
     exact sy hg5<|sr 1 rfl<|sy hg5<|sr 1 rfl<|sy hg5<|si dE cT G G (hl.adr (by omega)) (by omega)<|sy hg5<|sp cQ rfl<|sy hg5<|slm aD rfl (hl.rd S (by omega) (by omega))<|sy hg5<|sf cQ rfl<|sy hg5<|sl S 0 aD G G G<|sy hg5<|sr 1 rfl<|sy hg5<|sr 1 rfl<|sg 18 13 20 38 false G G (fun hg14=>by
          have hq14:=hg14;try simp only [o1,o2,o3,o4,o5,o6,o7,o8,o9,oa] at hq14
          exact sy hg14<|sr 1 rfl<|sy hg14<|sr 1 rfl<|sy hg14<|si dE cT G G (hl.adr (by omega)) (by omega)<|sy hg14<|sp cQ rfl<|sy hg14<|slm aD rfl (hl.rd S (by omega) (by omega))<|sy hg14<|sf cQ rfl<|sy hg14<|sl S 0 aD G G G<|sy hg14<|sr 1 rfl<|sy hg14<|sr 1 rfl<|sg 8 22 29 37 true G G (fun hg23=>by
               have hq23:=hg23;try simp only [o1,o2,o3,o4,o5,o6,o7,o8,o9,oa] at hq23
               exact sy hg23<|sr 1 rfl<|sy hg23<|sr 1 rfl<|sy hg23<|si dE cT G G (hl.adr (by omega)) (by omega)<|sy hg23<|sp dN rfl<|sy hg23<|slm aD rfl (hl.rd S (by omega) (by omega))<|sy hg23<|sf dN rfl<|sy hg23<|sl S 0 aD G G G<|sy hg23<|sr 1 rfl<|sz 8 G G G)<|sy hg14<|sa G G G<|sz 11 G G G)<|sy hg5<|so G G G<|sz 11 G G G)<|sa G G G<|sE ?_;clear H a;intro a H
 refine k6 _ ?_;clear k6 K6
 refine cond_ H rfl (fun hc1=>?_) (fun hc1=>?_)
 ·skip
  try simp only [o1,o2,o3,o4,o5,o6,o7,o8,o9,oa] at hc1
  refine wp_skip ?_
  refine k5 _ _ ?_
  refine wp_block ?_
  replace H:=H.keep [0,3,5] rfl
  refine sO H<|sr 1 rfl<|sd (aK G G (by unfold i64ok;omega))<|sr 1 rfl<|sE ?_;clear H a;intro a H
  have hk9:=hc1.1
  exact k4 (g1-1) (k+1) a _ (by omega) (⟨by omega,by omega,fun q hq=>by
    by_cases e:q=k
    · subst e;exact (Cf (hkd q (by omega))).2 hc1.2
    · exact hp.2.2 q (by omega)⟩) (S.sel [0] G G) (H.keep [5,0,3] rfl)
 try simp only [o1,o2,o3,o4,o5,o6,o7,o8,o9,oa] at hc1
 refine wp_exit ?_
 refine k3 _ _ ?_
 have hput:(l.take k++[(⟨dd,un,1⟩:Tsk)])++l.drop k=putT l (⟨dd,un,1⟩:Tsk):=by rw [List.append_assoc];exact Ww (by omega) hp.2.2 (fun h h9=>by have h8:=(Cf (hkd k h)).1 h9;omega)
 refine seq_list fun K8 k8=>?_
 refine zW H rfl S dE cT (cM l) ?_;clear H a S;intro A1 _ a S H
 refine ls 3 H<|sr 2 rfl<|sd (Does.to (iB dE cT rfl (lo:=0) (hi:=k) (.inl ⟨rfl,rfl⟩) (.inr ⟨_,rfl,_,rfl⟩) (by omega) (by omega)) (show _=Value.slice (cutA LA lc 0 3) (l.take k).length (lc-0) from by rw [List.length_take,Nat.sub_zero,Nat.min_eq_left (by omega)]))<|sE ?_;clear H a;intro a H
 refine bW H rfl S dE cT rD Lw G G (i:=0) G G G ((Xa hl hlc (show k≤l.length by omega)).now S) (oD _) (by rw [List.length_take];omega) (by rw [List.length_take];omega) ?_;clear H a S;intro A2 c2 _ a S H
 rw [Nat.zero_add] at H
 replace S:=S.recell (i:=0) (n:=(l.take k).length) (cell':=cM (l.take k)) (by simp only [Nat.zero_add];rfl) (fun k j hk hj=>by unfold capp;rw [if_neg (by omega)];rfl)
 refine ls 1 H<|sr 1 rfl<|sE ?_;clear H a;intro a H
 refine k8 _ _ ?_;clear k8 K8
 replace H:=H.keep [0,3,5,6] rfl
 refine seq_list fun K9 k9=>?_
 refine ls 2 H<|sr 1 rfl<|sd ((aC lU cT rfl S (i:=1) G G))<|sE ?_;clear H a;intro a H
 refine aZ H rfl S dE cT rD G G G G G G G G G ?_;clear H a S;intro A3 _ a hA3 S H
 replace S:=S.recell (i:=0) rfl (cell':=cM [(⟨dd,un,1⟩:Tsk)]) (fun k9 j9 hk9 hj9=>Tt (Xc G G G) k9 j9 hk9 hj9)
 refine bW H rfl S dE cT rD Lw G G (i:=1) G G G (ownM.inS S (i:=0) rfl) (oD [(⟨dd,un,1⟩:Tsk)]) (by rw [List.length_take];omega) (by rw [List.length_take];omega) ?_;clear H a S;intro A4 c4 _ a S H
 replace S:=S.recell (i:=1) rfl (cell':=cM (l.take k++[(⟨dd,un,1⟩:Tsk)])) (fun k9 j9 hk9 hj9=>vD (m:=[(⟨dd,un,1⟩:Tsk)]) k9 j9 hk9 hj9)
 rw [show (l.take k).length+1=(l.take k++[(⟨dd,un,1⟩:Tsk)]).length by rw [List.length_append];rfl] at S H
 refine ls 1 H<|sr 1 rfl<|sE ?_;clear H a;intro a H
 refine k9 _ _ ?_;clear k9 K9
 replace H:=H.keep [0,5,6] rfl
 refine seq_list fun K10 k10=>?_
 refine ls 4 H<|sr 3 rfl<|sd (Does.to (iB dE cT rfl (lo:=k) (hi:=l.length) (.inr ⟨_,rfl,_,rfl⟩) (.inl ⟨rfl,rfl⟩) (by omega) (by omega)) (show _=Value.slice (cutA LA lc k 3) (l.drop k).length (lc-k) from by rw [List.length_drop]))<|sE ?_;clear H a;intro a H
 refine bW H rfl S dE cT rD Lw G G (i:=1) G G G ((Xb hl hlc (show k≤l.length by omega)).now S) (oD _) (by rw [List.length_append,List.length_take,List.length_drop];show (_+1+_)*_≤_;omega) (by rw [List.length_append,List.length_take,List.length_drop];show _+1+_≤_;omega) ?_;clear H a S;intro A5 c5 _ a S H
 replace S:=S.recell (i:=1) rfl (cell':=cM (putT l (⟨dd,un,1⟩:Tsk))) (fun k9 j9 hk9 hj9=>by rw [←hput];exact vD k9 j9 hk9 hj9)
 rw [show (l.take k++[(⟨dd,un,1⟩:Tsk)]).length+(l.drop k).length=(putT l (⟨dd,un,1⟩:Tsk)).length by rw [←hput];simp only [List.length_append]] at S H
 refine ls 1 H<|sr 1 rfl<|sE ?_;clear H a;intro a H
 refine k10 _ _ ?_;clear k10 K10
 refine wp_ret ?_
 refine ret1 (fn:=Tryz.f11) rfl H rfl ?_
 exact ⟨_,_,rfl,(S.sel [1] G G)⟩
end
section
def MList (ps:List Psg) (k:Nat) (ml:List Int):Prop:=ml.length≤k∧∀ m,0≤m→(hasI ml m=true↔¬ cntM ps m k=0)
theorem MList.nil {ps:List Psg}:MList ps 0 []:=⟨Nat.le_refl 0,fun m _=>by
  constructor
  · intro h;cases h
  · intro h;exact absurd rfl h⟩
theorem wW {ps:List Psg} {m:Int} {k:Nat}:cntM ps m (k+1)=cntM ps m k+(if bI ps k=m then 1 else 0):=rfl
theorem Jw {l:List Int} {x m:Int}:hasI (l++[x]) m=(hasI l m||decide (m=x)):=by unfold hasI;rw [List.any_append];simp
theorem MList.add {ps:List Psg} {k:Nat} {ml:List Int} (h:MList ps k ml):MList ps (k+1) (ml++[bI ps k]):=⟨by rw [List.length_append];have:=h.1;simp;omega,fun m hm=>by
  have h1:=h.2 m hm
  have h2:=Fm (ps:=ps) (m:=m) (k:=k)
  rw [Jw,wW,Bool.or_eq_true,decide_eq_true_eq,h1]
  by_cases e:bI ps k=m
  · rw [if_pos e];exact ⟨fun _=>by omega,fun _ => .inr e.symm⟩
  · rw [if_neg e,Int.add_zero];exact ⟨fun g=>g.resolve_right (fun g=>e g.symm),.inl⟩⟩
theorem MList.skip {ps:List Psg} {k:Nat} {ml:List Int} (h:MList ps k ml) (hk:bI ps k<0):MList ps (k+1) ml:=⟨by have:=h.1;omega,fun m hm=>by
  rw [wW,if_neg (by omega),Int.add_zero]
  exact h.2 m hm⟩
theorem MList.fresh {ps:List Psg} {k:Nat} {ml:List Int} (h:MList ps k ml) (h0:0≤(ps.getD k Psg.zero).mach) (hh:hasI ml (ps.getD k Psg.zero).mach=false):cntM ps (bI ps k) k=0:=by
  have h9:=h.2 _ h0
  rw [hh] at h9
  have h8:bI ps k=(ps.getD k Psg.zero).mach:=rfl
  rw [h8]
  simp only [Bool.false_eq_true,false_iff] at h9
  omega
theorem pR {pl:Int} {ps:List Psg} {k:Nat} (h:psgOk pl (ps.getD k Psg.zero)=true) (hz:cntM ps (bI ps k) k=0):pasOk pl ps k=true:=by unfold pasOk;rw [h,decide_eq_true (.inr hz)];rfl
theorem pS {pl:Int} {ps:List Psg} {k:Nat} (h:psgOk pl (ps.getD k Psg.zero)=true) (hz:(ps.getD k Psg.zero).mach<0):pasOk pl ps k=true:=by unfold pasOk;rw [h,decide_eq_true (.inl hz)];rfl
theorem Tu {pl:Int} {ps:List Psg} {k:Nat} {ml:List Int} (hM:MList ps k ml) (hc:((ps.getD k Psg.zero).mach<0∨11<(ps.getD k Psg.zero).mach)∨hasI ml (ps.getD k Psg.zero).mach=true) (hk:(ps.getD k Psg.zero).kind=3∨(ps.getD k Psg.zero).kind=4):pasOk pl ps k=false:=by
  unfold pasOk
  rw [Bool.and_eq_false_iff]
  by_cases h0:0≤(ps.getD k Psg.zero).mach∧(ps.getD k Psg.zero).mach≤11
  · refine .inr (decide_eq_false ?_)
    have h9:=hM.2 _ h0.1
    have h8:bI ps k=(ps.getD k Psg.zero).mach:=rfl
    rw [h8]
    rcases hc with h7|h7
    · omega
    · rw [h7] at h9
      simp only [true_iff] at h9
      omega
  · exact .inl (fL (by omega))
theorem Tv {pl:Int} {xs:List Int} {k:Nat} (h:(0≤xs.getD k 0∧xs.getD k 0≤pl-1)∧(k=0∨xs.getD (k-1) 0<xs.getD k 0)):exOk pl xs k=true:=by unfold exOk;rw [decide_eq_true_eq];omega
theorem Tw {pl:Int} {xs:List Int} {k:Nat} (h:¬ ((0≤xs.getD k 0∧xs.getD k 0≤pl-1)∧(k=0∨xs.getD (k-1) 0<xs.getD k 0))):exOk pl xs k=false:=by unfold exOk;rw [decide_eq_false_iff_not];omega
theorem Eo {l:List Int} {x:Int} {v:Value} (hv:v = .int .i64 x):∀ k j,k<l.length+1→j<1→capp l.length (icl l) (fun k' j=>([[v]].getD k' []).getD j undef) k j=icl (l++[x]) k j:=by
  intro k j hk hj
  have:j=0:=by omega
  subst this
  subst hv
  unfold capp icl
  by_cases h:k<l.length
  · rw [if_pos h,List.getD_eq_getElem?_getD,List.getD_eq_getElem?_getD,List.getElem?_append_left h]
  · have e:k=l.length:=by omega
    subst e
    rw [if_neg h,Nat.sub_self,List.getD_eq_getElem?_getD,List.getElem?_append_right (Nat.le_refl _),Nat.sub_self]
    rfl
theorem cI (n lo hi:Int) (w:World) :
    Calls Tryz.prog 51 [.int .i64 n,.int .i64 lo,.int .i64 hi].toArray w (Ret (fun v w'=>v = .bool (decide (lo≤n)&&decide (n≤hi))∧w'=w)):=by
 refine enter Tryz.func51 rfl Tryz.ntmps51 rfl (fun a H=>?_)
 have S:=St.start w
 refine sS H fun K1 k1=>sr 1 rfl<|sE ?_;clear H a;intro a H
 refine k1 _ ?_;clear k1 K1
 replace H:=H.keep [0,1,2] rfl
 refine sS H fun K2 k2=>sr 4 rfl<|sg 3 3 10 13 true G G (fun hg4=>sy hg4<|sr 1 rfl<|sy hg4<|sr 1 rfl<|sy hg4<|sr 1 rfl<|sz 3 G G G)<|sa G G G<|sr 1 rfl<|sE ?_;clear H a;intro a H
 refine k2 _ ?_;clear k2 K2
 refine wp_ret ?_
 refine ret1 (fn:=Tryz.f51) rfl H rfl ?_
 exact ⟨rfl,rfl⟩
theorem zA (n:Int) (w:World) :
    Calls Tryz.prog 56 [.int .i64 n].toArray w (Ret (fun v w'=>v = .bool (decide (0≤n)&&decide (n≤4095))∧w'=w)):=by
 refine enter Tryz.func56 rfl Tryz.ntmps56 rfl (fun a H=>?_)
 have S:=St.start w
 refine sS H fun K1 k1=>sr 1 rfl<|sE ?_;clear H a;intro a H
 refine k1 _ ?_;clear k1 K1
 refine sS H fun K2 k2=>sr 1 rfl<|sc rfl Tryz.func51 G G (cI _ _ _ _)<|sr 1 rfl<|sE ?_;clear H a;intro a H
 refine k2 _ ?_;clear k2 K2
 refine wp_ret ?_
 refine ret1 (fn:=Tryz.f56) rfl H rfl ?_
 exact ⟨rfl,rfl⟩
theorem Tx (l:List Int) (A:Option Addr) (cp:Nat) (x:Int) (w:World) (hl:InS w noF 1 A l.length (icl l)) (hn:l.length≤9223372036854775807) :
    Calls Tryz.prog 52 [.slice A l.length cp,.int .i64 x].toArray w (Ret (fun u w'=>u = .bool (hasI l x)∧St w noF [] w')):=by
 refine enter Tryz.func52 rfl Tryz.ntmps52 rfl (fun a H=>?_)
 have S:=St.start w
 refine sS H fun K1 k1=>sr 1 rfl<|sE ?_;clear H a;intro a H
 refine k1 _ ?_;clear k1 K1
 refine wp_seq_k fun K2 k2=>?_
 refine sS H fun K3 k3=>sr 1 rfl<|sE ?_;clear H a;intro a H
 refine k3 _ ?_;clear k3 K3
 refine wp_block ?_
 refine loop_st (X:=Nat) (R0:=_) [0,1] H rfl (fun k=>[(5,.int .i64 (k:Int))]) (fun k=>[]) (fun g k=>k≤l.length∧g+k=l.length∧(l.take k).any (fun y=>decide (x=y))=false) (l.length) 0 ?_ (S.sel [] G G) (H.keep [5,0,1] rfl) ?_
 · exact ⟨by omega,by omega,rfl⟩
 clear H S a
 intro g1 x1 a w1 hp S H K4 k4
 obtain ⟨k,rfl⟩:∃ y,y=x1:=⟨_,rfl⟩
 refine wp_seq_k fun K5 k5=>?_
 refine sS H fun K6 k6=>sr 2 rfl<|sL aT rfl<|sr 1 rfl<|sE ?_;clear H a;intro a H
 refine k6 _ ?_;clear k6 K6
 refine condL H rfl (fun hc1=>?_) (fun hc1=>?_)
 ·skip
  refine wp_skip ?_
  refine k5 _ _ ?_
  refine wp_seq_k fun K7 k7=>?_
  refine wp_block ?_
  replace H:=H.keep [0,1,5] rfl
  refine sS H fun K8 k8=>sr 2 rfl<|si aT bA G G (hl.adr (by omega)) (by omega)<|slm aD rfl (hl.rd S (by omega) (by omega))<|sr 2 rfl<|sE ?_;clear H a;intro a H
  refine k8 _ ?_;clear k8 K8
  refine condE H rfl (fun hc2=>?_) (fun hc2=>?_)
  ·skip
   refine sS H fun K9 k9=>sr 1 rfl<|sE ?_;clear H a;intro a H
   refine k9 _ ?_;clear k9 K9
   refine wp_ret ?_
   refine ret1 (fn:=Tryz.f52) rfl H rfl ?_
   exact ⟨by rw [Ng (k:=k) (by omega) (by omega)],(S.sel [] G G)⟩
  refine wp_skip ?_
  refine k7 _ _ ?_
  replace H:=H.keep [0,1,5] rfl
  refine sO H<|sr 1 rfl<|sd (aK G G (by unfold i64ok;omega))<|sr 1 rfl<|sE ?_;clear H a;intro a H
  exact k4 (g1-1) (k+1) a _ (by omega) (⟨by omega,by omega,Au (by omega) hp.2.2 (by omega)⟩) (S.sel [] G G) (H.keep [5,0,1] rfl)
 refine wp_exit ?_
 refine k2 _ _ ?_
 refine sS H fun K11 k11=>sr 1 rfl<|sE ?_;clear H a;intro a H
 refine k11 _ ?_;clear k11 K11
 refine wp_ret ?_
 refine ret1 (fn:=Tryz.f52) rfl H rfl ?_
 exact ⟨by unfold hasI;rw [←List.take_of_length_le (l:=l) (i:=k) (by omega),hp.2.2],(S.sel [] G G)⟩
theorem mK (pl:Int) (ps:List Psg) (PA:Option Addr) (pc:Nat) (xs:List Int) (XA:Option Addr) (xc:Nat) (w:World) (hps:InS w noF 7 PA ps.length (pcell ps)) (hpn:ps.length≤9223372036854775807) (hxs:InS w noF 1 XA xs.length (icl xs)) (hxn:xs.length≤9223372036854775807) :
    Calls Tryz.prog 27 [.agg [.int .i64 pl,.slice PA ps.length pc,.slice XA xs.length xc].toArray].toArray w (Ret (fun v w'=>v = .int .i64 (stE pl ps xs)∧St w noF [] w')):=by
 refine enter Tryz.func27 rfl Tryz.ntmps27 rfl (fun a H=>?_)
 have S:=St.start w
 refine seq_list fun K1 k1=>?_
 refine aO H rfl S G G ?_;clear H a S;intro b1 _ a hb1 hbw1 S H
 refine ls 1 H<|sr 1 rfl<|sE ?_;clear H a;intro a H
 refine k1 _ _ ?_;clear k1 K1
 refine wp_seq_k fun K2 k2=>?_
 replace H:=H.keep [1] rfl
 refine sS H fun K3 k3=>sf dU rfl<|sl S 0 aD G G G<|sc rfl Tryz.func51 G G (cI _ _ _ _)<|sr 2 rfl<|sg 4 4 11 15 false G G (fun hg5=>by
     have hq5:=hg5;try simp only [o1,o2,o3,o4,o5,o6,o7,o8,o9,oa] at hq5
     exact sy hg5<|sf eO rfl<|sy hg5<|sl S 0 fZ G G G<|sy hg5<|sL fS rfl<|sy hg5<|sr 1 rfl<|sz 4 G G G)<|so G G G<|sE ?_;clear H a;intro a H
 refine k3 _ ?_;clear k3 K3
 refine cond_ H rfl (fun hc1=>?_) (fun hc1=>?_)
 ·skip
  try simp only [o1,o2,o3,o4,o5,o6,o7,o8,o9,oa] at hc1
  replace H:=H.keep [] rfl
  refine sS H fun K4 k4=>sr 1 rfl<|sE ?_;clear H a;intro a H
  refine k4 _ ?_;clear k4 K4
  refine wp_ret ?_
  refine ret1 (fn:=Tryz.f27) rfl H rfl ?_
  exact ⟨congrArg _ (Fo (by omega)).symm,(S.sel [] G G)⟩
 try simp only [o1,o2,o3,o4,o5,o6,o7,o8,o9,oa] at hc1
 refine wp_skip ?_
 refine k2 _ _ ?_
 refine sS H fun K5 k5=>sr 1 rfl<|sE ?_;clear H a;intro a H
 refine k5 _ ?_;clear k5 K5
 refine wp_seq_k fun K6 k6=>?_
 refine sS H fun K7 k7=>sr 1 rfl<|sE ?_;clear H a;intro a H
 refine k7 _ ?_;clear k7 K7
 refine wp_block ?_
 replace S:=S.newNil 3 1 (icl [])
 refine loop_st (X:=Nat×List Int×Option Addr×Nat) (R0:=_) [1] H rfl (fun ⟨k,ml,A9,c9⟩=>[(3,.slice A9 ml.length c9),(4,.int .i64 (k:Int))]) (fun ⟨k,ml,A9,c9⟩=>[ownM 3 1 A9 ml.length c9 (icl ml)]) (fun g ⟨k,ml,A9,c9⟩=>k≤ps.length∧g+k=ps.length∧allN (pasOk pl ps) k=true∧MList ps k ml) (ps.length) (0,[],none,0) ?_ (S.sel [0,1] G G) (H.keep [3,4,1] rfl) ?_
 · exact ⟨by omega,by omega,rfl,MList.nil⟩
 clear H S a
 intro g1 x1 a w1 hp S H K8 k8
 obtain ⟨k,ml,A9,c9⟩:=x1
 dsimp only at hp S H
 obtain ⟨hkl,hgk,hA,hM⟩:=hp
 refine wp_seq_k fun K9 k9=>?_
 refine sS H fun K10 k10=>sr 1 rfl<|sf eO rfl<|sl S 1 fZ G G G<|sL fS rfl<|sr 1 rfl<|sE ?_;clear H a;intro a H
 refine k10 _ ?_;clear k10 K10
 refine condL H rfl (fun hc2=>?_) (fun hc2=>?_)
 ·skip
  refine wp_skip ?_
  refine k9 _ _ ?_
  refine wp_seq_k fun K11 k11=>?_
  refine wp_block ?_
  replace H:=H.keep [1,3,4] rfl
  refine seq_list fun K12 k12=>?_
  refine ls 5 H<|sf eO rfl<|sl S 1 fZ G G G<|sr 1 rfl<|si fS eK G G (hps.adr (by omega)) (by omega)<|sd ((aW jM eK rfl S hps (by omega) (by omega)))<|sE ?_;clear H a;intro a H
  refine aI H rfl S rE ?_;clear H a S;intro b5 _ a hb5 hbw5 S H
  refine aF H S (i:=0) G G G G eK G G ?_
  clear H a S;intro _ a S H
  refine k12 _ _ ?_;clear k12 K12
  refine wp_seq_k fun K13 k13=>?_
  replace H:=H.keep [1,3,4,5] rfl
  refine sS H fun K14 k14=>sf iM rfl<|sl S 0 aD G G G<|sf dU rfl<|sl S 2 aD G G G<|sd (aU G G (by unfold i64ok;omega))<|sc rfl Tryz.func51 G G (cI _ _ _ _)<|sr 2 rfl<|sg 7 7 36 43 false G G (fun hg8=>by
      have hq8:=hg8;try simp only [o1,o2,o3,o4,o5,o6,o7,o8,o9,oa] at hq8
      exact sy hg8<|sf iN rfl<|sy hg8<|sl S 0 aD G G G<|sy hg8<|sf dU rfl<|sy hg8<|sl S 2 aD G G G<|sy hg8<|sd (aU G G (by unfold i64ok;omega))<|sy hg8<|sc rfl Tryz.func51 G G (cI _ _ _ _)<|sy hg8<|sr 1 rfl<|sz 7 G G G)<|so G G G<|sr 1 rfl<|sg 5 16 45 50 false G G (fun hg17=>by
      have hq17:=hg17;try simp only [o1,o2,o3,o4,o5,o6,o7,o8,o9,oa] at hq17
      exact sy hg17<|sf iM rfl<|sy hg17<|sl S 0 aD G G G<|sy hg17<|sf iN rfl<|sy hg17<|sl S 0 aD G G G<|sy hg17<|sr 1 rfl<|sz 5 G G G)<|so G G G<|sr 1 rfl<|sg 4 23 52 56 false G G (fun hg24=>by
      have hq24:=hg24;try simp only [o1,o2,o3,o4,o5,o6,o7,o8,o9,oa] at hq24
      exact sy hg24<|sf oT rfl<|sy hg24<|sl S 0 aD G G G<|sy hg24<|sc rfl Tryz.func51 G G (cI _ _ _ _)<|sy hg24<|sr 1 rfl<|sz 4 G G G)<|so G G G<|sr 1 rfl<|sg 4 29 58 62 false G G (fun hg30=>by
      have hq30:=hg30;try simp only [o1,o2,o3,o4,o5,o6,o7,o8,o9,oa] at hq30
      exact sy hg30<|sf sG rfl<|sy hg30<|sl S 0 aD G G G<|sy hg30<|sc rfl Tryz.func51 G G (cI _ _ _ _)<|sy hg30<|sr 1 rfl<|sz 4 G G G)<|so G G G<|sr 1 rfl<|sg 4 35 64 68 false G G (fun hg36=>by
      have hq36:=hg36;try simp only [o1,o2,o3,o4,o5,o6,o7,o8,o9,oa] at hq36
      exact sy hg36<|sf eP rfl<|sy hg36<|sl S 0 aD G G G<|sy hg36<|sc rfl Tryz.func51 G G (cI _ _ _ _)<|sy hg36<|sr 1 rfl<|sz 4 G G G)<|so G G G<|sE ?_;clear H a;intro a H
  refine k14 _ ?_;clear k14 K14
  refine cond_ H rfl (fun hc3=>?_) (fun hc3=>?_)
  ·skip
   try simp only [o1,o2,o3,o4,o5,o6,o7,o8,o9,oa] at hc3
   replace H:=H.keep [] rfl
   refine sS H fun K15 k15=>sr 1 rfl<|sE ?_;clear H a;intro a H
   refine k15 _ ?_;clear k15 K15
   refine wp_ret ?_
   refine ret1 (fn:=Tryz.f27) rfl H rfl ?_
   exact ⟨congrArg _ (lF (k:=k) (by omega) (by unfold pasOk;rw [Bool.and_eq_false_iff];exact .inl (fL (by omega)))).symm,(S.sel [] G G)⟩
  try simp only [o1,o2,o3,o4,o5,o6,o7,o8,o9,oa] at hc3
  refine wp_skip ?_
  refine k13 _ _ ?_
  refine wp_seq_k fun K16 k16=>?_
  refine sS H fun K17 k17=>sf eP rfl<|sl S 0 aD G G G<|sr 2 rfl<|sg 3 3 73 76 false G G (fun hg4=>by
      have hq4:=hg4;try simp only [o1,o2,o3,o4,o5,o6,o7,o8,o9,oa] at hq4
      exact sy hg4<|sf eP rfl<|sy hg4<|sl S 0 aD G G G<|sy hg4<|sr 1 rfl<|sz 3 G G G)<|so G G G<|sE ?_;clear H a;intro a H
  refine k17 _ ?_;clear k17 K17
  refine cond_ H rfl (fun hc4=>?_) (fun hc4=>?_)
  ·skip
   try simp only [o1,o2,o3,o4,o5,o6,o7,o8,o9,oa] at hc4
   refine wp_seq_k fun K18 k18=>?_
   replace H:=H.keep [1,3,4,5] rfl
   refine seq_list fun K19 k19=>?_
   refine ls 2 H<|sf dO rfl<|sl S 0 aD G G G<|sE ?_;clear H a;intro a H
   refine aA H G G Tryz.func51 G G (cI _ _ _ _) ?_;clear H a
   rintro _ _ a ⟨rfl,rfl⟩ H
   refine ls 2 H<|sr 2 rfl<|sE ?_;clear H a;intro a H
   apply cG (i:=4) (g:=82) (t:=86) (b:=false) 4 H S G G (by kernel_rfl) (by kernel_rfl) G G
   case h1=>
    intro hg5
    have hq5:=hg5;try simp only [o1,o2,o3,o4,o5,o6,o7,o8,o9,oa] at hq5
    refine ls 3 H<|sy hg5<|sr 1 rfl<|sy hg5<|sf dO rfl<|sy hg5<|sl S 0 aD G G G<|sE ?_;intro a H
    refine dC H G G (by assumption) ?_
    refine aA H G G Tryz.func52 G G (Tx ml A9 c9 _ _ (ownM.inS S (i:=1) rfl) (by have:=hM.1;omega)) ?_
    rintro _ _ a ⟨rfl,S2⟩ H
    replace S:=S.call S2;clear S2
    exact wpList_nil ⟨H.strip 4 G G,(S.sel [0,1,2] G G)⟩
   clear H a S;intro a _ H S
   refine ls 1 H<|so G G G<|sE ?_;clear H a;intro a H
   refine k19 _ _ ?_;clear k19 K19
   refine cond_ H rfl (fun hc5=>?_) (fun hc5=>?_)
   ·skip
    try simp only [o1,o2,o3,o4,o5,o6,o7,o8,o9,oa] at hc5
    replace H:=H.keep [] rfl
    refine sS H fun K20 k20=>sr 1 rfl<|sE ?_;clear H a;intro a H
    refine k20 _ ?_;clear k20 K20
    refine wp_ret ?_
    refine ret1 (fn:=Tryz.f27) rfl H rfl ?_
    exact ⟨congrArg _ (lF (k:=k) (by omega) (Tu hM hc5 hc4)).symm,(S.sel [] G G)⟩
   try simp only [o1,o2,o3,o4,o5,o6,o7,o8,o9,oa] at hc5
   have hz:=hM.fresh hc5.1.1 hc5.2
   refine wp_skip ?_
   refine k18 _ _ ?_
   refine one_list ?_
   refine ls 3 H<|sr 1 rfl<|sf dO rfl<|sl S 0 aD G G G<|sE ?_;clear H a;intro a H
   refine aZ H rfl S aT bA fO G G G G G G G G G ?_;clear H a S;intro A1 _ a hA1 S H
   refine bW H rfl S aT bA fO oY G G (i:=2) G G G (ownM.inS S (i:=0) rfl) (mA (w8one rfl)) (by have:=hM.1;omega) (by have:=hM.1;omega) ?_;clear H a S;intro A2 c2 _ a S H
   replace S:=S.recell (i:=2) rfl (cell':=icl (ml++[bI ps k])) (fun q j hq hj=>Eo rfl q j hq hj)
   rw [show ml.length+1=(ml++[bI ps k]).length by simp] at H S
   refine ls 1 H<|sr 1 rfl<|sE ?_;clear H a;intro a H
   refine k16 _ _ ?_
   replace H:=H.keep [1,3,4,5] rfl
   refine sS H fun K22 k22=>sf eP rfl<|sl S 1 aD G G G<|sr 1 rfl<|sE ?_;clear H a;intro a H
   refine k22 _ ?_;clear k22 K22
   refine condE H rfl (fun hc6=>?_) (fun hc6=>?_)
   ·skip
    refine sS H fun K23 k23=>sf kB rfl<|sl S 1 aD G G G<|sc rfl Tryz.func51 G G (cI _ _ _ _)<|sr 1 rfl<|sE ?_;clear H a;intro a H
    refine k23 _ ?_;clear k23 K23
    refine cond_ H rfl (fun hc7=>?_) (fun hc7=>?_)
    ·skip
     try simp only [o1,o2,o3,o4,o5,o6,o7,o8,o9,oa] at hc7
     refine sS H fun K24 k24=>sr 1 rfl<|sE ?_;clear H a;intro a H
     refine k24 _ ?_;clear k24 K24
     refine wp_ret ?_
     refine ret1 (fn:=Tryz.f27) rfl H rfl ?_
     exact ⟨congrArg _ (lF (k:=k) (by omega) (by unfold pasOk;rw [Bool.and_eq_false_iff];exact .inl (fL (by omega)))).symm,(S.sel [] G G)⟩
    try simp only [o1,o2,o3,o4,o5,o6,o7,o8,o9,oa] at hc7
    refine wp_skip ?_
    refine k11 _ _ ?_
    replace H:=H.keep [1,3,4] rfl
    refine sO H<|sr 1 rfl<|sd (aK G G (by unfold i64ok;omega))<|sr 1 rfl<|sE ?_;clear H a;intro a H
    exact k8 (g1-1) (k+1,_,_,_) a _ (by omega) (by first|exact ⟨by omega,by omega,cK hA (pR (dD.2 (by omega)) hz),hM.add⟩|exact ⟨by omega,by omega,cK hA (pS (dD.2 (by omega)) (by omega)),hM.skip (by unfold bI;omega)⟩) (S.sel [2,3] G G) (H.keep [3,4,1] rfl)
   refine sS H fun K26 k26=>sf kB rfl<|sl S 1 aD G G G<|sr 1 rfl<|sE ?_;clear H a;intro a H
   refine k26 _ ?_;clear k26 K26
   refine condN H rfl (fun hc8=>?_) (fun hc8=>?_)
   ·skip
    refine sS H fun K27 k27=>sr 1 rfl<|sE ?_;clear H a;intro a H
    refine k27 _ ?_;clear k27 K27
    refine wp_ret ?_
    refine ret1 (fn:=Tryz.f27) rfl H rfl ?_
    exact ⟨congrArg _ (lF (k:=k) (by omega) (by unfold pasOk;rw [Bool.and_eq_false_iff];exact .inl (fL (by omega)))).symm,(S.sel [] G G)⟩
   refine wp_skip ?_
   refine k11 _ _ ?_
   replace H:=H.keep [1,3,4] rfl
   refine sO H<|sr 1 rfl<|sd (aK G G (by unfold i64ok;omega))<|sr 1 rfl<|sE ?_;clear H a;intro a H
   exact k8 (g1-1) (k+1,_,_,_) a _ (by omega) (by first|exact ⟨by omega,by omega,cK hA (pR (dD.2 (by omega)) hz),hM.add⟩|exact ⟨by omega,by omega,cK hA (pS (dD.2 (by omega)) (by omega)),hM.skip (by unfold bI;omega)⟩) (S.sel [2,3] G G) (H.keep [3,4,1] rfl)
  try simp only [o1,o2,o3,o4,o5,o6,o7,o8,o9,oa] at hc4
  refine sS H fun K29 k29=>sf dO rfl<|sl S 0 aD G G G<|sr 1 rfl<|sE ?_;clear H a;intro a H
  refine k29 _ ?_;clear k29 K29
  refine condN H rfl (fun hc9=>?_) (fun hc9=>?_)
  ·skip
   refine sS H fun K30 k30=>sr 1 rfl<|sE ?_;clear H a;intro a H
   refine k30 _ ?_;clear k30 K30
   refine wp_ret ?_
   refine ret1 (fn:=Tryz.f27) rfl H rfl ?_
   exact ⟨congrArg _ (lF (k:=k) (by omega) (by unfold pasOk;rw [Bool.and_eq_false_iff];exact .inl (fL (by omega)))).symm,(S.sel [] G G)⟩
  refine wp_skip ?_
  refine k16 _ _ ?_
  replace H:=H.keep [1,3,4,5] rfl
  refine sS H fun K31 k31=>sf eP rfl<|sl S 0 aD G G G<|sr 1 rfl<|sE ?_;clear H a;intro a H
  refine k31 _ ?_;clear k31 K31
  refine condE H rfl (fun hc10=>?_) (fun hc10=>?_)
  ·skip
   refine sS H fun K32 k32=>sf kB rfl<|sl S 0 aD G G G<|sc rfl Tryz.func51 G G (cI _ _ _ _)<|sr 1 rfl<|sE ?_;clear H a;intro a H
   refine k32 _ ?_;clear k32 K32
   refine cond_ H rfl (fun hc11=>?_) (fun hc11=>?_)
   ·skip
    try simp only [o1,o2,o3,o4,o5,o6,o7,o8,o9,oa] at hc11
    refine sS H fun K33 k33=>sr 1 rfl<|sE ?_;clear H a;intro a H
    refine k33 _ ?_;clear k33 K33
    refine wp_ret ?_
    refine ret1 (fn:=Tryz.f27) rfl H rfl ?_
    exact ⟨congrArg _ (lF (k:=k) (by omega) (by unfold pasOk;rw [Bool.and_eq_false_iff];exact .inl (fL (by omega)))).symm,(S.sel [] G G)⟩
   try simp only [o1,o2,o3,o4,o5,o6,o7,o8,o9,oa] at hc11
   refine wp_skip ?_
   refine k11 _ _ ?_
   replace H:=H.keep [1,3,4] rfl
   refine sO H<|sr 1 rfl<|sd (aK G G (by unfold i64ok;omega))<|sr 1 rfl<|sE ?_;clear H a;intro a H
   exact k8 (g1-1) (k+1,_,_,_) a _ (by omega) (by first|exact ⟨by omega,by omega,cK hA (pR (dD.2 (by omega)) hz),hM.add⟩|exact ⟨by omega,by omega,cK hA (pS (dD.2 (by omega)) (by omega)),hM.skip (by unfold bI;omega)⟩) (S.sel [1,2] G G) (H.keep [3,4,1] rfl)
  refine sS H fun K35 k35=>sf kB rfl<|sl S 0 aD G G G<|sr 1 rfl<|sE ?_;clear H a;intro a H
  refine k35 _ ?_;clear k35 K35
  refine condN H rfl (fun hc12=>?_) (fun hc12=>?_)
  ·skip
   refine sS H fun K36 k36=>sr 1 rfl<|sE ?_;clear H a;intro a H
   refine k36 _ ?_;clear k36 K36
   refine wp_ret ?_
   refine ret1 (fn:=Tryz.f27) rfl H rfl ?_
   exact ⟨congrArg _ (lF (k:=k) (by omega) (by unfold pasOk;rw [Bool.and_eq_false_iff];exact .inl (fL (by omega)))).symm,(S.sel [] G G)⟩
  refine wp_skip ?_
  refine k11 _ _ ?_
  replace H:=H.keep [1,3,4] rfl
  refine sO H<|sr 1 rfl<|sd (aK G G (by unfold i64ok;omega))<|sr 1 rfl<|sE ?_;clear H a;intro a H
  exact k8 (g1-1) (k+1,_,_,_) a _ (by omega) (by first|exact ⟨by omega,by omega,cK hA (pR (dD.2 (by omega)) hz),hM.add⟩|exact ⟨by omega,by omega,cK hA (pS (dD.2 (by omega)) (by omega)),hM.skip (by unfold bI;omega)⟩) (S.sel [1,2] G G) (H.keep [3,4,1] rfl)
 refine wp_exit ?_
 refine k6 _ _ ?_
 refine wp_seq_k fun K38 k38=>?_
 refine sS H fun K39 k39=>sr 1 rfl<|sE ?_;clear H a;intro a H
 refine k39 _ ?_;clear k39 K39
 refine wp_block ?_
 refine loop_st (X:=Nat) (R0:=_) [1] H rfl (fun k2=>[(6,.int .i64 (k2:Int))]) (fun k2=>[]) (fun g k2=>k2≤xs.length∧g+k2=xs.length∧allN (exOk pl xs) k2=true) (xs.length) 0 ?_ (S.sel [0,1] G G) (H.keep [6,1] rfl) ?_
 · exact ⟨by omega,by omega,rfl⟩
 clear H S a
 intro g2 x2 a w2 hp S H K40 k40
 obtain ⟨k2,rfl⟩:∃ y,y=x2:=⟨_,rfl⟩
 refine wp_seq_k fun K41 k41=>?_
 refine sS H fun K42 k42=>sr 1 rfl<|sf iJ rfl<|sl S 1 bM G G G<|sL aT rfl<|sr 1 rfl<|sE ?_;clear H a;intro a H
 refine k42 _ ?_;clear k42 K42
 refine condL H rfl (fun hc13=>?_) (fun hc13=>?_)
 ·skip
  refine wp_skip ?_
  refine k41 _ _ ?_
  refine wp_seq_k fun K43 k43=>?_
  refine wp_block ?_
  replace H:=H.keep [1,6] rfl
  replace S:=S.drew
  refine sD H fun K44 k44=>sf iJ rfl<|sl S 1 bM G G G<|sr 1 rfl<|si aT bA G G (hxs.adr (by omega)) (by omega)<|slm aD rfl (hxs.rd S (by omega) (by omega))<|sf dU rfl<|sl S 1 aD G G G<|sd (aU G G (by unfold i64ok;omega))<|sc rfl Tryz.func51 G G (cI _ _ _ _)<|sr 2 rfl<|sg 16 10 123 139 false G G (fun hg11=>by
      have hq11:=hg11;try simp only [o1,o2,o3,o4,o5,o6,o7,o8,o9,oa] at hq11
      exact sy hg11<|sr 1 rfl<|sy hg11<|sr 1 rfl<|sy hg11<|sr 1 rfl<|sg 12 13 126 138 true G G (fun hg14=>by
           have hq14:=hg14;try simp only [o1,o2,o3,o4,o5,o6,o7,o8,o9,oa] at hq14
           exact sy hg14<|sf iJ rfl<|sy hg14<|sl S 1 bM G G G<|sy hg14<|sr 1 rfl<|sy hg14<|si aT bA G G (hxs.adr (by omega)) (by omega)<|sy hg14<|slm aD rfl (hxs.rd S (by omega) (by omega))<|sy hg14<|sf iJ rfl<|sy hg14<|sl S 1 bM G G G<|sy hg14<|sr 1 rfl<|sy hg14<|sd (aU G G (by unfold i64ok;omega))<|sy hg14<|sI aT bA G G (hxs.adr (by omega)) (by omega) (by omega)<|sy hg14<|slm aD rfl (hxs.rd S (by omega) (by omega))<|sy hg14<|sr 1 rfl<|sz 12 G G G)<|sy hg11<|sa G G G<|sz 5 G G G)<|so G G G<|sE ?_;clear H a;intro a H
  refine k44 _ ?_;clear k44 K44
  refine cond_ H rfl (fun hc14=>?_) (fun hc14=>?_)
  ·skip
   try simp only [o1,o2,o3,o4,o5,o6,o7,o8,o9,oa] at hc14
   rw [show ((k2:Int)-1).toNat=k2-1 by omega] at hc14
   replace H:=H.keep [] rfl
   refine sS H fun K45 k45=>sr 1 rfl<|sE ?_;clear H a;intro a H
   refine k45 _ ?_;clear k45 K45
   refine wp_ret ?_
   refine ret1 (fn:=Tryz.f27) rfl H rfl ?_
   exact ⟨congrArg _ (Vg (k:=k2) (by omega) (Tw (by omega))).symm,(S.sel [] G G)⟩
  try simp only [o1,o2,o3,o4,o5,o6,o7,o8,o9,oa] at hc14
  rw [show ((k2:Int)-1).toNat=k2-1 by omega] at hc14
  refine wp_skip ?_
  refine k43 _ _ ?_
  refine sO H<|sr 1 rfl<|sd (aK G G (by unfold i64ok;omega))<|sr 1 rfl<|sE ?_;clear H a;intro a H
  exact k40 (g2-1) (k2+1) a _ (by omega) (⟨by omega,by omega,cK hp.2.2 (Tv (by omega))⟩) (S.sel [0,1] G G) (H.keep [6,1] rfl)
 refine wp_exit ?_
 refine k38 _ _ ?_
 refine sS H fun K47 k47=>sr 1 rfl<|sE ?_;clear H a;intro a H
 refine k47 _ ?_;clear k47 K47
 refine wp_ret ?_
 refine ret1 (fn:=Tryz.f27) rfl H rfl ?_
 have hk9:k=ps.length:=by omega
 have hk8:k2=xs.length:=by omega
 exact ⟨congrArg _ (Vh (by omega) (hk9 ▸ hA) (hk8 ▸ hp.2.2)).symm,(S.sel [] G G)⟩
end
section
theorem pT (pl:Int) (ps:List Psg) (PA:Option Addr) (pc:Nat) (xs:List Int) (XA:Option Addr) (xc:Nat) (pe:List Int) (BA:Option Addr) (bc:Nat) (w:World) (hpe:InS w noF 1 BA pe.length (icl pe)) (hpen:pe.length≤9223372036854775807) :
    Calls Tryz.prog 57 [.agg [.int .i64 pl,.slice PA ps.length pc,.slice XA xs.length xc].toArray,.slice BA pe.length bc].toArray w (Ret (fun v w'=>v = .bool (eG pl pe)∧St w noF [] w')):=by
 refine enter Tryz.func57 rfl Tryz.ntmps57 rfl (fun a H=>?_)
 have S:=St.start w
 refine seq_list fun K1 k1=>?_
 refine aO H rfl S G G ?_;clear H a S;intro b2 _ a hb2 hbw2 S H
 refine ls 1 H<|sr 1 rfl<|sE ?_;clear H a;intro a H
 refine k1 _ _ ?_;clear k1 K1
 refine wp_seq_k fun K2 k2=>?_
 refine sS H fun K3 k3=>sr 1 rfl<|sE ?_;clear H a;intro a H
 refine k3 _ ?_;clear k3 K3
 refine wp_block ?_
 refine loop_st (X:=Nat) (R0:=_) [1,2] H rfl (fun k=>[(5,.int .i64 (k:Int))]) (fun k=>[]) (fun g k=>k≤pe.length∧g+k=pe.length∧allN (fun k=>decide (0≤pe.getD k 0∧pe.getD k 0≤1000)) k=true) (pe.length) 0 ?_ (S.sel [0] G G) (H.keep [5,1,2] rfl) ?_
 · exact ⟨by omega,by omega,rfl⟩
 clear H S a
 intro g1 x1 a w1 hp S H K4 k4
 obtain ⟨k,rfl⟩:∃ y,y=x1:=⟨_,rfl⟩
 refine wp_seq_k fun K5 k5=>?_
 refine sS H fun K6 k6=>sr 2 rfl<|sL aT rfl<|sr 1 rfl<|sE ?_;clear H a;intro a H
 refine k6 _ ?_;clear k6 K6
 refine condL H rfl (fun hc1=>?_) (fun hc1=>?_)
 ·skip
  refine wp_skip ?_
  refine k5 _ _ ?_
  refine wp_seq_k fun K7 k7=>?_
  refine wp_block ?_
  replace H:=H.keep [1,2,5] rfl
  refine sS H fun K8 k8=>sr 2 rfl<|si aT bA G G (hpe.adr (by omega)) (by omega)<|slm aD rfl (hpe.rd S (by omega) (by omega))<|sc rfl Tryz.func51 G G (cI _ _ _ _)<|sr 1 rfl<|sE ?_;clear H a;intro a H
  refine k8 _ ?_;clear k8 K8
  refine cond_ H rfl (fun hc2=>?_) (fun hc2=>?_)
  ·skip
   try simp only [o1,o2,o3,o4,o5,o6,o7,o8,o9,oa] at hc2
   refine sS H fun K9 k9=>sr 1 rfl<|sE ?_;clear H a;intro a H
   refine k9 _ ?_;clear k9 K9
   refine wp_ret ?_
   refine ret1 (fn:=Tryz.f57) rfl H rfl ?_
   refine ⟨congrArg Value.bool ?_,(S.sel [] G G)⟩;unfold eG;rw [gC (k:=k) (by omega) (by rw [decide_eq_false_iff_not];omega)];rfl
  try simp only [o1,o2,o3,o4,o5,o6,o7,o8,o9,oa] at hc2
  refine wp_skip ?_
  refine k7 _ _ ?_
  replace H:=H.keep [1,2,5] rfl
  refine sO H<|sr 1 rfl<|sd (aK G G (by unfold i64ok;omega))<|sr 1 rfl<|sE ?_;clear H a;intro a H
  exact k4 (g1-1) (k+1) a _ (by omega) (⟨by omega,by omega,cK hp.2.2 (by rw [decide_eq_true_eq];omega)⟩) (S.sel [0] G G) (H.keep [5,1,2] rfl)
 refine wp_exit ?_
 refine k2 _ _ ?_
 refine sS H fun K11 k11=>sr 1 rfl<|sL aT rfl<|sf dU rfl<|sl S 0 aD G G G<|sr 2 rfl<|sE ?_;clear H a;intro a H
 refine k11 _ ?_;clear k11 K11
 refine wp_ret ?_
 refine ret1 (fn:=Tryz.f57) rfl H rfl ?_
 refine ⟨congrArg Value.bool ?_,(S.sel [] G G)⟩;unfold eG;rw [show pe.length=k by omega,hp.2.2,Bool.true_and]
theorem zB (pl:Int) (ps:List Psg) (PA:Option Addr) (pc:Nat) (xs:List Int) (XA:Option Addr) (xc:Nat) (day:List Hq) (HA:Option Addr) (hcp:Nat) (DA:Nat→Option Addr) (dc:Nat→Nat) (w:World) (hps:InS w noF 7 PA ps.length (pcell ps)) (hpn:ps.length≤9223372036854775807) (hxs:InS w noF 1 XA xs.length (icl xs)) (hxn:xs.length≤9223372036854775807) (hday:InS w noF 3 HA day.length (hcl day DA dc)) (hdn:day.length≤9223372036854775807) (hdp:∀ k,k<day.length→InS w noF 1 (DA k) (day.getD k Hq.zero).pe.length (icl (day.getD k Hq.zero).pe)) (hdl:∀ k,k<day.length→(day.getD k Hq.zero).pe.length≤9223372036854775807) :
    Calls Tryz.prog 53 [.agg [.int .i64 pl,.slice PA ps.length pc,.slice XA xs.length xc].toArray,.slice HA day.length hcp].toArray w (Ret (fun v w'=>v = .int .i64 (dayE pl ps xs day)∧St w noF [] w')):=by
 refine enter Tryz.func53 rfl Tryz.ntmps53 rfl (fun a H=>?_)
 have S:=St.start w
 refine seq_list fun K1 k1=>?_
 refine aO H rfl S G G ?_;clear H a S;intro b2 _ a hb2 hbw2 S H
 refine ls 1 H<|sr 1 rfl<|sE ?_;clear H a;intro a H
 refine k1 _ _ ?_;clear k1 K1
 refine seq_list fun K2 k2=>?_
 refine ls 1 H<|sd ((aC cA cZ rfl S (i:=0) G G))<|sE ?_;clear H a;intro a H
 refine aA H G G Tryz.func27 G G (mK pl ps PA pc xs XA xc _ (hps.now S) hpn (hxs.now S) hxn) ?_;clear H a
 rintro _ _ a ⟨rfl,S2⟩ H
 replace S:=S.call S2;clear S2
 refine ls 1 H<|sr 1 rfl<|sE ?_;clear H a;intro a H
 refine k2 _ _ ?_;clear k2 K2
 refine wp_seq_k fun K3 k3=>?_
 refine sS H fun K4 k4=>sr 2 rfl<|sE ?_;clear H a;intro a H
 refine k4 _ ?_;clear k4 K4
 refine condN H rfl (fun hc1=>?_) (fun hc1=>?_)
 ·skip
  refine sS H fun K5 k5=>sr 2 rfl<|sE ?_;clear H a;intro a H
  refine k5 _ ?_;clear k5 K5
  refine wp_ret ?_
  refine ret1 (fn:=Tryz.f53) rfl H rfl ?_
  refine ⟨congrArg (Value.int .i64) ?_,(S.sel [] G G)⟩;unfold dayE;rw [if_pos hc1]
 have hst:stE pl ps xs=0:=by omega
 refine wp_skip ?_
 refine k3 _ _ ?_
 refine wp_seq_k fun K6 k6=>?_
 replace H:=H.keep [1,2] rfl
 refine sS H fun K7 k7=>sr 1 rfl<|sL kH rfl<|sr 1 rfl<|sE ?_;clear H a;intro a H
 refine k7 _ ?_;clear k7 K7
 refine condL H rfl (fun hc2=>?_) (fun hc2=>?_)
 ·skip
  refine sS H fun K8 k8=>sr 1 rfl<|sE ?_;clear H a;intro a H
  refine k8 _ ?_;clear k8 K8
  refine wp_ret ?_
  refine ret1 (fn:=Tryz.f53) rfl H rfl ?_
  refine ⟨congrArg (Value.int .i64) ?_,(S.sel [] G G)⟩;unfold dayE;rw [if_neg (by omega),if_neg];unfold dayOk;rw [decide_eq_false (p:=day.length≤48) (by omega),Bool.and_false];simp
 refine wp_skip ?_
 refine k6 _ _ ?_
 refine wp_seq_k fun K9 k9=>?_
 refine sS H fun K10 k10=>sr 1 rfl<|sE ?_;clear H a;intro a H
 refine k10 _ ?_;clear k10 K10
 refine wp_block ?_
 refine loop_st (X:=Nat) (R0:=_) [1,2] H rfl (fun k=>[(6,.int .i64 (k:Int))]) (fun k=>[]) (fun g k=>k≤day.length∧g+k=day.length∧allN (fun k=>hqOk pl (day.getD k Hq.zero)) k=true) (day.length) 0 ?_ (S.sel [0] G G) (H.keep [6,1,2] rfl) ?_
 · exact ⟨by omega,by omega,rfl⟩
 clear H S a
 intro g1 x1 a w1 hp S H K11 k11
 obtain ⟨k,rfl⟩:∃ y,y=x1:=⟨_,rfl⟩
 refine wp_seq_k fun K12 k12=>?_
 refine sS H fun K13 k13=>sr 2 rfl<|sL kH rfl<|sr 1 rfl<|sE ?_;clear H a;intro a H
 refine k13 _ ?_;clear k13 K13
 refine condL H rfl (fun hc3=>?_) (fun hc3=>?_)
 ·skip
  refine wp_skip ?_
  refine k12 _ _ ?_
  refine wp_seq_k fun K14 k14=>?_
  refine wp_block ?_
  by_cases hB:0≤(day.getD k Hq.zero).out∧(day.getD k Hq.zero).out≤4095
  ·skip
   replace H:=H.keep [1,2,6] rfl
   replace S:=S.drew
   refine seq_wq [(0,true),(1,true),(2,true),(3,true),(4,true),(5,false),(6,true),(7,true),(8,true),(9,true),(10,true),(11,true),(12,true),(13,true),(14,false),(15,true),(16,true)] (by kernel_rfl) (by kernel_rfl) (S.sel [0] G G) fun K15 k15=>?_
   refine qF H<|qr 2 rfl<|qd rfl (fun _ S=>bC kH lB G G (hday.adr (by omega)) (by omega))<|qd rfl (fun _ S=>(bP oX rfl))<|qd rfl (fun _ S=>aE aD rfl (hday.rd S (by omega) (by omega)))<|qK ?_;clear H a;intro a H
   refine aS rfl ?_
   refine aA H G G Tryz.func56 G G (zA _ _) ?_;clear H a
   rintro _ _ a ⟨rfl,rfl⟩ H
   rw [decide_eq_true hB.1,decide_eq_true hB.2,Bool.and_self] at H
   refine wpList_nil (And.intro (S.sel [0] G G) ?_)
   refine qF H<|qr 2 rfl<|qK ?_;clear H a;intro a H
   refine aG H G G G G (fun _ S=>(aC cA cZ rfl S (i:=0) G G)) ?_;clear H a;intro a H
   refine aG H G G G G (fun _ S=>aL rfl) ?_;clear H a;intro a H
   refine aG H G G G G (fun _ S=>aL rfl) ?_;clear H a;intro a H
   refine aG H G G G G (fun _ S=>bC kH lB G G (hday.adr (by omega)) (by omega)) ?_;clear H a;intro a H
   refine aG H G G G G (fun _ S=>(bP Aj rfl)) ?_;clear H a;intro a H
   refine aG H G G G G (fun _ S=>aE bM rfl (hday.rd S (by omega) (by omega))) ?_;clear H a;intro a H
   refine aS rfl ?_
   refine aX H G G ?_
   refine aA H G G Tryz.func57 G G (pT pl ps PA pc xs XA xc (day.getD k Hq.zero).pe (DA k) (dc k) _ ((hdp k (by omega)).now S) (hdl k (by omega))) ?_;clear H a
   rintro _ _ a ⟨rfl,S2⟩ H
   replace S:=S.call S2;clear S2
   refine wpList_nil (And.intro (S.sel [0] G G) ?_)
   refine aG H G G G G (fun _ S=>cL rfl) ?_;clear H a;intro a H
   refine qF H<|qd rfl (fun _ S=>(aY G G G))<|qK ?_;clear H a;intro a H
   refine bF ?_
   refine k15 _ _ ?_
   clear k15 K15
   refine cond_ H rfl (fun hc4=>?_) (fun hc4=>?_)
   ·skip
    try simp only [o1,o2,o3,o4,o5,o6,o7,o8,o9,oa] at hc4
    replace H:=H.keep [] rfl
    refine sS H fun K16 k16=>sr 1 rfl<|sE ?_;clear H a;intro a H
    refine k16 _ ?_;clear k16 K16
    refine wp_ret ?_
    refine ret1 (fn:=Tryz.f53) rfl H rfl ?_
    refine ⟨congrArg (Value.int .i64) ?_,(S.sel [] G G)⟩;unfold dayE;rw [if_neg (by omega),uF (k:=k) (by omega) (by unfold hqOk;rw [hc4.resolve_left (by simp),Bool.and_false])];rfl
   try simp only [o1,o2,o3,o4,o5,o6,o7,o8,o9,oa] at hc4
   refine wp_skip ?_
   refine k14 _ _ ?_
   refine sO H<|sr 1 rfl<|sd (aK G G (by unfold i64ok;omega))<|sr 1 rfl<|sE ?_;clear H a;intro a H
   exact k11 (g1-1) (k+1) a _ (by omega) (⟨by omega,by omega,cK hp.2.2 (by unfold hqOk;rw [decide_eq_true hB,hc4.2];rfl)⟩) (S.sel [0] G G) (H.keep [6,1,2] rfl)
  replace H:=H.keep [1,2,6] rfl
  replace S:=S.drew
  refine seq_wq [(0,true),(1,true),(2,true),(3,true),(4,true),(5,false),(6,true),(7,true),(8,true),(9,true),(10,true),(11,true),(12,true),(13,true),(14,true),(15,true),(16,true)] (by kernel_rfl) (by kernel_rfl) (S.sel [0] G G) fun K18 k18=>?_
  refine qF H<|qr 2 rfl<|qd rfl (fun _ S=>bC kH lB G G (hday.adr (by omega)) (by omega))<|qd rfl (fun _ S=>(bP oX rfl))<|qd rfl (fun _ S=>aE aD rfl (hday.rd S (by omega) (by omega)))<|qK ?_;clear H a;intro a H
  refine aS rfl ?_
  refine aA H G G Tryz.func56 G G (zA _ _) ?_;clear H a
  rintro _ _ a ⟨rfl,rfl⟩ H
  rw [Bool.and_eq_false_iff.2 (by simp only [decide_eq_false_iff_not];omega)] at H
  refine wpList_nil (And.intro (S.sel [0] G G) ?_)
  refine qF H<|qr 2 rfl<|qK ?_;clear H a;intro a H
  refine aJ H G G G G G ?_;clear H a;intro a H
  refine aJ H G G G G G ?_;clear H a;intro a H
  refine aJ H G G G G G ?_;clear H a;intro a H
  refine aJ H G G G G G ?_;clear H a;intro a H
  refine aJ H G G G G G ?_;clear H a;intro a H
  refine aJ H G G G G G ?_;clear H a;intro a H
  refine aJ H G G G G G ?_;clear H a;intro a H
  refine aJ H G G G G G ?_;clear H a;intro a H
  refine qF H<|qd rfl (fun _ S=>(aR G G G))<|qK ?_;clear H a;intro a H
  refine bF ?_
  refine k18 _ _ ?_
  clear k18 K18
  refine cond_ H rfl (fun hc5=>?_) (fun hc5=>?_)
  ·skip
   skip
   replace H:=H.keep [] rfl
   refine sS H fun K19 k19=>sr 1 rfl<|sE ?_;clear H a;intro a H
   refine k19 _ ?_;clear k19 K19
   refine wp_ret ?_
   refine ret1 (fn:=Tryz.f53) rfl H rfl ?_
   refine ⟨congrArg (Value.int .i64) ?_,(S.sel [] G G)⟩;unfold dayE;rw [if_neg (by omega),uF (k:=k) (by omega) (by unfold hqOk;rw [decide_eq_false hB];rfl)];rfl
  skip
  cases hc5
 refine wp_exit ?_
 refine k9 _ _ ?_
 refine sS H fun K20 k20=>sr 1 rfl<|sE ?_;clear H a;intro a H
 refine k20 _ ?_;clear k20 K20
 refine wp_ret ?_
 refine ret1 (fn:=Tryz.f53) rfl H rfl ?_
 obtain rfl:k=day.length:=by omega
 exact ⟨congrArg (Value.int .i64) (wH hst (by rw [Aw hp.2.2];exact decide_eq_true (by omega))).symm,(S.sel [] G G)⟩
theorem pU (pl:Int) (ps:List Psg) (PA:Option Addr) (pc:Nat) (xs:List Int) (XA:Option Addr) (xc:Nat) (day:List Hq) (HA:Option Addr) (hcp:Nat) (DA:Nat→Option Addr) (dc:Nat→Nat) (l:List Prm) (LA:Option Addr) (lc:Nat) (w:World) (hps:InS w noF 7 PA ps.length (pcell ps)) (hpn:ps.length≤9223372036854775807) (hxs:InS w noF 1 XA xs.length (icl xs)) (hxn:xs.length≤9223372036854775807) (hday:InS w noF 3 HA day.length (hcl day DA dc)) (hdn:day.length≤9223372036854775807) (hdp:∀ k,k<day.length→InS w noF 1 (DA k) (day.getD k Hq.zero).pe.length (icl (day.getD k Hq.zero).pe)) (hdl:∀ k,k<day.length→(day.getD k Hq.zero).pe.length≤9223372036854775807) (hl:InS w noF 5 LA l.length (nW l)) (hln:l.length≤9223372036854775807) :
    Calls Tryz.prog 28 [.agg [.int .i64 pl,.slice PA ps.length pc,.slice XA xs.length xc].toArray,.slice HA day.length hcp,.slice LA l.length lc].toArray w (Ret (fun v w'=>v = .int .i64 (keptE pl ps xs day l)∧St w noF [] w')):=by
 refine enter Tryz.func28 rfl Tryz.ntmps28 rfl (fun a H=>?_)
 have S:=St.start w
 refine seq_list fun K1 k1=>?_
 refine aO H rfl S G G ?_;clear H a S;intro b3 _ a hb3 hbw3 S H
 refine ls 1 H<|sr 1 rfl<|sE ?_;clear H a;intro a H
 refine k1 _ _ ?_;clear k1 K1
 refine seq_list fun K2 k2=>?_
 refine ls 2 H<|sd ((aC cA cZ rfl S (i:=0) G G))<|sr 1 rfl<|sE ?_;clear H a;intro a H
 refine aA H G G Tryz.func53 G G (zB pl ps PA pc xs XA xc day HA hcp DA dc _ (hps.now S) hpn (hxs.now S) hxn (hday.now S) hdn (fun k hk=>(hdp k hk).now S) hdl) ?_;clear H a
 rintro _ _ a ⟨rfl,S2⟩ H
 replace S:=S.call S2;clear S2
 refine ls 1 H<|sr 1 rfl<|sE ?_;clear H a;intro a H
 refine k2 _ _ ?_;clear k2 K2
 refine wp_seq_k fun K3 k3=>?_
 refine sS H fun K4 k4=>sr 2 rfl<|sE ?_;clear H a;intro a H
 refine k4 _ ?_;clear k4 K4
 refine condN H rfl (fun hc1=>?_) (fun hc1=>?_)
 ·skip
  replace H:=H.keep [7] rfl
  refine sS H fun K5 k5=>sr 2 rfl<|sE ?_;clear H a;intro a H
  refine k5 _ ?_;clear k5 K5
  refine wp_ret ?_
  refine ret1 (fn:=Tryz.f28) rfl H rfl ?_
  refine ⟨congrArg (Value.int .i64) ?_,(S.sel [] G G)⟩;unfold keptE;rw [if_pos hc1]
 have hdE:dayE pl ps xs day=0:=by omega
 have hV:=gV (pE hdE).1
 have hP10:=hV.size
 refine wp_skip ?_
 refine k3 _ _ ?_
 refine wp_seq_k fun K6 k6=>?_
 refine sS H fun K7 k7=>sr 1 rfl<|sL lV rfl<|sr 1 rfl<|sE ?_;clear H a;intro a H
 refine k7 _ ?_;clear k7 K7
 refine condL H rfl (fun hc2=>?_) (fun hc2=>?_)
 ·skip
  refine sS H fun K8 k8=>sr 1 rfl<|sE ?_;clear H a;intro a H
  refine k8 _ ?_;clear k8 K8
  refine wp_ret ?_
  refine ret1 (fn:=Tryz.f28) rfl H rfl ?_
  exact ⟨congrArg (Value.int .i64) (mY hdE (Ax (by omega))).symm,(S.sel [] G G)⟩
 refine wp_skip ?_
 refine k6 _ _ ?_
 refine wp_seq_k fun K9 k9=>?_
 refine sS H fun K10 k10=>sr 1 rfl<|sE ?_;clear H a;intro a H
 refine k10 _ ?_;clear k10 K10
 refine wp_block ?_
 refine loop_st (X:=Nat) (R0:=_) [2,3] H rfl (fun k=>[(8,.int .i64 (k:Int))]) (fun k=>[]) (fun g k=>k≤l.length∧g+k=l.length∧allN (fun k=>prmOk pl (l.getD k Prm.zero)) k=true) (l.length) 0 ?_ (S.sel [0] G G) (H.keep [8,2,3] rfl) ?_
 · exact ⟨by omega,by omega,rfl⟩
 clear H S a
 intro g1 x1 a w1 hp S H K11 k11
 obtain ⟨k,rfl⟩:∃ y,y=x1:=⟨_,rfl⟩
 refine wp_seq_k fun K12 k12=>?_
 refine sS H fun K13 k13=>sr 2 rfl<|sL lV rfl<|sr 1 rfl<|sE ?_;clear H a;intro a H
 refine k13 _ ?_;clear k13 K13
 refine condL H rfl (fun hc3=>?_) (fun hc3=>?_)
 ·skip
  refine wp_skip ?_
  refine k12 _ _ ?_
  refine wp_seq_k fun K14 k14=>?_
  refine wp_block ?_
  replace H:=H.keep [2,3,8] rfl
  refine seq_list fun K15 k15=>?_
  refine ls 4 H<|sr 2 rfl<|si lV iV G G (hl.adr (by omega)) (by omega)<|sd ((aW rT iV rfl S hl (by omega) (by omega)))<|sE ?_;clear H a;intro a H
  refine aI H rfl S xZ ?_;clear H a S;intro b9 _ a hb9 hbw9 S H
  refine aF H S (i:=0) G G G G iV G G ?_
  clear H a S;intro _ a S H
  refine k15 _ _ ?_;clear k15 K15
  replace H:=H.keep [2,3,8,9] rfl
  refine sS H fun K16 k16=>sf lW rfl<|sl S 0 aD G G G<|sf dU rfl<|sl S 1 aD G G G<|sd (aU G G (by unfold i64ok;omega))<|sc rfl Tryz.func51 G G (cI _ _ _ _)<|sr 2 rfl<|sg 7 7 36 43 false G G (fun hg8=>by
      have hq8:=hg8;try simp only [o1,o2,o3,o4,o5,o6,o7,o8,o9,oa] at hq8
      exact sy hg8<|sf lX rfl<|sy hg8<|sl S 0 aD G G G<|sy hg8<|sf dU rfl<|sy hg8<|sl S 1 aD G G G<|sy hg8<|sd (aU G G (by unfold i64ok;omega))<|sy hg8<|sc rfl Tryz.func51 G G (cI _ _ _ _)<|sy hg8<|sr 1 rfl<|sz 7 G G G)<|so G G G<|sr 1 rfl<|sg 6 16 45 51 false G G (fun hg17=>by
      have hq17:=hg17;try simp only [o1,o2,o3,o4,o5,o6,o7,o8,o9,oa] at hq17
      exact sy hg17<|sf lY rfl<|sy hg17<|sl S 0 aD G G G<|sy hg17<|sf kP rfl<|sy hg17<|sl S 0 aD G G G<|sy hg17<|sc rfl Tryz.func51 G G (cI _ _ _ _)<|sy hg17<|sr 1 rfl<|sz 6 G G G)<|so G G G<|sr 1 rfl<|sg 3 24 53 56 false G G (fun hg25=>by
      have hq25:=hg25;try simp only [o1,o2,o3,o4,o5,o6,o7,o8,o9,oa] at hq25
      exact sy hg25<|sf kP rfl<|sy hg25<|sl S 0 aD G G G<|sy hg25<|sr 1 rfl<|sz 3 G G G)<|so G G G<|sE ?_;clear H a;intro a H
  refine k16 _ ?_;clear k16 K16
  refine cond_ H rfl (fun hc4=>?_) (fun hc4=>?_)
  ·skip
   try simp only [o1,o2,o3,o4,o5,o6,o7,o8,o9,oa] at hc4
   replace H:=H.keep [] rfl
   refine sS H fun K17 k17=>sr 1 rfl<|sE ?_;clear H a;intro a H
   refine k17 _ ?_;clear k17 K17
   refine wp_ret ?_
   refine ret1 (fn:=Tryz.f28) rfl H rfl ?_
   exact ⟨congrArg (Value.int .i64) (mY hdE (Fu (k:=k) (by omega) (Nr (by omega)))).symm,(S.sel [] G G)⟩
  try simp only [o1,o2,o3,o4,o5,o6,o7,o8,o9,oa] at hc4
  refine wp_skip ?_
  refine k14 _ _ ?_
  refine sO H<|sr 1 rfl<|sd (aK G G (by unfold i64ok;omega))<|sr 1 rfl<|sE ?_;clear H a;intro a H
  exact k11 (g1-1) (k+1) a _ (by omega) (⟨by omega,by omega,cK hp.2.2 (mX.2 (by omega))⟩) (S.sel [1] G G) (H.keep [8,2,3] rfl)
 refine wp_exit ?_
 refine k9 _ _ ?_
 refine sS H fun K19 k19=>sr 1 rfl<|sE ?_;clear H a;intro a H
 refine k19 _ ?_;clear k19 K19
 refine wp_ret ?_
 refine ret1 (fn:=Tryz.f28) rfl H rfl ?_
 obtain rfl:k=l.length:=by omega
 exact ⟨congrArg (Value.int .i64) (uI hdE (Fv hp.2.2 (by omega))).symm,(S.sel [] G G)⟩
end
section
theorem mL (pl:Int) (ps:List Psg) (PA:Option Addr) (pc:Nat) (xs:List Int) (XA:Option Addr) (xc:Nat) (out:Int) (pe:List Int) (BA:Option Addr) (bc:Nat) (T:Int) (w:World) (hps:InS w noF 7 PA ps.length (pcell ps)) (hpn:ps.length≤9223372036854775807) (hxs:InS w noF 1 XA xs.length (icl xs)) (hxn:xs.length≤9223372036854775807) (hpe:InS w noF 1 BA pe.length (icl pe)) (hpen:pe.length≤9223372036854775807) :
    Calls Tryz.prog 31 [.agg [.int .i64 pl,.slice PA ps.length pc,.slice XA xs.length xc].toArray,.int .i64 out,.slice BA pe.length bc,.int .i64 T].toArray w (Ret (fun v w'=>v = .int .i64 (cH pl ps xs out pe T)∧St w noF [] w')):=by
 refine enter Tryz.func31 rfl Tryz.ntmps31 rfl (fun a H=>?_)
 have S:=St.start w
 refine seq_list fun K1 k1=>?_
 refine aO H rfl S G G ?_;clear H a S;intro b4 _ a hb4 hbw4 S H
 refine ls 1 H<|sr 1 rfl<|sE ?_;clear H a;intro a H
 refine k1 _ _ ?_;clear k1 K1
 refine seq_list fun K2 k2=>?_
 refine ls 1 H<|sd ((aC cA cZ rfl S (i:=0) G G))<|sE ?_;clear H a;intro a H
 refine aA H G G Tryz.func27 G G (mK pl ps PA pc xs XA xc _ (hps.now S) hpn (hxs.now S) hxn) ?_;clear H a
 rintro _ _ a ⟨rfl,S2⟩ H
 replace S:=S.call S2;clear S2
 refine ls 1 H<|sr 1 rfl<|sE ?_;clear H a;intro a H
 refine k2 _ _ ?_;clear k2 K2
 refine wp_seq_k fun K3 k3=>?_
 refine sS H fun K4 k4=>sr 2 rfl<|sE ?_;clear H a;intro a H
 refine k4 _ ?_;clear k4 K4
 refine condN H rfl (fun hc1=>?_) (fun hc1=>?_)
 ·skip
  refine sS H fun K5 k5=>sr 2 rfl<|sE ?_;clear H a;intro a H
  refine k5 _ ?_;clear k5 K5
  refine wp_ret ?_
  refine ret1 (fn:=Tryz.f31) rfl H rfl ?_
  refine ⟨?_,(S.sel [] G G)⟩;unfold cH;rw [if_pos hc1]
 refine wp_skip ?_
 refine k3 _ _ ?_
 refine wp_seq_k fun K6 k6=>?_
 replace H:=H.keep [1,2,3,4] rfl
 refine seq_list fun K7 k7=>?_
 refine ls 1 H<|sr 1 rfl<|sE ?_;clear H a;intro a H
 refine aA H G G Tryz.func56 G G (zA _ _) ?_;clear H a
 rintro _ _ a ⟨rfl,rfl⟩ H
 refine ls 2 H<|sr 2 rfl<|sE ?_;clear H a;intro a H
 apply cG (i:=3) (g:=18) (t:=22) (b:=false) 4 H S G G (by kernel_rfl) (by kernel_rfl) G G
 case h1=>
  intro hg4
  have hq4:=hg4;try simp only [o1,o2,o3,o4,o5,o6,o7,o8,o9,oa] at hq4
  refine ls 2 H<|sy hg4<|sd ((aC cA cZ rfl S (i:=0) G G))<|sy hg4<|sr 1 rfl<|sE ?_;intro a H
  refine dC H G G (by assumption) ?_
  refine aA H G G Tryz.func57 G G (pT pl ps PA pc xs XA xc pe BA bc _ (hpe.now S) hpen) ?_
  rintro _ _ a ⟨rfl,S2⟩ H
  replace S:=S.call S2;clear S2
  refine ls 1 H<|sy hg4<|sr 1 rfl<|sE ?_;intro a H
  exact wpList_nil ⟨H.strip 4 G G,(S.sel [0] G G)⟩
 clear H a S;intro a _ H S
 refine ls 6 H<|so G G G<|sr 1 rfl<|sg 3 9 24 27 false G G (fun hg10=>by
     have hq10:=hg10;try simp only [o1,o2,o3,o4,o5,o6,o7,o8,o9,oa] at hq10
     exact sy hg10<|sr 1 rfl<|sy hg10<|sc rfl Tryz.func51 G G (cI _ _ _ _)<|sy hg10<|sr 1 rfl<|sz 3 G G G)<|so G G G<|sE ?_;clear H a;intro a H
 refine k7 _ _ ?_;clear k7 K7
 refine cond_ H rfl (fun hc2=>?_) (fun hc2=>?_)
 ·skip
  try simp only [o1,o2,o3,o4,o5,o6,o7,o8,o9,oa] at hc2
  replace H:=H.keep [] rfl
  refine sS H fun K8 k8=>sr 1 rfl<|sE ?_;clear H a;intro a H
  refine k8 _ ?_;clear k8 K8
  refine wp_ret ?_
  refine ret1 (fn:=Tryz.f31) rfl H rfl ?_
  refine ⟨?_,(S.sel [] rfl rfl)⟩;unfold cH;rw [if_neg (by omega),if_neg (by simp only [Bool.and_eq_true,decide_eq_true_eq];rcases hc2 with (h|h)|h <;> first|(intro h9;omega)|(rw [h];simp))]
 try simp only [o1,o2,o3,o4,o5,o6,o7,o8,o9,oa] at hc2
 refine wp_skip ?_
 refine k6 _ _ ?_
 refine sS H fun K9 k9=>sr 1 rfl<|sE ?_;clear H a;intro a H
 refine k9 _ ?_;clear k9 K9
 refine wp_ret ?_
 refine ret1 (fn:=Tryz.f31) rfl H rfl ?_
 refine ⟨?_,(S.sel [] G G)⟩;unfold cH;rw [if_neg (by omega),if_pos (by simp only [Bool.and_eq_true,decide_eq_true_eq];exact ⟨⟨by omega,hc2.1.2⟩,by omega⟩)]
end
section
theorem Xd {pe:List Int} (hpp:∀ k,k<pe.length→0≤pe.getD k 0∧pe.getD k 0≤1000) (hl:pe.length≤12) {k:Nat} (hk:k≤pe.length):0≤sumI pe k∧sumI pe k≤12000:=by
  have:=yW hpp k hk
  omega
end
section
open Classical in
noncomputable def yrB (y:Yr):Bool:=if yrI y then true else false
theorem Pq {y:Yr} (h:yrI y):yrB y=true:=by unfold yrB;rw [if_pos h]
theorem Ps {y:Yr} (h:¬ yrI y):yrB y=false:=by unfold yrB;rw [if_neg h]
theorem Ty {y:Yr}:yrB y=true↔yrI y:=⟨fun h=>Classical.byContradiction (fun h2=>by rw [Ps h2] at h;cases h),Pq⟩
theorem Tz {pl:Int} {ps:List Psg} {xs pe:List Int} {T:Int} (h:stE pl ps xs=0):cH pl ps xs 0 pe T=0↔((pe.length:Int)=pl∧∀ k,k<pe.length→0≤pe.getD k 0∧pe.getD k 0≤1000)∧(0≤T∧T≤60):=by
  constructor
  · intro h1
    obtain ⟨_,_,h2,h3⟩:=jH h1
    have h4:=pB h2
    exact ⟨⟨h4.2,h4.1⟩,h3⟩
  · rintro ⟨⟨h1,h2⟩,h3⟩
    unfold cH
    rw [if_neg (by omega),if_pos]
    have h4:eG pl pe=true:=by unfold eG;rw [decide_eq_true h1,Bool.and_true,bX];exact fun k hk=>decide_eq_true (h2 k hk)
    rw [h4,decide_eq_true h3]
    rfl
theorem Pt {ps:List Psg} {us:List Unt} {n i:Nat} {m:Int}:freeN ps us n (i+1) m=(freeN ps us n i m&&!decide ((us.getD i Unt.zero).mach=m)):=by
  unfold freeN
  simp only [allN,Bool.and_assoc]
theorem Jx {p:Part} {l:List Use} (h:cO p l=0):wearE p l=0↔(refO p l).2.1=false:=by
  unfold refO
  rw [if_neg (by omega)]
  constructor
  · intro h1
    rw [if_neg (by rw [yM (lH h1).2];omega)]
  · intro h1
    split at h1
    · cases h1
    · exact Bd h (Sj.2 (by have:=(yL p l).le;omega))
theorem Jy {l:List Use} {o:Int} (h0:0≤o) (h:¬ (0<l.length∧o<(l.getD ((l.length:Int)-1).toNat Use.zero).day)):prevD l l.length≤o:=by
  rcases Nat.eq_zero_or_pos l.length with e|e
  · rw [e];exact h0
  · have h1:=oB (l:=l) (k:=((l.length:Int)-1).toNat) (by omega)
    omega
theorem Jz {l:List Use} {o:Int} (e:0<l.length) (h:o<(l.getD ((l.length:Int)-1).toNat Use.zero).day):o<prevD l l.length:=by
  have h1:=oB (l:=l) (k:=((l.length:Int)-1).toNat) (by omega)
  omega
theorem cW (n lo hi:Int) (w:World) :
    Calls Tryz.prog 14 [.int .i64 n,.int .i64 lo,.int .i64 hi].toArray w (Ret (fun v w'=>v = .bool (decide (lo≤n)&&decide (n≤hi))∧w'=w)):=by
 refine enter Tryz.func14 rfl Tryz.ntmps14 rfl (fun a H=>?_)
 have S:=St.start w
 refine sS H fun K1 k1=>sr 1 rfl<|sE ?_;clear H a;intro a H
 refine k1 _ ?_;clear k1 K1
 replace H:=H.keep [0,1,2] rfl
 refine sS H fun K2 k2=>sr 4 rfl<|sg 3 3 10 13 true G G (fun hg4=>sy hg4<|sr 1 rfl<|sy hg4<|sr 1 rfl<|sy hg4<|sr 1 rfl<|sz 3 G G G)<|sa G G G<|sr 1 rfl<|sE ?_;clear H a;intro a H
 refine k2 _ ?_;clear k2 K2
 refine wp_ret ?_
 refine ret1 (fn:=Tryz.f14) rfl H rfl ?_
 exact ⟨rfl,rfl⟩
theorem Ka (a b:Tsk) (w:World) :
    Calls Tryz.prog 15 [.agg [.int .i64 a.day,.int .i64 a.unit,.int .i64 a.kind].toArray,.agg [.int .i64 b.day,.int .i64 b.unit,.int .i64 b.kind].toArray].toArray w (Ret (fun v w'=>v = .bool (befB a b)∧St w noF [] w')):=by
 refine enter Tryz.func15 rfl Tryz.ntmps15 rfl (fun a H=>?_)
 have S:=St.start w
 refine seq_list fun K1 k1=>?_
 refine aO H rfl S G G ?_;clear H a S;intro b2 _ a hb2 hbw2 S H
 refine aO H rfl S G G ?_;clear H a S;intro b3 _ a hb3 hbw3 S H
 refine ls 1 H<|sr 1 rfl<|sE ?_;clear H a;intro a H
 refine k1 _ _ ?_;clear k1 K1
 refine wp_seq_k fun K2 k2=>?_
 refine sS H fun K3 k3=>sf cQ rfl<|sl S 1 aD G G G<|sf cQ rfl<|sl S 0 aD G G G<|sr 1 rfl<|sE ?_;clear H a;intro a H
 refine k3 _ ?_;clear k3 K3
 refine condN H rfl (fun hc1=>?_) (fun hc1=>?_)
 ·skip
  replace H:=H.keep [2,3] rfl
  refine sS H fun K4 k4=>sf cQ rfl<|sl S 1 aD G G G<|sf cQ rfl<|sl S 0 aD G G G<|sr 2 rfl<|sE ?_;clear H a;intro a H
  refine k4 _ ?_;clear k4 K4
  refine wp_ret ?_
  refine ret1 (fn:=Tryz.f15) rfl H rfl ?_
  refine ⟨?_,(S.sel [] G G)⟩;unfold befB;rw [if_pos hc1]
 refine wp_skip ?_
 refine k2 _ _ ?_
 refine wp_seq_k fun K5 k5=>?_
 replace H:=H.keep [2,3] rfl
 refine sS H fun K6 k6=>sf dN rfl<|sl S 1 aD G G G<|sf dN rfl<|sl S 0 aD G G G<|sr 1 rfl<|sE ?_;clear H a;intro a H
 refine k6 _ ?_;clear k6 K6
 refine condN H rfl (fun hc2=>?_) (fun hc2=>?_)
 ·skip
  replace H:=H.keep [2,3] rfl
  refine sS H fun K7 k7=>sf dN rfl<|sl S 1 aD G G G<|sf dN rfl<|sl S 0 aD G G G<|sr 2 rfl<|sE ?_;clear H a;intro a H
  refine k7 _ ?_;clear k7 K7
  refine wp_ret ?_
  refine ret1 (fn:=Tryz.f15) rfl H rfl ?_
  refine ⟨?_,(S.sel [] G G)⟩;unfold befB;rw [if_neg (fun h=>h (by omega)),if_pos hc2]
 refine wp_skip ?_
 refine k5 _ _ ?_
 replace H:=H.keep [2,3] rfl
 refine sS H fun K8 k8=>sf fV rfl<|sl S 1 aD G G G<|sf fV rfl<|sl S 0 aD G G G<|sr 2 rfl<|sE ?_;clear H a;intro a H
 refine k8 _ ?_;clear k8 K8
 refine wp_ret ?_
 refine ret1 (fn:=Tryz.f15) rfl H rfl ?_
 refine ⟨?_,(S.sel [] G G)⟩;unfold befB;rw [if_neg (fun h=>h (by omega)),if_neg (fun h=>h (by omega))]
theorem Kb (y:Yr) (w:World) (hy:YIn w noF y) (hyb:YBd y) (hst:stE y.pl y.ps y.xs=0) :
    Calls Tryz.prog 29 [.agg [.int .i64 y.days,.int .i64 y.pl,.slice y.PA y.ps.length y.pc,.slice y.XA y.xs.length y.xc,.slice y.BA y.pe.length y.bc,.int .i64 y.limit,.bool y.help,.slice y.QA y.prs.length y.qc,.slice y.VA y.us.length y.vc,.int .i64 y.crew,.slice y.SA y.sps.length y.sc].toArray].toArray w (Ret (fun v w'=>v = .bool (yrB y)∧St w noF [] w')):=by
 have hlv:=Tz (pe:=y.pe) (T:=y.limit) hst;have hn4:=hyb.spn
 refine enter Tryz.func29 rfl Tryz.ntmps29 rfl (fun a H=>?_)
 have S:=St.start w
 refine seq_list fun K1 k1=>?_
 refine aO H rfl S G G ?_;clear H a S;intro b1 _ a hb1 hbw1 S H
 refine ls 1 H<|sr 1 rfl<|sE ?_;clear H a;intro a H
 refine k1 _ _ ?_;clear k1 K1
 refine wp_seq_k fun K2 k2=>?_
 replace H:=H.keep [1] rfl
 refine seq_list fun K3 k3=>?_
 refine ls 2 H<|sf dH rfl<|sl S 0 aD G G G<|sE ?_;clear H a;intro a H
 refine aA H G G Tryz.func14 G G (cW _ _ _ _) ?_;clear H a
 rintro _ _ a ⟨rfl,rfl⟩ H
 refine ls 2 H<|sr 2 rfl<|sE ?_;clear H a;intro a H
 apply cG (i:=4) (g:=9) (t:=17) (b:=false) 8 H S G G (by kernel_rfl) (by kernel_rfl) G G
 case h1=>
  intro hg5
  refine ls 6 H<|sy hg5<|sf eB rfl<|sy hg5<|sd ((aC cA cZ rfl S (i:=0) G G))<|sy hg5<|sf iK rfl<|sy hg5<|sl S 0 bM G G G<|sy hg5<|sf jZ rfl<|sy hg5<|sl S 0 aD G G G<|sE ?_;intro a H
  refine dC H G G (by assumption) ?_
  refine aA H G G Tryz.func31 G G (mL y.pl y.ps y.PA y.pc y.xs y.XA y.xc 0 y.pe y.BA y.bc y.limit _ (hy.ps.now S) hyb.psn (hy.xs.now S) hyb.xsn (hy.pe.now S) hyb.pen) ?_
  rintro _ _ a ⟨rfl,S2⟩ H
  replace S:=S.call S2;clear S2
  refine ls 1 H<|sy hg5<|sr 1 rfl<|sE ?_;intro a H
  exact wpList_nil ⟨H.strip 8 G G,(S.sel [0] G G)⟩
 clear H a S;intro a _ H S
 refine ls 13 H<|so G G G<|sr 1 rfl<|sg 4 14 19 23 false G G (fun hg15=>sy hg15<|sf xT rfl<|sy hg15<|sl S 0 aD G G G<|sy hg15<|sc rfl Tryz.func14 G G (cW _ _ _ _)<|sy hg15<|sr 1 rfl<|sz 4 G G G)<|so G G G<|sr 1 rfl<|sg 4 20 25 29 false G G (fun hg21=>sy hg21<|sf lC rfl<|sy hg21<|sl S 0 nQ G G G<|sy hg21<|sL oO rfl<|sy hg21<|sr 1 rfl<|sz 4 G G G)<|so G G G<|sE ?_;clear H a;intro a H
 refine k3 _ _ ?_;clear k3 K3
 refine cond_ H rfl (fun hc1=>?_) (fun hc1=>?_)
 ·skip
  try simp only [o1,o2,o3,o4,o5,o6,o7,o8,o9,oa] at hc1
  replace H:=H.keep [] rfl
  refine sS H fun K4 k4=>sr 1 rfl<|sE ?_;clear H a;intro a H
  refine k4 _ ?_;clear k4 K4
  refine wp_ret ?_
  refine ret1 (fn:=Tryz.f29) rfl H rfl ?_
  rw [Ps (fun h=>by unfold yrI at h;have h9:=hlv.2 ⟨h.2.1,h.2.2.1⟩;omega)];exact ⟨rfl,(S.sel [] G G)⟩
 try simp only [o1,o2,o3,o4,o5,o6,o7,o8,o9,oa] at hc1
 refine wp_skip ?_
 refine k2 _ _ ?_
 refine wp_seq_k fun K5 k5=>?_
 refine sS H fun K6 k6=>sr 1 rfl<|sE ?_;clear H a;intro a H
 refine k6 _ ?_;clear k6 K6
 refine wp_block ?_
 refine loop_st (X:=Nat) (R0:=_) [1] H rfl (fun k=>[(3,.int .i64 (k:Int))]) (fun k=>[]) (fun g k=>k≤y.sps.length∧g+k=y.sps.length∧∀ q,q<k→sprB y.days (y.sps.getD q Spr.zero)=true) (y.sps.length) 0 ?_ (S.sel [0] G G) (H.keep [3,1] rfl) ?_
 · exact ⟨by omega,by omega,fun q hq=>absurd hq (Nat.not_lt_zero q)⟩
 clear H S a
 intro g1 x1 a w1 hp S H K7 k7
 obtain ⟨k,rfl⟩:∃ y,y=x1:=⟨_,rfl⟩
 refine wp_seq_k fun K8 k8=>?_
 refine sS H fun K9 k9=>sr 1 rfl<|sf lC rfl<|sl S 0 nQ G G G<|sL oO rfl<|sr 1 rfl<|sE ?_;clear H a;intro a H
 refine k9 _ ?_;clear k9 K9
 refine condL H rfl (fun hc2=>?_) (fun hc2=>?_)
 ·skip
  refine wp_skip ?_
  refine k8 _ _ ?_
  refine wp_seq_k fun K10 k10=>?_
  refine wp_block ?_
  replace H:=H.keep [1,3] rfl
  refine seq_list fun K11 k11=>?_
  refine ls 5 H<|sf lC rfl<|sl S 0 nQ G G G<|sr 1 rfl<|si oO kZ G G (hy.sps.adr (by omega)) (by omega)<|sd ((aW xQ kZ rfl S hy.sps (by omega) (by omega)))<|sE ?_;clear H a;intro a H
  refine aI H rfl S Dj ?_;clear H a S;intro b4 _ a hb4 hbw4 S H
  refine aF H S (i:=0) G G G G kZ G G ?_
  clear H a S;intro _ a S H
  refine k11 _ _ ?_;clear k11 K11
  replace H:=H.keep [1,3,4] rfl
  refine sS H fun K12 k12=>sf tM rfl<|sl S 0 aD G G G<|sf dH rfl<|sl S 1 aD G G G<|sd (aU G G (by unfold i64ok;omega))<|sc rfl Tryz.func14 G G (cW _ _ _ _)<|sr 2 rfl<|sg 4 7 50 54 false G G (fun hg8=>sy hg8<|sf tN rfl<|sy hg8<|sl S 0 aD G G G<|sy hg8<|sc rfl Tryz.func14 G G (cW _ _ _ _)<|sy hg8<|sr 1 rfl<|sz 4 G G G)<|so G G G<|sr 1 rfl<|sg 4 13 56 60 false G G (fun hg14=>sy hg14<|sf tO rfl<|sy hg14<|sl S 0 aD G G G<|sy hg14<|sc rfl Tryz.func14 G G (cW _ _ _ _)<|sy hg14<|sr 1 rfl<|sz 4 G G G)<|so G G G<|sE ?_;clear H a;intro a H
  refine k12 _ ?_;clear k12 K12
  refine cond_ H rfl (fun hc3=>?_) (fun hc3=>?_)
  ·skip
   try simp only [o1,o2,o3,o4,o5,o6,o7,o8,o9,oa] at hc3
   replace H:=H.keep [] rfl
   refine sS H fun K13 k13=>sr 1 rfl<|sE ?_;clear H a;intro a H
   refine k13 _ ?_;clear k13 K13
   refine wp_ret ?_
   refine ret1 (fn:=Tryz.f29) rfl H rfl ?_
   rw [Ps (fun h=>by have h9:=mH.1 (h.2.2.2.2.2 k (by omega));omega)];exact ⟨rfl,(S.sel [] G G)⟩
  try simp only [o1,o2,o3,o4,o5,o6,o7,o8,o9,oa] at hc3
  refine wp_skip ?_
  refine k10 _ _ ?_
  refine sO H<|sr 1 rfl<|sd (aK G G (by unfold i64ok;omega))<|sr 1 rfl<|sE ?_;clear H a;intro a H
  exact k7 (g1-1) (k+1) a _ (by omega) (⟨by omega,by omega,eW (f:=fun q=>sprB y.days (y.sps.getD q Spr.zero)) hp.2.2 (mH.2 (by omega))⟩) (S.sel [1] G G) (H.keep [3,1] rfl)
 refine wp_exit ?_
 refine k5 _ _ ?_
 refine sS H fun K15 k15=>sr 1 rfl<|sE ?_;clear H a;intro a H
 refine k15 _ ?_;clear k15 K15
 refine wp_ret ?_
 refine ret1 (fn:=Tryz.f29) rfl H rfl ?_
 have h9:=hlv.1 (by omega)
 have h8:=hp.2.2
 rw [Pq (by unfold yrI;exact ⟨by omega,h9.1,h9.2,by omega,by omega,fun q hq=>h8 q (by omega)⟩)];exact ⟨rfl,(S.sel [] G G)⟩
theorem Kc (y:Yr) (i:Nat) (w:World) (hy:YIn w noF y) (hyb:YBd y) (hi:i<y.us.length) :
    Calls Tryz.prog 30 [.agg [.int .i64 y.days,.int .i64 y.pl,.slice y.PA y.ps.length y.pc,.slice y.XA y.xs.length y.xc,.slice y.BA y.pe.length y.bc,.int .i64 y.limit,.bool y.help,.slice y.QA y.prs.length y.qc,.slice y.VA y.us.length y.vc,.int .i64 y.crew,.slice y.SA y.sps.length y.sc].toArray,.int .i64 (i:Int)].toArray w (Ret (fun v w'=>v = .bool (untB y.ps y.us i)∧St w noF [] w')):=by
 have hn1:=hyb.psn;have hn3:=hyb.usn;have hn5:(y.us.getD i Unt.zero).uses.length≤9223372036854775807:=hyb.uln hi;have hn6:(y.us.getD i Unt.zero).rates.length≤9223372036854775807:=hyb.rtn hi
 refine enter Tryz.func30 rfl Tryz.ntmps30 rfl (fun a H=>?_)
 have S:=St.start w
 refine seq_list fun K1 k1=>?_
 refine aO H rfl S G G ?_;clear H a S;intro b2 _ a hb2 hbw2 S H
 refine ls 1 H<|sr 1 rfl<|sE ?_;clear H a;intro a H
 refine k1 _ _ ?_;clear k1 K1
 refine seq_list fun K2 k2=>?_
 refine ls 5 H<|sf cP rfl<|sl S 0 dT G G G<|sr 1 rfl<|si eM gN G G (hy.us.adr (by omega)) (by omega)<|sd ((aW qG gN rfl S hy.us (by omega) (by omega)))<|sE ?_;clear H a;intro a H
 refine aI H rfl S Lv ?_;clear H a S;intro b5 _ a hb5 hbw5 S H
 refine aF H S (i:=0) G G G G gN G G ?_
 clear H a S;intro _ a S H
 refine k2 _ _ ?_;clear k2 K2
 replace H:=H.keep [1,2,5] rfl
 refine sS H fun K3 k3=>sr 1 rfl<|sE ?_;clear H a;intro a H
 refine k3 _ ?_;clear k3 K3
 refine wp_seq_k fun K4 k4=>?_
 refine sS H fun K5 k5=>sr 1 rfl<|sE ?_;clear H a;intro a H
 refine k5 _ ?_;clear k5 K5
 refine wp_block ?_
 refine loop_st (X:=Nat) (R0:=_) [1,2,5] H rfl (fun k=>[(6,.bool (freeN y.ps y.us k 0 (y.us.getD i Unt.zero).mach)),(7,.int .i64 (k:Int))]) (fun k=>[]) (fun g k=>k≤y.ps.length∧g+k=y.ps.length) (y.ps.length) 0 ?_ (S.sel [0,1] G G) (H.keep [6,7,1,2,5] rfl) ?_
 · exact ⟨by omega,by omega⟩
 clear H S a
 intro g1 x1 a w1 hp S H K6 k6
 obtain ⟨k,rfl⟩:∃ y,y=x1:=⟨_,rfl⟩
 refine wp_seq_k fun K7 k7=>?_
 refine sS H fun K8 k8=>sr 1 rfl<|sf eB rfl<|sf eO rfl<|sl S 1 fZ G G G<|sL fS rfl<|sr 1 rfl<|sE ?_;clear H a;intro a H
 refine k8 _ ?_;clear k8 K8
 refine condL H rfl (fun hc1=>?_) (fun hc1=>?_)
 ·skip
  refine wp_skip ?_
  refine k7 _ _ ?_
  refine wp_seq_k fun K9 k9=>?_
  refine wp_block ?_
  replace H:=H.keep [1,2,5,6,7] rfl
  refine seq_list fun K10 k10=>?_
  refine ls 6 H<|sf eB rfl<|sf eO rfl<|sl S 1 fZ G G G<|sr 1 rfl<|si fS eK G G (hy.ps.adr (by omega)) (by omega)<|sd ((aW jM eK rfl S hy.ps (by omega) (by omega)))<|sE ?_;clear H a;intro a H
  refine aI H rfl S rE ?_;clear H a S;intro b8 _ a hb8 hbw8 S H
  refine aF H S (i:=0) G G G G eK G G ?_
  clear H a S;intro _ a S H
  refine k10 _ _ ?_;clear k10 K10
  replace H:=H.keep [1,2,5,6,7,8] rfl
  refine sO H<|sr 2 rfl<|sg 10 1 33 43 false G G (fun hg2=>by
      have hq2:=hg2;try simp only [o1,o2,o3,o4,o5,o6,o7,o8,o9,oa] at hq2
      exact sy hg2<|sf dO rfl<|sy hg2<|sl S 0 aD G G G<|sy hg2<|sr 1 rfl<|sy hg2<|sr 1 rfl<|sg 5 5 37 42 true G G (fun hg6=>by
           have hq6:=hg6;try simp only [o1,o2,o3,o4,o5,o6,o7,o8,o9,oa] at hq6
           exact sy hg6<|sf dO rfl<|sy hg6<|sl S 0 aD G G G<|sy hg6<|sf iL rfl<|sy hg6<|sl S 1 aD G G G<|sy hg6<|sr 1 rfl<|sz 5 G G G)<|sy hg2<|sa G G G<|sz 6 G G G)<|so G G G<|sr 1 rfl<|sE ?_;clear H a;intro a H
  refine k9 _ _ ?_
  replace H:=H.keep [1,2,5,6,7] rfl
  refine sO H<|sr 1 rfl<|sd (aK G G (by unfold i64ok;omega))<|sr 1 rfl<|sE ?_;clear H a;intro a H
  rw [←Bl (ps:=y.ps) (us:=y.us)] at H
  exact k6 (g1-1) (k+1) a _ (by omega) (⟨by omega,by omega⟩) (S.sel [1,2] G G) (H.keep [6,7,1,2,5] rfl)
 refine wp_exit ?_
 refine k4 _ _ ?_
 refine wp_seq_k fun K13 k13=>?_
 refine sS H fun K14 k14=>sr 1 rfl<|sE ?_;clear H a;intro a H
 refine k14 _ ?_;clear k14 K14
 refine wp_block ?_
 obtain rfl:k=y.ps.length:=by omega
 refine loop_st (X:=Nat) (R0:=_) [1,2,5] H rfl (fun k=>[(6,.bool (freeN y.ps y.us y.ps.length k (y.us.getD i Unt.zero).mach)),(9,.int .i64 (k:Int))]) (fun k=>[]) (fun g k=>k≤i∧g+k=i) (i) 0 ?_ (S.sel [0,1] G G) (H.keep [6,9,1,2,5] rfl) ?_
 · exact ⟨by omega,by omega⟩
 clear H S a
 intro g2 x2 a w2 hp S H K15 k15
 obtain ⟨k,rfl⟩:∃ y,y=x2:=⟨_,rfl⟩
 refine wp_seq_k fun K16 k16=>?_
 refine sS H fun K17 k17=>sr 3 rfl<|sE ?_;clear H a;intro a H
 refine k17 _ ?_;clear k17 K17
 refine condL H rfl (fun hc2=>?_) (fun hc2=>?_)
 ·skip
  refine wp_skip ?_
  refine k16 _ _ ?_
  refine wp_seq_k fun K18 k18=>?_
  refine wp_block ?_
  replace H:=H.keep [1,2,5,6,9] rfl
  replace S:=S.drew
  refine sP H<|sr 2 rfl<|sg 9 1 51 60 true G G (fun hg2=>by
      have hq2:=hg2;try simp only [o1,o2,o3,o4,o5,o6,o7,o8,o9,oa] at hq2
      exact sy hg2<|sf cP rfl<|sy hg2<|sl S 1 dT G G G<|sy hg2<|sr 1 rfl<|sy hg2<|si eM gN G G (hy.us.adr (by omega)) (by omega)<|sy hg2<|sp iL rfl<|sy hg2<|slm aD rfl (hy.us.rd S (by omega) (by omega))<|sy hg2<|sf iL rfl<|sy hg2<|sl S 0 aD G G G<|sy hg2<|sr 1 rfl<|sz 9 G G G)<|sa G G G<|sr 1 rfl<|sE ?_;clear H a;intro a H
  refine k18 _ _ ?_
  replace H:=H.keep [1,2,5,6,9] rfl
  refine sO H<|sr 1 rfl<|sd (aK G G (by unfold i64ok;omega))<|sr 1 rfl<|sE ?_;clear H a;intro a H
  rw [←Pt (ps:=y.ps) (us:=y.us)] at H
  exact k15 (g2-1) (k+1) a _ (by omega) (⟨by omega,by omega⟩) (S.sel [0,1] G G) (H.keep [6,9,1,2,5] rfl)
 refine wp_exit ?_
 refine k13 _ _ ?_
 refine wp_seq_k fun K21 k21=>?_
 obtain rfl:i=k:=by omega
 replace H:=H.keep [5,6] rfl
 refine seq_list fun K22 k22=>?_
 refine ls 21 H<|sr 3 rfl<|sg 4 2 64 68 false G G (fun hg3=>by
     have hq3:=hg3;try simp only [o1,o2,o3,o4,o5,o6,o7,o8,o9,oa] at hq3
     exact sy hg3<|sf rY rfl<|sy hg3<|sl S 0 aD G G G<|sy hg3<|sc rfl Tryz.func14 G G (cW _ _ _ _)<|sy hg3<|sr 1 rfl<|sz 4 G G G)<|so G G G<|sr 1 rfl<|sg 4 8 70 74 false G G (fun hg9=>by
     have hq9:=hg9;try simp only [o1,o2,o3,o4,o5,o6,o7,o8,o9,oa] at hq9
     exact sy hg9<|sf xV rfl<|sy hg9<|sl S 0 aD G G G<|sy hg9<|sc rfl Tryz.func14 G G (cW _ _ _ _)<|sy hg9<|sr 1 rfl<|sz 4 G G G)<|so G G G<|sr 1 rfl<|sg 4 14 76 80 false G G (fun hg15=>by
     have hq15:=hg15;try simp only [o1,o2,o3,o4,o5,o6,o7,o8,o9,oa] at hq15
     exact sy hg15<|sf xW rfl<|sy hg15<|sl S 0 aD G G G<|sy hg15<|sc rfl Tryz.func14 G G (cW _ _ _ _)<|sy hg15<|sr 1 rfl<|sz 4 G G G)<|so G G G<|sr 1 rfl<|sE ?_;clear H a;intro a H
 apply cG (i:=20) (g:=82) (t:=88) (b:=false) 6 H S G G (by kernel_rfl) (by kernel_rfl) G G
 case h1=>
  intro hg21
  have hq21:=hg21;try simp only [o1,o2,o3,o4,o5,o6,o7,o8,o9,oa] at hq21
  refine ls 4 H<|sy hg21<|sf mQ rfl<|sy hg21<|sd ((aC fB hZ rfl S (i:=0) G G))<|sy hg21<|sf gR rfl<|sy hg21<|sl S 0 jL G G G<|sE ?_;intro a H
  refine dC H G G (by assumption) ?_
  refine aA H G G Tryz.func54 G G (nJ (y.us.getD i Unt.zero).rates (y.us.getD i Unt.zero).worn (y.us.getD i Unt.zero).turns (y.us.getD i Unt.zero).age (y.us.getD i Unt.zero).RA (y.us.getD i Unt.zero).rc (y.us.getD i Unt.zero).uses (y.us.getD i Unt.zero).UA (y.us.getD i Unt.zero).uc _ ((hy.rt i hi).now S) (hyb.rtn hi) ((hy.ul i hi).now S) (hyb.uln hi)) ?_
  rintro _ _ a ⟨rfl,S2⟩ H
  replace S:=S.call S2;clear S2
  refine ls 1 H<|sy hg21<|sr 1 rfl<|sE ?_;intro a H
  exact wpList_nil ⟨H.strip 6 G G,(S.sel [0,1] G G)⟩
 clear H a S;intro a _ H S
 refine ls 7 H<|so G G G<|sr 1 rfl<|sg 4 28 90 94 false G G (fun hg29=>by
     have hq29:=hg29;try simp only [o1,o2,o3,o4,o5,o6,o7,o8,o9,oa] at hq29
     exact sy hg29<|sf gR rfl<|sy hg29<|sl S 0 jL G G G<|sy hg29<|sL dJ rfl<|sy hg29<|sr 1 rfl<|sz 4 G G G)<|so G G G<|sE ?_;clear H a;intro a H
 refine k22 _ _ ?_;clear k22 K22
 refine cond_ H rfl (fun hc3=>?_) (fun hc3=>?_)
 ·skip
  try simp only [o1,o2,o3,o4,o5,o6,o7,o8,o9,oa] at hc3
  replace H:=H.keep [] rfl
  refine sS H fun K23 k23=>sr 1 rfl<|sE ?_;clear H a;intro a H
  refine k23 _ ?_;clear k23 K23
  refine wp_ret ?_
  refine ret1 (fn:=Tryz.f30) rfl H rfl ?_
  rw [Bm (fun h=>by have h1:freeN y.ps y.us y.ps.length i (y.us.getD i Unt.zero).mach=true:=h.free;have h2:=h.i;have h3:cO ⟨(y.us.getD i Unt.zero).rates,(y.us.getD i Unt.zero).worn,(y.us.getD i Unt.zero).turns,(y.us.getD i Unt.zero).age⟩ (y.us.getD i Unt.zero).uses=0:=(lH h.wear).1;unfold untI at h2;rw [h1] at hc3;simp only [Bool.true_eq_false,Bool.not_true,Bool.false_eq_true,not_true_eq_false,false_or] at hc3;omega)];exact ⟨rfl,(S.sel [] G G)⟩
 try simp only [o1,o2,o3,o4,o5,o6,o7,o8,o9,oa] at hc3
 have hcp:cO (y.us.getD i Unt.zero).part (y.us.getD i Unt.zero).uses=0:=by show cO ⟨_,_,_,_⟩ _=0;omega
 have hrw:=Jx hcp
 refine wp_skip ?_
 refine k21 _ _ ?_
 replace H:=H.keep [5] rfl
 refine seq_list fun K24 k24=>?_
 refine ls 4 H<|sf mQ rfl<|sd ((aC fB hZ rfl S (i:=0) G G))<|sf gR rfl<|sl S 0 jL G G G<|sE ?_;clear H a;intro a H
 refine aA H G G Tryz.func55 G G (Be (y.us.getD i Unt.zero).rates (y.us.getD i Unt.zero).worn (y.us.getD i Unt.zero).turns (y.us.getD i Unt.zero).age (y.us.getD i Unt.zero).RA (y.us.getD i Unt.zero).rc (y.us.getD i Unt.zero).uses (y.us.getD i Unt.zero).UA (y.us.getD i Unt.zero).uc _ ((hy.rt i hi).now S) (hyb.rtn hi) ((hy.ul i hi).now S) (hyb.uln hi)) ?_;clear H a
 rintro _ _ a ⟨rfl,S2⟩ H
 replace S:=S.call S2;clear S2
 refine ls 7 H<|sr 7 rfl<|sE ?_;clear H a;intro a H
 refine k24 _ _ ?_;clear k24 K24
 refine wp_seq_k fun K25 k25=>?_
 replace H:=H.keep [5,11] rfl
 replace S:=S.drew
 refine sD H fun K26 k26=>sr 2 rfl<|sg 4 1 106 110 false G G (fun hg2=>by
     have hq2:=hg2;try simp only [o1,o2,o3,o4,o5,o6,o7,o8,o9,oa] at hq2
     exact sy hg2<|sf rZ rfl<|sy hg2<|sl S 0 aD G G G<|sy hg2<|sc rfl Tryz.func14 G G (cW _ _ _ _)<|sy hg2<|sr 1 rfl<|sz 4 G G G)<|so G G G<|sr 1 rfl<|sg 18 7 112 130 false G G (fun hg8=>by
     have hq8:=hg8;try simp only [o1,o2,o3,o4,o5,o6,o7,o8,o9,oa] at hq8
     exact sy hg8<|sf gR rfl<|sy hg8<|sl S 0 jL G G G<|sy hg8<|sL dJ rfl<|sy hg8<|sr 1 rfl<|sy hg8<|sr 1 rfl<|sg 12 12 117 129 true G G (fun hg13=>by
          have hq13:=hg13;try simp only [o1,o2,o3,o4,o5,o6,o7,o8,o9,oa] at hq13
          exact sy hg13<|sf rZ rfl<|sy hg13<|sl S 0 aD G G G<|sy hg13<|sf gR rfl<|sy hg13<|sl S 0 jL G G G<|sy hg13<|sf gR rfl<|sy hg13<|sl S 0 jL G G G<|sy hg13<|sL dJ rfl<|sy hg13<|sd (aU G G (by unfold i64ok;omega))<|sy hg13<|sI dJ cY G G ((hy.ul i hi).adr (by omega)) (by omega) (by omega)<|sy hg13<|sp gS rfl<|sy hg13<|slm aD rfl ((hy.ul i hi).rd S (by omega) (by omega))<|sy hg13<|sr 1 rfl<|sz 12 G G G)<|sy hg8<|sa G G G<|sz 7 G G G)<|so G G G<|sE ?_;clear H a;intro a H
 refine k26 _ ?_;clear k26 K26
 refine cond_ H rfl (fun hc4=>?_) (fun hc4=>?_)
 ·skip
  try simp only [o1,o2,o3,o4,o5,o6,o7,o8,o9,oa] at hc4
  replace H:=H.keep [] rfl
  refine sS H fun K27 k27=>sr 1 rfl<|sE ?_;clear H a;intro a H
  refine k27 _ ?_;clear k27 K27
  refine wp_ret ?_
  refine ret1 (fn:=Tryz.f30) rfl H rfl ?_
  rw [Bm (fun h=>by
    have h2:=h.i;have h3:=vB h.wear;unfold untI at h2
    have h5:=hrw.1 h.wear
    rcases hc4 with (h9|h9)|h9
    · have h6:(refO (y.us.getD i Unt.zero).part (y.us.getD i Unt.zero).uses).2.1=true:=h9
      rw [h5] at h6;cases h6
    · omega
    · have h7:=Jz (l:=(y.us.getD i Unt.zero).uses) (by omega) h9.2;omega)];exact ⟨rfl,(S.sel [] G G)⟩
 try simp only [o1,o2,o3,o4,o5,o6,o7,o8,o9,oa] at hc4
 refine wp_skip ?_
 refine k25 _ _ ?_
 replace H:=H.keep [5] rfl
 refine sS H fun K28 k28=>sf sA rfl<|sl S 0 aD G G G<|sc rfl Tryz.func14 G G (cW _ _ _ _)<|sr 1 rfl<|sg 8 3 135 143 true G G (fun hg4=>by
     have hq4:=hg4;try simp only [o1,o2,o3,o4,o5,o6,o7,o8,o9,oa] at hq4
     exact sy hg4<|sf sB rfl<|sy hg4<|sl S 0 aD G G G<|sy hg4<|sf mQ rfl<|sy hg4<|sf fJ rfl<|sy hg4<|sl S 0 iD G G G<|sy hg4<|sL dM rfl<|sy hg4<|sd (aU G G (by unfold i64ok;omega))<|sy hg4<|sc rfl Tryz.func14 G G (cW _ _ _ _)<|sz 8 G G G)<|sa G G G<|sr 1 rfl<|sE ?_;clear H a;intro a H
 refine k28 _ ?_;clear k28 K28
 refine wp_ret ?_
 refine ret1 (fn:=Tryz.f30) rfl H rfl ?_
 refine ⟨congrArg Value.bool ?_,(S.sel [] G G)⟩
 rw [Bool.eq_iff_iff,iT]
 simp only [Bool.and_eq_true,decide_eq_true_eq]
 constructor
 · intro h9
   refine ⟨?_,?_,hrw.2 ?_⟩
   · show freeN _ _ _ _ _=true;rcases hc3 with ⟨⟨⟨⟨⟨h1,_⟩,_⟩,_⟩,_⟩,_⟩;exact h1
   · have h8:=Jy (l:=(y.us.getD i Unt.zero).uses) (o:=(y.us.getD i Unt.zero).old) (by omega) (by omega)
     unfold untI;omega
   · rcases hc4 with ⟨⟨h1,_⟩,_⟩;exact h1
 · intro h9
   have h2:=h9.i
   unfold untI at h2
   omega
theorem gX (y:Yr) (w:World) (hy:YIn w noF y) (hyb:YBd y) :
    Calls Tryz.prog 12 [.agg [.int .i64 y.days,.int .i64 y.pl,.slice y.PA y.ps.length y.pc,.slice y.XA y.xs.length y.xc,.slice y.BA y.pe.length y.bc,.int .i64 y.limit,.bool y.help,.slice y.QA y.prs.length y.qc,.slice y.VA y.us.length y.vc,.int .i64 y.crew,.slice y.SA y.sps.length y.sc].toArray].toArray w (Ret (fun v w'=>v = .int .i64 (yearE y)∧St w noF [] w')):=by
 have hn3:=hyb.usn
 refine enter Tryz.func12 rfl Tryz.ntmps12 rfl (fun a H=>?_)
 have S:=St.start w
 refine seq_list fun K1 k1=>?_
 refine aO H rfl S G G ?_;clear H a S;intro b1 _ a hb1 hbw1 S H
 refine ls 1 H<|sr 1 rfl<|sE ?_;clear H a;intro a H
 refine k1 _ _ ?_;clear k1 K1
 refine seq_list fun K2 k2=>?_
 refine ls 2 H<|sf eB rfl<|sd ((aC cA cZ rfl S (i:=0) G G))<|sE ?_;clear H a;intro a H
 refine aA H G G Tryz.func27 G G (mK y.pl y.ps y.PA y.pc y.xs y.XA y.xc _ (hy.ps.now S) hyb.psn (hy.xs.now S) hyb.xsn) ?_;clear H a
 rintro _ _ a ⟨rfl,S2⟩ H
 replace S:=S.call S2;clear S2
 refine ls 1 H<|sr 1 rfl<|sE ?_;clear H a;intro a H
 refine k2 _ _ ?_;clear k2 K2
 refine wp_seq_k fun K3 k3=>?_
 refine sS H fun K4 k4=>sr 2 rfl<|sE ?_;clear H a;intro a H
 refine k4 _ ?_;clear k4 K4
 refine condN H rfl (fun hc1=>?_) (fun hc1=>?_)
 ·skip
  replace H:=H.keep [3] rfl
  refine sS H fun K5 k5=>sr 2 rfl<|sE ?_;clear H a;intro a H
  refine k5 _ ?_;clear k5 K5
  refine wp_ret ?_
  refine ret1 (fn:=Tryz.f12) rfl H rfl ?_
  have e9:=uH (day:=[]) (l:=y.prs) hc1
  rw [nZ (by rw [e9];exact hc1),e9];exact ⟨rfl,(S.sel [] G G)⟩
 refine wp_skip ?_
 refine k3 _ _ ?_
 refine seq_list fun K6 k6=>?_
 refine ls 4 H<|sf eB rfl<|sd ((aC cA cZ rfl S (i:=0) G G))<|sf rW rfl<|sl S 0 xM G G G<|sE ?_;clear H a;intro a H
 refine aA H G G Tryz.func28 G G (pU y.pl y.ps y.PA y.pc y.xs y.XA y.xc ([]:List Hq) none 0 (fun _=>none) (fun _=>0) y.prs y.QA y.qc _ (hy.ps.now S) hyb.psn (hy.xs.now S) hyb.xsn InS.nil (by decide) (fun k hk=>absurd hk (Nat.not_lt_zero k)) (fun k hk=>absurd hk (Nat.not_lt_zero k)) (hy.prs.now S) hyb.prn) ?_;clear H a
 rintro _ _ a ⟨rfl,S2⟩ H
 replace S:=S.call S2;clear S2
 refine ls 1 H<|sr 1 rfl<|sE ?_;clear H a;intro a H
 refine k6 _ _ ?_;clear k6 K6
 refine wp_seq_k fun K7 k7=>?_
 replace H:=H.keep [1,3] rfl
 refine sS H fun K8 k8=>sr 2 rfl<|sE ?_;clear H a;intro a H
 refine k8 _ ?_;clear k8 K8
 refine condN H rfl (fun hc2=>?_) (fun hc2=>?_)
 ·skip
  refine sS H fun K9 k9=>sr 2 rfl<|sE ?_;clear H a;intro a H
  refine k9 _ ?_;clear k9 K9
  refine wp_ret ?_
  refine ret1 (fn:=Tryz.f12) rfl H rfl ?_
  exact ⟨congrArg _ (nZ hc2).symm,(S.sel [] G G)⟩
 refine wp_skip ?_
 refine k7 _ _ ?_
 refine wp_seq_k fun K10 k10=>?_
 refine seq_list fun K11 k11=>?_
 refine ls 1 H<|sd ((aC fA hY rfl S (i:=0) G G))<|sE ?_;clear H a;intro a H
 refine aA H G G Tryz.func29 G G (Kb y _ (hy.now S) hyb (by omega)) ?_;clear H a
 rintro _ _ a ⟨rfl,S2⟩ H
 replace S:=S.call S2;clear S2
 refine ls 1 H<|sr 1 rfl<|sE ?_;clear H a;intro a H
 refine k11 _ _ ?_;clear k11 K11
 refine cond_ H rfl (fun hc3=>?_) (fun hc3=>?_)
 ·skip
  try simp only [o1,o2,o3,o4,o5,o6,o7,o8,o9,oa] at hc3
  refine sS H fun K12 k12=>sr 1 rfl<|sE ?_;clear H a;intro a H
  refine k12 _ ?_;clear k12 K12
  refine wp_ret ?_
  refine ret1 (fn:=Tryz.f12) rfl H rfl ?_
  rw [pK (by omega) (fun h=>by rw [Pq h] at hc3;simp at hc3)];exact ⟨rfl,(S.sel [] G G)⟩
 try simp only [o1,o2,o3,o4,o5,o6,o7,o8,o9,oa] at hc3
 have hyi:=Ty.1 (by simpa using hc3)
 refine wp_skip ?_
 refine k10 _ _ ?_
 refine wp_seq_k fun K13 k13=>?_
 replace H:=H.keep [1] rfl
 refine sS H fun K14 k14=>sf cP rfl<|sl S 0 dT G G G<|sL eM rfl<|sr 1 rfl<|sE ?_;clear H a;intro a H
 refine k14 _ ?_;clear k14 K14
 refine condL H rfl (fun hc4=>?_) (fun hc4=>?_)
 ·skip
  refine sS H fun K15 k15=>sr 1 rfl<|sE ?_;clear H a;intro a H
  refine k15 _ ?_;clear k15 K15
  refine wp_ret ?_
  refine ret1 (fn:=Tryz.f12) rfl H rfl ?_
  rw [uR (by omega) hyi (by omega)];exact ⟨rfl,(S.sel [] G G)⟩
 refine wp_skip ?_
 refine k13 _ _ ?_
 refine wp_seq_k fun K16 k16=>?_
 refine sS H fun K17 k17=>sr 1 rfl<|sE ?_;clear H a;intro a H
 refine k17 _ ?_;clear k17 K17
 refine wp_block ?_
 refine loop_st (X:=Nat) (R0:=_) [1] H rfl (fun k=>[(4,.int .i64 (k:Int))]) (fun k=>[]) (fun g k=>k≤y.us.length∧g+k=y.us.length∧∀ q,q<k→untB y.ps y.us q=true) (y.us.length) 0 ?_ (S.sel [0] G G) (H.keep [4,1] rfl) ?_
 · exact ⟨by omega,by omega,fun q hq=>absurd hq (Nat.not_lt_zero q)⟩
 clear H S a
 intro g1 x1 a w1 hp S H K18 k18
 obtain ⟨k,rfl⟩:∃ y,y=x1:=⟨_,rfl⟩
 refine wp_seq_k fun K19 k19=>?_
 refine sS H fun K20 k20=>sr 1 rfl<|sf cP rfl<|sl S 0 dT G G G<|sL eM rfl<|sr 1 rfl<|sE ?_;clear H a;intro a H
 refine k20 _ ?_;clear k20 K20
 refine condL H rfl (fun hc5=>?_) (fun hc5=>?_)
 ·skip
  refine wp_skip ?_
  refine k19 _ _ ?_
  refine wp_seq_k fun K21 k21=>?_
  refine wp_block ?_
  refine seq_list fun K22 k22=>?_
  refine ls 2 H<|sd ((aC fA hY rfl S (i:=0) G G))<|sr 1 rfl<|sE ?_;clear H a;intro a H
  refine aA H G G Tryz.func30 G G (Kc y k _ (hy.now S) hyb (by omega)) ?_;clear H a
  rintro _ _ a ⟨rfl,S2⟩ H
  replace S:=S.call S2;clear S2
  refine ls 1 H<|sr 1 rfl<|sE ?_;clear H a;intro a H
  refine k22 _ _ ?_;clear k22 K22
  refine cond_ H rfl (fun hc6=>?_) (fun hc6=>?_)
  ·skip
   try simp only [o1,o2,o3,o4,o5,o6,o7,o8,o9,oa] at hc6
   replace H:=H.keep [] rfl
   refine sS H fun K23 k23=>sr 1 rfl<|sE ?_;clear H a;intro a H
   refine k23 _ ?_;clear k23 K23
   refine wp_ret ?_
   refine ret1 (fn:=Tryz.f12) rfl H rfl ?_
   rw [uS (by omega) hyi (by omega) (show k<y.us.length by omega) (by simpa using hc6)];exact ⟨rfl,(S.sel [] G G)⟩
  try simp only [o1,o2,o3,o4,o5,o6,o7,o8,o9,oa] at hc6
  refine wp_skip ?_
  refine k21 _ _ ?_
  refine sO H<|sr 1 rfl<|sd (aK G G (by unfold i64ok;omega))<|sr 1 rfl<|sE ?_;clear H a;intro a H
  exact k18 (g1-1) (k+1) a _ (by omega) (⟨by omega,by omega,eW (f:=untB y.ps y.us) hp.2.2 (by simpa using hc6)⟩) (S.sel [0] G G) (H.keep [4,1] rfl)
 refine wp_exit ?_
 refine k16 _ _ ?_
 refine sS H fun K25 k25=>sr 1 rfl<|sE ?_;clear H a;intro a H
 refine k25 _ ?_;clear k25 K25
 refine wp_ret ?_
 refine ret1 (fn:=Tryz.f12) rfl H rfl ?_
 rw [Bj (by omega) hyi (by omega) (bX.2 fun q hq=>hp.2.2 q (by omega))];exact ⟨rfl,(S.sel [] G G)⟩
theorem Pu (y:Yr) (l:List Tsk) (LA:Option Addr) (lc:Nat) (w:World) (hy:YIn w noF y) (hyb:YBd y) (hl:InS w noF 3 LA l.length (cM l)) (hln:l.length≤9223372036854775807) :
    Calls Tryz.prog 5 [.agg [.int .i64 y.days,.int .i64 y.pl,.slice y.PA y.ps.length y.pc,.slice y.XA y.xs.length y.xc,.slice y.BA y.pe.length y.bc,.int .i64 y.limit,.bool y.help,.slice y.QA y.prs.length y.qc,.slice y.VA y.us.length y.vc,.int .i64 y.crew,.slice y.SA y.sps.length y.sc].toArray,.slice LA l.length lc].toArray w (Ret (fun v w'=>v = .int .i64 (taskE y l)∧St w noF [] w')):=by
 have hn3:=hyb.usn
 refine enter Tryz.func5 rfl Tryz.ntmps5 rfl (fun a H=>?_)
 have S:=St.start w
 refine seq_list fun K1 k1=>?_
 refine aO H rfl S G G ?_;clear H a S;intro b2 _ a hb2 hbw2 S H
 refine ls 1 H<|sr 1 rfl<|sE ?_;clear H a;intro a H
 refine k1 _ _ ?_;clear k1 K1
 refine seq_list fun K2 k2=>?_
 refine ls 1 H<|sd ((aC fA hY rfl S (i:=0) G G))<|sE ?_;clear H a;intro a H
 refine aA H G G Tryz.func12 G G (gX y _ (hy.now S) hyb) ?_;clear H a
 rintro _ _ a ⟨rfl,S2⟩ H
 replace S:=S.call S2;clear S2
 refine ls 1 H<|sr 1 rfl<|sE ?_;clear H a;intro a H
 refine k2 _ _ ?_;clear k2 K2
 refine wp_seq_k fun K3 k3=>?_
 refine sS H fun K4 k4=>sr 2 rfl<|sE ?_;clear H a;intro a H
 refine k4 _ ?_;clear k4 K4
 refine condN H rfl (fun hc1=>?_) (fun hc1=>?_)
 ·skip
  refine sS H fun K5 k5=>sr 2 rfl<|sE ?_;clear H a;intro a H
  refine k5 _ ?_;clear k5 K5
  refine wp_ret ?_
  refine ret1 (fn:=Tryz.f5) rfl H rfl ?_
  exact ⟨congrArg _ (uT hc1).symm,(S.sel [] G G)⟩
 have hye:yearE y=0:=by omega
 have hyi:=(pL hye).yr
 unfold yrI at hyi
 refine wp_skip ?_
 refine k3 _ _ ?_
 refine wp_seq_k fun K6 k6=>?_
 replace H:=H.keep [1,2] rfl
 refine sS H fun K7 k7=>sr 1 rfl<|sL dE rfl<|sr 1 rfl<|sE ?_;clear H a;intro a H
 refine k7 _ ?_;clear k7 K7
 refine condL H rfl (fun hc2=>?_) (fun hc2=>?_)
 ·skip
  refine sS H fun K8 k8=>sr 1 rfl<|sE ?_;clear H a;intro a H
  refine k8 _ ?_;clear k8 K8
  refine wp_ret ?_
  refine ret1 (fn:=Tryz.f5) rfl H rfl ?_
  rw [uU hye (by omega)];exact ⟨rfl,(S.sel [] G G)⟩
 refine wp_skip ?_
 refine k6 _ _ ?_
 refine wp_seq_k fun K9 k9=>?_
 refine sS H fun K10 k10=>sr 1 rfl<|sE ?_;clear H a;intro a H
 refine k10 _ ?_;clear k10 K10
 refine wp_block ?_
 refine loop_st (X:=Nat) (R0:=_) [1,2] H rfl (fun k=>[(6,.int .i64 (k:Int))]) (fun k=>[]) (fun g k=>k≤l.length∧g+k=l.length∧∀ q,q<k→tskB y l q=true) (l.length) 0 ?_ (S.sel [0] G G) (H.keep [6,1,2] rfl) ?_
 · exact ⟨by omega,by omega,fun q hq=>absurd hq (Nat.not_lt_zero q)⟩
 clear H S a
 intro g1 x1 a w1 hp S H K11 k11
 obtain ⟨k,rfl⟩:∃ y,y=x1:=⟨_,rfl⟩
 refine wp_seq_k fun K12 k12=>?_
 refine sS H fun K13 k13=>sr 2 rfl<|sL dE rfl<|sr 1 rfl<|sE ?_;clear H a;intro a H
 refine k13 _ ?_;clear k13 K13
 refine condL H rfl (fun hc3=>?_) (fun hc3=>?_)
 ·skip
  refine wp_skip ?_
  refine k12 _ _ ?_
  refine wp_seq_k fun K14 k14=>?_
  refine wp_block ?_
  rcases chk5 (0≤(l.getD k Tsk.zero).day∧(l.getD k Tsk.zero).day≤y.days-1) (0≤(l.getD k Tsk.zero).unit∧(l.getD k Tsk.zero).unit≤(y.us.length:Int)-1) (1≤(l.getD k Tsk.zero).kind∧(l.getD k Tsk.zero).kind≤2) k with hB|hB|hB|hB|hB
  ·skip
   skip
   replace H:=H.keep [1,2,6] rfl
   replace S:=S.drew
   refine seq_wq [(0,true),(1,true),(2,true),(3,true),(4,true),(5,true),(6,true),(7,true),(8,false),(9,true),(10,true),(11,true),(12,true),(13,true),(14,true),(15,true),(16,true),(17,true),(18,true),(19,true),(20,true),(21,true),(22,true),(23,true),(24,true),(25,true),(26,true),(27,true),(28,true),(29,true),(30,true),(31,true),(32,true),(33,true),(34,true),(35,true),(36,true),(37,true),(38,true),(39,true),(40,true),(41,true),(42,true),(43,true),(44,true),(45,true),(46,true),(47,true),(48,true)] (by kernel_rfl) (by kernel_rfl) (S.sel [0] G G) fun K15 k15=>?_
   refine qF H<|qr 2 rfl<|qd rfl (fun _ S=>bC dE cT G G (hl.adr (by omega)) (by omega))<|qd rfl (fun _ S=>(bP cQ rfl))<|qd rfl (fun _ S=>aE aD rfl (hl.rd S (by omega) (by omega)))<|qd rfl (fun _ S=>(aB dH rfl))<|qd rfl (fun _ S=>aE aD rfl (boxM.rd S (i:=0) G G))<|qd rfl (fun _ S=>aU G G (by unfold i64ok;omega))<|qK ?_;clear H a;intro a H
   refine aS rfl ?_
   refine aA H G G Tryz.func14 G G (cW _ _ _ _) ?_;clear H a
   rintro _ _ a ⟨rfl,rfl⟩ H
   refine wpList_nil (And.intro (S.sel [0] G G) ?_)
   refine qF H<|qd rfl (fun _ S=>gK rfl (by omega))<|qr 1 rfl<|qK ?_;clear H a;intro a H
   refine aJ H G G G G G ?_;clear H a;intro a H
   refine aJ H G G G G G ?_;clear H a;intro a H
   refine aJ H G G G G G ?_;clear H a;intro a H
   refine aJ H G G G G G ?_;clear H a;intro a H
   refine aJ H G G G G G ?_;clear H a;intro a H
   refine aJ H G G G G G ?_;clear H a;intro a H
   refine aJ H G G G G G ?_;clear H a;intro a H
   refine aJ H G G G G G ?_;clear H a;intro a H
   refine aJ H G G G G G ?_;clear H a;intro a H
   refine aJ H G G G G G ?_;clear H a;intro a H
   refine aJ H G G G G G ?_;clear H a;intro a H
   refine qF H<|qd rfl (fun _ S=>(aR G G G))<|qr 1 rfl<|qK ?_;clear H a;intro a H
   refine aJ H G G G G G ?_;clear H a;intro a H
   refine aJ H G G G G G ?_;clear H a;intro a H
   refine aJ H G G G G G ?_;clear H a;intro a H
   refine aJ H G G G G G ?_;clear H a;intro a H
   refine aJ H G G G G G ?_;clear H a;intro a H
   refine aJ H G G G G G ?_;clear H a;intro a H
   refine aJ H G G G G G ?_;clear H a;intro a H
   refine qF H<|qd rfl (fun _ S=>(aR G G G))<|qr 1 rfl<|qK ?_;clear H a;intro a H
   refine aJ H G G G G G ?_;clear H a;intro a H
   refine aJ H G G G G G ?_;clear H a;intro a H
   refine aJ H G G G G G ?_;clear H a;intro a H
   refine bS H G G G G ?_;clear H a;intro a H
   refine bS H G G G G ?_;clear H a;intro a H
   refine bS H G G G G ?_;clear H a;intro a H
   refine bS H G G G G ?_;clear H a;intro a H
   refine bS H G G G G ?_;clear H a;intro a H
   refine bS H G G G G ?_;clear H a;intro a H
   refine bS H G G G G ?_;clear H a;intro a H
   refine bS H G G G G ?_;clear H a;intro a H
   refine bS H G G G G ?_;clear H a;intro a H
   refine bS H G G G G ?_;clear H a;intro a H
   refine bS H G G G G ?_;clear H a;intro a H
   refine aJ H G G G G G ?_;clear H a;intro a H
   refine qF H<|qd rfl (fun _ S=>(aR G G G))<|qK ?_;clear H a;intro a H
   refine bF ?_
   refine k15 _ _ ?_
   clear k15 K15
   refine cond_ H rfl (fun hc4=>?_) (fun hc4=>?_)
   ·skip
    skip
    replace H:=H.keep [] rfl
    refine sS H fun K16 k16=>sr 1 rfl<|sE ?_;clear H a;intro a H
    refine k16 _ ?_;clear k16 K16
    refine wp_ret ?_
    refine ret1 (fn:=Tryz.f5) rfl H rfl ?_
    rw [gJ hye (by omega) (show k<l.length by omega) (kU (by omega))];exact ⟨rfl,(S.sel [] G G)⟩
   skip
   cases hc4
  ·skip
   skip
   replace H:=H.keep [1,2,6] rfl
   replace S:=S.drew
   refine seq_wq [(0,true),(1,true),(2,true),(3,true),(4,true),(5,true),(6,true),(7,true),(8,false),(9,true),(10,true),(11,true),(12,true),(13,true),(14,true),(15,true),(16,true),(17,true),(18,true),(19,true),(20,false),(21,true),(22,true),(23,true),(24,true),(25,true),(26,true),(27,true),(28,true),(29,true),(30,true),(31,true),(32,true),(33,true),(34,true),(35,true),(36,true),(37,true),(38,true),(39,true),(40,true),(41,true),(42,true),(43,true),(44,true),(45,true),(46,true),(47,true),(48,true)] (by kernel_rfl) (by kernel_rfl) (S.sel [0] G G) fun K17 k17=>?_
   refine qF H<|qr 2 rfl<|qd rfl (fun _ S=>bC dE cT G G (hl.adr (by omega)) (by omega))<|qd rfl (fun _ S=>(bP cQ rfl))<|qd rfl (fun _ S=>aE aD rfl (hl.rd S (by omega) (by omega)))<|qd rfl (fun _ S=>(aB dH rfl))<|qd rfl (fun _ S=>aE aD rfl (boxM.rd S (i:=0) G G))<|qd rfl (fun _ S=>aU G G (by unfold i64ok;omega))<|qK ?_;clear H a;intro a H
   refine aS rfl ?_
   refine aA H G G Tryz.func14 G G (cW _ _ _ _) ?_;clear H a
   rintro _ _ a ⟨rfl,rfl⟩ H
   refine wpList_nil (And.intro (S.sel [0] G G) ?_)
   refine qF H<|qd rfl (fun _ S=>bT rfl (by omega))<|qr 1 rfl<|qK ?_;clear H a;intro a H
   refine aG H G G G G (fun _ S=>aL rfl) ?_;clear H a;intro a H
   refine aG H G G G G (fun _ S=>aL rfl) ?_;clear H a;intro a H
   refine aG H G G G G (fun _ S=>bC dE cT G G (hl.adr (by omega)) (by omega)) ?_;clear H a;intro a H
   refine aG H G G G G (fun _ S=>(bP dN rfl)) ?_;clear H a;intro a H
   refine aG H G G G G (fun _ S=>aE aD rfl (hl.rd S (by omega) (by omega))) ?_;clear H a;intro a H
   refine aG H G G G G (fun _ S=>(aB cP rfl)) ?_;clear H a;intro a H
   refine aG H G G G G (fun _ S=>aE dT rfl (boxM.rd S (i:=0) G G)) ?_;clear H a;intro a H
   refine aG H G G G G (fun _ S=>cB eM rfl) ?_;clear H a;intro a H
   refine aG H G G G G (fun _ S=>aU G G (by unfold i64ok;omega)) ?_;clear H a;intro a H
   refine aS rfl ?_
   refine aX H G G ?_
   refine aA H G G Tryz.func14 G G (cW _ _ _ _) ?_;clear H a
   rintro _ _ a ⟨rfl,rfl⟩ H
   refine wpList_nil (And.intro (S.sel [0] G G) ?_)
   refine aG H G G G G (fun _ S=>gK rfl (by omega)) ?_;clear H a;intro a H
   refine qF H<|qd rfl (fun _ S=>(aY G G G))<|qr 1 rfl<|qK ?_;clear H a;intro a H
   refine aJ H G G G G G ?_;clear H a;intro a H
   refine aJ H G G G G G ?_;clear H a;intro a H
   refine aJ H G G G G G ?_;clear H a;intro a H
   refine aJ H G G G G G ?_;clear H a;intro a H
   refine aJ H G G G G G ?_;clear H a;intro a H
   refine aJ H G G G G G ?_;clear H a;intro a H
   refine aJ H G G G G G ?_;clear H a;intro a H
   refine qF H<|qd rfl (fun _ S=>(aR G G G))<|qr 1 rfl<|qK ?_;clear H a;intro a H
   refine aJ H G G G G G ?_;clear H a;intro a H
   refine aJ H G G G G G ?_;clear H a;intro a H
   refine aJ H G G G G G ?_;clear H a;intro a H
   refine bS H G G G G ?_;clear H a;intro a H
   refine bS H G G G G ?_;clear H a;intro a H
   refine bS H G G G G ?_;clear H a;intro a H
   refine bS H G G G G ?_;clear H a;intro a H
   refine bS H G G G G ?_;clear H a;intro a H
   refine bS H G G G G ?_;clear H a;intro a H
   refine bS H G G G G ?_;clear H a;intro a H
   refine bS H G G G G ?_;clear H a;intro a H
   refine bS H G G G G ?_;clear H a;intro a H
   refine bS H G G G G ?_;clear H a;intro a H
   refine bS H G G G G ?_;clear H a;intro a H
   refine aJ H G G G G G ?_;clear H a;intro a H
   refine qF H<|qd rfl (fun _ S=>(aR G G G))<|qK ?_;clear H a;intro a H
   refine bF ?_
   refine k17 _ _ ?_
   clear k17 K17
   refine cond_ H rfl (fun hc5=>?_) (fun hc5=>?_)
   ·skip
    skip
    replace H:=H.keep [] rfl
    refine sS H fun K18 k18=>sr 1 rfl<|sE ?_;clear H a;intro a H
    refine k18 _ ?_;clear k18 K18
    refine wp_ret ?_
    refine ret1 (fn:=Tryz.f5) rfl H rfl ?_
    rw [gJ hye (by omega) (show k<l.length by omega) (kU (by omega))];exact ⟨rfl,(S.sel [] G G)⟩
   skip
   cases hc5
  ·skip
   skip
   replace H:=H.keep [1,2,6] rfl
   replace S:=S.drew
   refine seq_wq [(0,true),(1,true),(2,true),(3,true),(4,true),(5,true),(6,true),(7,true),(8,false),(9,true),(10,true),(11,true),(12,true),(13,true),(14,true),(15,true),(16,true),(17,true),(18,true),(19,true),(20,false),(21,true),(22,true),(23,true),(24,true),(25,true),(26,true),(27,true),(28,true),(29,false),(30,true),(31,true),(32,true),(33,true),(34,true),(35,true),(36,true),(37,true),(38,true),(39,true),(40,true),(41,true),(42,true),(43,true),(44,true),(45,true),(46,true),(47,true),(48,true)] (by kernel_rfl) (by kernel_rfl) (S.sel [0] G G) fun K19 k19=>?_
   refine qF H<|qr 2 rfl<|qd rfl (fun _ S=>bC dE cT G G (hl.adr (by omega)) (by omega))<|qd rfl (fun _ S=>(bP cQ rfl))<|qd rfl (fun _ S=>aE aD rfl (hl.rd S (by omega) (by omega)))<|qd rfl (fun _ S=>(aB dH rfl))<|qd rfl (fun _ S=>aE aD rfl (boxM.rd S (i:=0) G G))<|qd rfl (fun _ S=>aU G G (by unfold i64ok;omega))<|qK ?_;clear H a;intro a H
   refine aS rfl ?_
   refine aA H G G Tryz.func14 G G (cW _ _ _ _) ?_;clear H a
   rintro _ _ a ⟨rfl,rfl⟩ H
   refine wpList_nil (And.intro (S.sel [0] G G) ?_)
   refine qF H<|qd rfl (fun _ S=>bT rfl (by omega))<|qr 1 rfl<|qK ?_;clear H a;intro a H
   refine aG H G G G G (fun _ S=>aL rfl) ?_;clear H a;intro a H
   refine aG H G G G G (fun _ S=>aL rfl) ?_;clear H a;intro a H
   refine aG H G G G G (fun _ S=>bC dE cT G G (hl.adr (by omega)) (by omega)) ?_;clear H a;intro a H
   refine aG H G G G G (fun _ S=>(bP dN rfl)) ?_;clear H a;intro a H
   refine aG H G G G G (fun _ S=>aE aD rfl (hl.rd S (by omega) (by omega))) ?_;clear H a;intro a H
   refine aG H G G G G (fun _ S=>(aB cP rfl)) ?_;clear H a;intro a H
   refine aG H G G G G (fun _ S=>aE dT rfl (boxM.rd S (i:=0) G G)) ?_;clear H a;intro a H
   refine aG H G G G G (fun _ S=>cB eM rfl) ?_;clear H a;intro a H
   refine aG H G G G G (fun _ S=>aU G G (by unfold i64ok;omega)) ?_;clear H a;intro a H
   refine aS rfl ?_
   refine aX H G G ?_
   refine aA H G G Tryz.func14 G G (cW _ _ _ _) ?_;clear H a
   rintro _ _ a ⟨rfl,rfl⟩ H
   refine wpList_nil (And.intro (S.sel [0] G G) ?_)
   refine aG H G G G G (fun _ S=>bT rfl (by omega)) ?_;clear H a;intro a H
   refine qF H<|qd rfl (fun _ S=>(aY G G G))<|qr 1 rfl<|qK ?_;clear H a;intro a H
   refine aG H G G G G (fun _ S=>aL rfl) ?_;clear H a;intro a H
   refine aG H G G G G (fun _ S=>aL rfl) ?_;clear H a;intro a H
   refine aG H G G G G (fun _ S=>bC dE cT G G (hl.adr (by omega)) (by omega)) ?_;clear H a;intro a H
   refine aG H G G G G (fun _ S=>(bP fV rfl)) ?_;clear H a;intro a H
   refine aG H G G G G (fun _ S=>aE aD rfl (hl.rd S (by omega) (by omega))) ?_;clear H a;intro a H
   refine aS rfl ?_
   refine aX H G G ?_
   refine aA H G G Tryz.func14 G G (cW _ _ _ _) ?_;clear H a
   rintro _ _ a ⟨rfl,rfl⟩ H
   refine wpList_nil (And.intro (S.sel [0] G G) ?_)
   refine aG H G G G G (fun _ S=>gK rfl (by omega)) ?_;clear H a;intro a H
   refine qF H<|qd rfl (fun _ S=>(aY G G G))<|qr 1 rfl<|qK ?_;clear H a;intro a H
   refine aJ H G G G G G ?_;clear H a;intro a H
   refine aJ H G G G G G ?_;clear H a;intro a H
   refine aJ H G G G G G ?_;clear H a;intro a H
   refine bS H G G G G ?_;clear H a;intro a H
   refine bS H G G G G ?_;clear H a;intro a H
   refine bS H G G G G ?_;clear H a;intro a H
   refine bS H G G G G ?_;clear H a;intro a H
   refine bS H G G G G ?_;clear H a;intro a H
   refine bS H G G G G ?_;clear H a;intro a H
   refine bS H G G G G ?_;clear H a;intro a H
   refine bS H G G G G ?_;clear H a;intro a H
   refine bS H G G G G ?_;clear H a;intro a H
   refine bS H G G G G ?_;clear H a;intro a H
   refine bS H G G G G ?_;clear H a;intro a H
   refine aJ H G G G G G ?_;clear H a;intro a H
   refine qF H<|qd rfl (fun _ S=>(aR G G G))<|qK ?_;clear H a;intro a H
   refine bF ?_
   refine k19 _ _ ?_
   clear k19 K19
   refine cond_ H rfl (fun hc6=>?_) (fun hc6=>?_)
   ·skip
    skip
    replace H:=H.keep [] rfl
    refine sS H fun K20 k20=>sr 1 rfl<|sE ?_;clear H a;intro a H
    refine k20 _ ?_;clear k20 K20
    refine wp_ret ?_
    refine ret1 (fn:=Tryz.f5) rfl H rfl ?_
    rw [gJ hye (by omega) (show k<l.length by omega) (kU (by omega))];exact ⟨rfl,(S.sel [] G G)⟩
   skip
   cases hc6
  ·skip
   skip
   replace H:=H.keep [1,2,6] rfl
   replace S:=S.drew
   refine seq_wq [(0,true),(1,true),(2,true),(3,true),(4,true),(5,true),(6,true),(7,true),(8,false),(9,true),(10,true),(11,true),(12,true),(13,true),(14,true),(15,true),(16,true),(17,true),(18,true),(19,true),(20,false),(21,true),(22,true),(23,true),(24,true),(25,true),(26,true),(27,true),(28,true),(29,false),(30,true),(31,true),(32,true),(33,true),(34,true),(35,true),(36,true),(37,true),(38,true),(39,true),(40,true),(41,true),(42,true),(43,true),(44,true),(45,true),(46,true),(47,true),(48,true)] (by kernel_rfl) (by kernel_rfl) (S.sel [0] G G) fun K21 k21=>?_
   refine qF H<|qr 2 rfl<|qd rfl (fun _ S=>bC dE cT G G (hl.adr (by omega)) (by omega))<|qd rfl (fun _ S=>(bP cQ rfl))<|qd rfl (fun _ S=>aE aD rfl (hl.rd S (by omega) (by omega)))<|qd rfl (fun _ S=>(aB dH rfl))<|qd rfl (fun _ S=>aE aD rfl (boxM.rd S (i:=0) G G))<|qd rfl (fun _ S=>aU G G (by unfold i64ok;omega))<|qK ?_;clear H a;intro a H
   refine aS rfl ?_
   refine aA H G G Tryz.func14 G G (cW _ _ _ _) ?_;clear H a
   rintro _ _ a ⟨rfl,rfl⟩ H
   refine wpList_nil (And.intro (S.sel [0] G G) ?_)
   refine qF H<|qd rfl (fun _ S=>bT rfl (by omega))<|qr 1 rfl<|qK ?_;clear H a;intro a H
   refine aG H G G G G (fun _ S=>aL rfl) ?_;clear H a;intro a H
   refine aG H G G G G (fun _ S=>aL rfl) ?_;clear H a;intro a H
   refine aG H G G G G (fun _ S=>bC dE cT G G (hl.adr (by omega)) (by omega)) ?_;clear H a;intro a H
   refine aG H G G G G (fun _ S=>(bP dN rfl)) ?_;clear H a;intro a H
   refine aG H G G G G (fun _ S=>aE aD rfl (hl.rd S (by omega) (by omega))) ?_;clear H a;intro a H
   refine aG H G G G G (fun _ S=>(aB cP rfl)) ?_;clear H a;intro a H
   refine aG H G G G G (fun _ S=>aE dT rfl (boxM.rd S (i:=0) G G)) ?_;clear H a;intro a H
   refine aG H G G G G (fun _ S=>cB eM rfl) ?_;clear H a;intro a H
   refine aG H G G G G (fun _ S=>aU G G (by unfold i64ok;omega)) ?_;clear H a;intro a H
   refine aS rfl ?_
   refine aX H G G ?_
   refine aA H G G Tryz.func14 G G (cW _ _ _ _) ?_;clear H a
   rintro _ _ a ⟨rfl,rfl⟩ H
   refine wpList_nil (And.intro (S.sel [0] G G) ?_)
   refine aG H G G G G (fun _ S=>bT rfl (by omega)) ?_;clear H a;intro a H
   refine qF H<|qd rfl (fun _ S=>(aY G G G))<|qr 1 rfl<|qK ?_;clear H a;intro a H
   refine aG H G G G G (fun _ S=>aL rfl) ?_;clear H a;intro a H
   refine aG H G G G G (fun _ S=>aL rfl) ?_;clear H a;intro a H
   refine aG H G G G G (fun _ S=>bC dE cT G G (hl.adr (by omega)) (by omega)) ?_;clear H a;intro a H
   refine aG H G G G G (fun _ S=>(bP fV rfl)) ?_;clear H a;intro a H
   refine aG H G G G G (fun _ S=>aE aD rfl (hl.rd S (by omega) (by omega))) ?_;clear H a;intro a H
   refine aS rfl ?_
   refine aX H G G ?_
   refine aA H G G Tryz.func14 G G (cW _ _ _ _) ?_;clear H a
   rintro _ _ a ⟨rfl,rfl⟩ H
   refine wpList_nil (And.intro (S.sel [0] G G) ?_)
   refine aG H G G G G (fun _ S=>bT rfl (by omega)) ?_;clear H a;intro a H
   refine qF H<|qd rfl (fun _ S=>(aY G G G))<|qr 1 rfl<|qK ?_;clear H a;intro a H
   refine aG H G G G G (fun _ S=>aL rfl) ?_;clear H a;intro a H
   refine aG H G G G G (fun _ S=>pZ G G (by omega)) ?_;clear H a;intro a H
   refine aG H G G G G (fun _ S=>aL rfl) ?_;clear H a;intro a H
   refine aJ H G G G G G ?_;clear H a;intro a H
   refine aJ H G G G G G ?_;clear H a;intro a H
   refine aJ H G G G G G ?_;clear H a;intro a H
   refine aJ H G G G G G ?_;clear H a;intro a H
   refine aJ H G G G G G ?_;clear H a;intro a H
   refine aJ H G G G G G ?_;clear H a;intro a H
   refine aJ H G G G G G ?_;clear H a;intro a H
   refine aJ H G G G G G ?_;clear H a;intro a H
   refine aJ H G G G G G ?_;clear H a;intro a H
   refine aJ H G G G G G ?_;clear H a;intro a H
   refine aJ H G G G G G ?_;clear H a;intro a H
   refine aG H G G G G (fun _ S=>(aR G G G)) ?_;clear H a;intro a H
   refine qF H<|qd rfl (fun _ S=>(aY G G G))<|qK ?_;clear H a;intro a H
   refine bF ?_
   refine k21 _ _ ?_
   clear k21 K21
   refine cond_ H rfl (fun hc7=>?_) (fun hc7=>?_)
   ·skip
    skip
    cases hc7
   skip
   refine wp_skip ?_
   refine k14 _ _ ?_
   replace H:=H.keep [1,2,6] rfl
   refine sO H<|sr 1 rfl<|sd (aK G G (by unfold i64ok;omega))<|sr 1 rfl<|sE ?_;clear H a;intro a H
   exact k11 (g1-1) (k+1) a _ (by omega) (by first|exact ⟨by omega,by omega,eW (f:=tskB y l) hp.2.2 (nA hB)⟩|exact ⟨by omega,by omega,eW (f:=tskB y l) hp.2.2 (nB hB hc8)⟩) (S.sel [0] G G) (H.keep [6,1,2] rfl)
  skip
  replace H:=H.keep [1,2,6] rfl
  replace S:=S.drew
  refine seq_wq [(0,true),(1,true),(2,true),(3,true),(4,true),(5,true),(6,true),(7,true),(8,false),(9,true),(10,true),(11,true),(12,true),(13,true),(14,true),(15,true),(16,true),(17,true),(18,true),(19,true),(20,false),(21,true),(22,true),(23,true),(24,true),(25,true),(26,true),(27,true),(28,true),(29,false),(30,true),(31,true),(32,true),(33,true),(34,true),(35,true),(36,true),(37,true),(38,true),(39,true),(40,true),(41,true),(42,true),(43,true),(44,true),(45,false),(46,true),(47,true),(48,true)] (by kernel_rfl) (by kernel_rfl) (S.sel [0] G G) fun K23 k23=>?_
  refine qF H<|qr 2 rfl<|qd rfl (fun _ S=>bC dE cT G G (hl.adr (by omega)) (by omega))<|qd rfl (fun _ S=>(bP cQ rfl))<|qd rfl (fun _ S=>aE aD rfl (hl.rd S (by omega) (by omega)))<|qd rfl (fun _ S=>(aB dH rfl))<|qd rfl (fun _ S=>aE aD rfl (boxM.rd S (i:=0) G G))<|qd rfl (fun _ S=>aU G G (by unfold i64ok;omega))<|qK ?_;clear H a;intro a H
  refine aS rfl ?_
  refine aA H G G Tryz.func14 G G (cW _ _ _ _) ?_;clear H a
  rintro _ _ a ⟨rfl,rfl⟩ H
  refine wpList_nil (And.intro (S.sel [0] G G) ?_)
  refine qF H<|qd rfl (fun _ S=>bT rfl (by omega))<|qr 1 rfl<|qK ?_;clear H a;intro a H
  refine aG H G G G G (fun _ S=>aL rfl) ?_;clear H a;intro a H
  refine aG H G G G G (fun _ S=>aL rfl) ?_;clear H a;intro a H
  refine aG H G G G G (fun _ S=>bC dE cT G G (hl.adr (by omega)) (by omega)) ?_;clear H a;intro a H
  refine aG H G G G G (fun _ S=>(bP dN rfl)) ?_;clear H a;intro a H
  refine aG H G G G G (fun _ S=>aE aD rfl (hl.rd S (by omega) (by omega))) ?_;clear H a;intro a H
  refine aG H G G G G (fun _ S=>(aB cP rfl)) ?_;clear H a;intro a H
  refine aG H G G G G (fun _ S=>aE dT rfl (boxM.rd S (i:=0) G G)) ?_;clear H a;intro a H
  refine aG H G G G G (fun _ S=>cB eM rfl) ?_;clear H a;intro a H
  refine aG H G G G G (fun _ S=>aU G G (by unfold i64ok;omega)) ?_;clear H a;intro a H
  refine aS rfl ?_
  refine aX H G G ?_
  refine aA H G G Tryz.func14 G G (cW _ _ _ _) ?_;clear H a
  rintro _ _ a ⟨rfl,rfl⟩ H
  refine wpList_nil (And.intro (S.sel [0] G G) ?_)
  refine aG H G G G G (fun _ S=>bT rfl (by omega)) ?_;clear H a;intro a H
  refine qF H<|qd rfl (fun _ S=>(aY G G G))<|qr 1 rfl<|qK ?_;clear H a;intro a H
  refine aG H G G G G (fun _ S=>aL rfl) ?_;clear H a;intro a H
  refine aG H G G G G (fun _ S=>aL rfl) ?_;clear H a;intro a H
  refine aG H G G G G (fun _ S=>bC dE cT G G (hl.adr (by omega)) (by omega)) ?_;clear H a;intro a H
  refine aG H G G G G (fun _ S=>(bP fV rfl)) ?_;clear H a;intro a H
  refine aG H G G G G (fun _ S=>aE aD rfl (hl.rd S (by omega) (by omega))) ?_;clear H a;intro a H
  refine aS rfl ?_
  refine aX H G G ?_
  refine aA H G G Tryz.func14 G G (cW _ _ _ _) ?_;clear H a
  rintro _ _ a ⟨rfl,rfl⟩ H
  refine wpList_nil (And.intro (S.sel [0] G G) ?_)
  refine aG H G G G G (fun _ S=>bT rfl (by omega)) ?_;clear H a;intro a H
  refine qF H<|qd rfl (fun _ S=>(aY G G G))<|qr 1 rfl<|qK ?_;clear H a;intro a H
  refine aG H G G G G (fun _ S=>aL rfl) ?_;clear H a;intro a H
  refine aG H G G G G (fun _ S=>pY G G (by omega)) ?_;clear H a;intro a H
  refine aG H G G G G (fun _ S=>aL rfl) ?_;clear H a;intro a H
  refine aG H G G G G (fun _ S=>aL rfl) ?_;clear H a;intro a H
  refine aG H G G G G (fun _ S=>aL rfl) ?_;clear H a;intro a H
  refine aG H G G G G (fun _ S=>aU G G (by unfold i64ok;omega)) ?_;clear H a;intro a H
  refine aG H G G G G (fun _ S=>bY dE cT G G (hl.adr (by omega)) (by omega) (by omega)) ?_;clear H a;intro a H
  refine aG H G G G G (fun _ S=>(aW lU cT rfl S hl (by omega) (by omega))) ?_;clear H a;intro a H
  refine aG H G G G G (fun _ S=>aL rfl) ?_;clear H a;intro a H
  refine aG H G G G G (fun _ S=>aL rfl) ?_;clear H a;intro a H
  refine aG H G G G G (fun _ S=>bC dE cT G G (hl.adr (by omega)) (by omega)) ?_;clear H a;intro a H
  refine aG H G G G G (fun _ S=>(aW lU cT rfl S hl (by omega) (by omega))) ?_;clear H a;intro a H
  refine aS rfl ?_
  refine aX H G G ?_
  refine aA H G G Tryz.func15 G G (Ka (l.getD ((k:Int)-1).toNat Tsk.zero) (l.getD k Tsk.zero) _) ?_;clear H a
  rintro _ _ a ⟨rfl,S2⟩ H
  replace S:=S.call S2;clear S2
  refine wpList_nil (And.intro (S.sel [0] G G) ?_)
  refine aG H G G G G (fun _ S=>cL rfl) ?_;clear H a;intro a H
  refine aG H G G G G (fun _ S=>(fD G G G)) ?_;clear H a;intro a H
  refine qF H<|qd rfl (fun _ S=>(aY G G G))<|qK ?_;clear H a;intro a H
  refine bF ?_
  refine k23 _ _ ?_
  clear k23 K23
  refine cond_ H rfl (fun hc8=>?_) (fun hc8=>?_)
  ·skip
   try simp only [o1,o2,o3,o4,o5,o6,o7,o8,o9,oa] at hc8
   replace hc8:befB (l.getD ((k:Int)-1).toNat Tsk.zero) (l.getD k Tsk.zero)=false:=by simpa using hc8
   replace H:=H.keep [] rfl
   refine sS H fun K24 k24=>sr 1 rfl<|sE ?_;clear H a;intro a H
   refine k24 _ ?_;clear k24 K24
   refine wp_ret ?_
   refine ret1 (fn:=Tryz.f5) rfl H rfl ?_
   rw [gJ hye (by omega) (show k<l.length by omega) (Bx hB hc8)];exact ⟨rfl,(S.sel [] G G)⟩
  try simp only [o1,o2,o3,o4,o5,o6,o7,o8,o9,oa] at hc8
  replace hc8:befB (l.getD ((k:Int)-1).toNat Tsk.zero) (l.getD k Tsk.zero)=true:=by simpa using hc8
  refine wp_skip ?_
  refine k14 _ _ ?_
  refine sO H<|sr 1 rfl<|sd (aK G G (by unfold i64ok;omega))<|sr 1 rfl<|sE ?_;clear H a;intro a H
  exact k11 (g1-1) (k+1) a _ (by omega) (by first|exact ⟨by omega,by omega,eW (f:=tskB y l) hp.2.2 (nA hB)⟩|exact ⟨by omega,by omega,eW (f:=tskB y l) hp.2.2 (nB hB hc8)⟩) (S.sel [0] G G) (H.keep [6,1,2] rfl)
 refine wp_exit ?_
 refine k9 _ _ ?_
 refine sS H fun K26 k26=>sr 1 rfl<|sE ?_;clear H a;intro a H
 refine k26 _ ?_;clear k26 K26
 refine wp_ret ?_
 refine ret1 (fn:=Tryz.f5) rfl H rfl ?_
 rw [uV hye (by omega) (bX.2 fun q hq=>hp.2.2 q (by omega))];exact ⟨rfl,(S.sel [] G G)⟩
end
section
def crwV (pl:Int) (ps:List Psg) (xs:List Int) (pe:List Int) (T0:Int):Bool:=if 26<ps.length∨12<pe.length then true else if cH pl ps xs 0 pe T0≠0 then false else (decide (12<ps.length)||decide (60<sumI pe pe.length))||decide (14<T0)
section
variable {pl T0:Int} {ps:List Psg} {xs pe:List Int}
theorem Pv (h:26<ps.length∨12<pe.length):crwV pl ps xs pe T0=true:=by unfold crwV;rw [if_pos h]
theorem Ua (h:¬ (26<ps.length∨12<pe.length)) (h2:¬ cH pl ps xs 0 pe T0=0):crwV pl ps xs pe T0=false:=by unfold crwV;rw [if_neg h,if_pos h2]
theorem Xe (h:¬ (26<ps.length∨12<pe.length)) (h2:cH pl ps xs 0 pe T0=0):crwV pl ps xs pe T0=((decide (12<ps.length)||decide (60<sumI pe pe.length))||decide (14<T0)):=by unfold crwV;rw [if_neg h,if_neg (fun h9=>h9 h2)]
end
theorem lng4 (A B:Prop) (c:Bool) [Decidable A] [Decidable B]:¬ A∨(A∧c=true)∨(A∧c=false∧B)∨(A∧c=false∧¬ B):=by
  by_cases hA:A <;> by_cases hB:B <;> cases c <;> simp [hA,hB]
theorem oE (pl:Int) (ps:List Psg) (PA:Option Addr) (pc:Nat) (xs:List Int) (XA:Option Addr) (xc:Nat) (pe:List Int) (BA:Option Addr) (bc:Nat) (T0:Int) (w:World) (hps:InS w noF 7 PA ps.length (pcell ps)) (hpn:ps.length≤9223372036854775807) (hxs:InS w noF 1 XA xs.length (icl xs)) (hxn:xs.length≤9223372036854775807) (hpe:InS w noF 1 BA pe.length (icl pe)) (hpen:pe.length≤9223372036854775807) :
    Calls Tryz.prog 13 [.agg [.int .i64 pl,.slice PA ps.length pc,.slice XA xs.length xc].toArray,.slice BA pe.length bc,.int .i64 T0].toArray w (Ret (fun u w'=>u = .bool (crwV pl ps xs pe T0)∧St w noF [] w')):=by
 refine enter Tryz.func13 rfl Tryz.ntmps13 rfl (fun a H=>?_)
 have S:=St.start w
 refine seq_list fun K1 k1=>?_
 refine aO H rfl S G G ?_;clear H a S;intro b3 _ a hb3 hbw3 S H
 refine ls 1 H<|sr 1 rfl<|sE ?_;clear H a;intro a H
 refine k1 _ _ ?_;clear k1 K1
 refine wp_seq_k fun K2 k2=>?_
 replace H:=H.keep [1,2,3] rfl
 refine sS H fun K3 k3=>sf eO rfl<|sl S 0 fZ G G G<|sL fS rfl<|sr 2 rfl<|sg 3 4 13 16 false G G (fun hg5=>sy hg5<|sr 1 rfl<|sy hg5<|sL aT rfl<|sy hg5<|sr 1 rfl<|sz 3 G G G)<|so G G G<|sE ?_;clear H a;intro a H
 refine k3 _ ?_;clear k3 K3
 refine cond_ H rfl (fun hc1=>?_) (fun hc1=>?_)
 ·skip
  try simp only [o1,o2,o3,o4,o5,o6,o7,o8,o9,oa] at hc1
  replace H:=H.keep [] rfl
  refine sS H fun K4 k4=>sr 1 rfl<|sE ?_;clear H a;intro a H
  refine k4 _ ?_;clear k4 K4
  refine wp_ret ?_
  refine ret1 (fn:=Tryz.f13) rfl H rfl ?_
  exact ⟨by rw [Pv (by omega)],(S.sel [] G G)⟩
 try simp only [o1,o2,o3,o4,o5,o6,o7,o8,o9,oa] at hc1
 refine wp_skip ?_
 refine k2 _ _ ?_
 refine wp_seq_k fun K5 k5=>?_
 refine seq_list fun K6 k6=>?_
 refine ls 3 H<|sd ((aC cA cZ rfl S (i:=0) G G))<|sr 2 rfl<|sE ?_;clear H a;intro a H
 refine aA H G G Tryz.func31 G G (mL pl ps PA pc xs XA xc 0 pe BA bc T0 _ (hps.now S) hpn (hxs.now S) hxn (hpe.now S) hpen) ?_;clear H a
 rintro _ _ a ⟨rfl,S2⟩ H
 replace S:=S.call S2;clear S2
 refine ls 1 H<|sr 1 rfl<|sE ?_;clear H a;intro a H
 refine k6 _ _ ?_;clear k6 K6
 refine condN H rfl (fun hc2=>?_) (fun hc2=>?_)
 ·skip
  refine sS H fun K7 k7=>sr 1 rfl<|sE ?_;clear H a;intro a H
  refine k7 _ ?_;clear k7 K7
  refine wp_ret ?_
  refine ret1 (fn:=Tryz.f13) rfl H rfl ?_
  exact ⟨by rw [Ua (by omega) hc2],(S.sel [] G G)⟩
 obtain ⟨hst,hou,hcr,hti⟩:=jH (show cH pl ps xs 0 pe T0=0 by omega)
 obtain ⟨hpp,hpl'⟩:=pB hcr
 refine wp_skip ?_
 refine k5 _ _ ?_
 refine sS H fun K8 k8=>sr 1 rfl<|sE ?_;clear H a;intro a H
 refine k8 _ ?_;clear k8 K8
 refine wp_seq_k fun K9 k9=>?_
 refine sS H fun K10 k10=>sr 1 rfl<|sE ?_;clear H a;intro a H
 refine k10 _ ?_;clear k10 K10
 refine wp_block ?_
 refine loop_st (X:=Nat) (R0:=_) [1,2,3] H rfl (fun k=>[(7,.int .i64 (sumI pe k)),(8,.int .i64 (k:Int))]) (fun k=>[]) (fun g k=>k≤pe.length∧g+k=pe.length) (pe.length) 0 ?_ (S.sel [0] G G) (H.keep [7,8,1,2,3] rfl) ?_
 · exact ⟨by omega,by omega⟩
 clear H S a
 intro g1 x1 a w1 hp S H K11 k11
 obtain ⟨k,rfl⟩:∃ y,y=x1:=⟨_,rfl⟩
 refine wp_seq_k fun K12 k12=>?_
 refine sS H fun K13 k13=>sr 2 rfl<|sL aT rfl<|sr 1 rfl<|sE ?_;clear H a;intro a H
 refine k13 _ ?_;clear k13 K13
 refine condL H rfl (fun hc3=>?_) (fun hc3=>?_)
 ·skip
  refine wp_skip ?_
  refine k12 _ _ ?_
  refine wp_seq_k fun K14 k14=>?_
  refine wp_block ?_
  have hsb:=Xd hpp (by omega) (k:=k) (by omega);have hsk:=hpp k (by omega)
  replace H:=H.keep [1,2,3,7,8] rfl
  refine sO H<|sr 3 rfl<|si aT bA G G (hpe.adr (by omega)) (by omega)<|slm aD rfl (hpe.rd S (by omega) (by omega))<|sd (aK G G (by unfold i64ok;omega))<|sr 1 rfl<|sE ?_;clear H a;intro a H
  refine k14 _ _ ?_
  replace H:=H.keep [1,2,3,7,8] rfl
  refine sO H<|sr 1 rfl<|sd (aK G G (by unfold i64ok;omega))<|sr 1 rfl<|sE ?_;clear H a;intro a H
  exact k11 (g1-1) (k+1) a _ (by omega) (⟨by omega,by omega⟩) (S.sel [0] G G) (H.keep [7,8,1,2,3] rfl)
 refine wp_exit ?_
 refine k9 _ _ ?_
 replace H:=H.keep [2,3,7] rfl
 refine sS H fun K17 k17=>sf eO rfl<|sl S 0 fZ G G G<|sL fS rfl<|sr 2 rfl<|sg 2 4 39 41 false G G (fun hg5=>sy hg5<|sr 1 rfl<|sy hg5<|sr 1 rfl<|sz 2 G G G)<|so G G G<|sr 1 rfl<|sg 2 8 43 45 false G G (fun hg9=>sy hg9<|sr 1 rfl<|sy hg9<|sr 1 rfl<|sz 2 G G G)<|so G G G<|sr 1 rfl<|sE ?_;clear H a;intro a H
 refine k17 _ ?_;clear k17 K17
 refine wp_ret ?_
 refine ret1 (fn:=Tryz.f13) rfl H rfl ?_
 obtain rfl:k=pe.length:=by omega
 exact ⟨by rw [Xe (by omega) (by omega)];congr 1;simp only [Bool.or_assoc];congr 1;simp only [decide_eq_decide];omega,(S.sel [] G G)⟩
theorem Ep (y:Yr) (w:World) (hy:YIn w noF y) (hyb:YBd y) :
    Calls Tryz.prog 4 [.agg [.int .i64 y.days,.int .i64 y.pl,.slice y.PA y.ps.length y.pc,.slice y.XA y.xs.length y.xc,.slice y.BA y.pe.length y.bc,.int .i64 y.limit,.bool y.help,.slice y.QA y.prs.length y.qc,.slice y.VA y.us.length y.vc,.int .i64 y.crew,.slice y.SA y.sps.length y.sc].toArray].toArray w (Ret (fun u w'=>∃ b,u = .bool b∧(b=false→(y.ps.length≤26∧y.us.length≤8)∧(yearE y=0→y.days≤6∧y.us.length≤3∧crwV y.pl y.ps y.xs y.pe y.limit=false))∧St w noF [] w')):=by
 have hn1:=hyb.psn;have hn2:=hyb.prn;have hn3:=hyb.usn;have hn4:=hyb.spn
 refine enter Tryz.func4 rfl Tryz.ntmps4 rfl (fun a H=>?_)
 have S:=St.start w
 refine seq_list fun K1 k1=>?_
 refine aO H rfl S G G ?_;clear H a S;intro b1 _ a hb1 hbw1 S H
 refine ls 1 H<|sr 1 rfl<|sE ?_;clear H a;intro a H
 refine k1 _ _ ?_;clear k1 K1
 refine wp_seq_k fun K2 k2=>?_
 replace H:=H.keep [1] rfl
 refine sS H fun K3 k3=>sf eB rfl<|sf eO rfl<|sl S 0 fZ G G G<|sL fS rfl<|sr 2 rfl<|sg 4 5 8 12 false G G (fun hg6=>sy hg6<|sf rW rfl<|sy hg6<|sl S 0 xM G G G<|sy hg6<|sL lV rfl<|sy hg6<|sr 1 rfl<|sz 4 G G G)<|so G G G<|sr 1 rfl<|sg 4 11 14 18 false G G (fun hg12=>sy hg12<|sf cP rfl<|sy hg12<|sl S 0 dT G G G<|sy hg12<|sL eM rfl<|sy hg12<|sr 1 rfl<|sz 4 G G G)<|so G G G<|sr 1 rfl<|sg 4 17 20 24 false G G (fun hg18=>sy hg18<|sf lC rfl<|sy hg18<|sl S 0 nQ G G G<|sy hg18<|sL oO rfl<|sy hg18<|sr 1 rfl<|sz 4 G G G)<|so G G G<|sE ?_;clear H a;intro a H
 refine k3 _ ?_;clear k3 K3
 refine cond_ H rfl (fun hc1=>?_) (fun hc1=>?_)
 ·skip
  try simp only [o1,o2,o3,o4,o5,o6,o7,o8,o9,oa] at hc1
  replace H:=H.keep [] rfl
  refine sS H fun K4 k4=>sr 1 rfl<|sE ?_;clear H a;intro a H
  refine k4 _ ?_;clear k4 K4
  refine wp_ret ?_
  refine ret1 (fn:=Tryz.f4) rfl H rfl ?_
  exact ⟨_,rfl,(fun h=>by cases h),(S.sel [] G G)⟩
 try simp only [o1,o2,o3,o4,o5,o6,o7,o8,o9,oa] at hc1
 refine wp_skip ?_
 refine k2 _ _ ?_
 rcases lng4 (yearE y=0) (6<y.days) (crwV y.pl y.ps y.xs y.pe y.limit) with hB|hB|hB|hB
 ·skip
  skip
  replace H:=H.keep [1] rfl
  refine seq_list fun K5 k5=>?_
  refine ls 1 H<|sd ((aC fA hY rfl S (i:=0) G G))<|sE ?_;clear H a;intro a H
  refine aA H G G Tryz.func12 G G (gX y _ (hy.now S) hyb) ?_;clear H a
  rintro _ _ a ⟨rfl,S2⟩ H
  replace S:=S.call S2;clear S2
  refine ls 10 H<|sd ((eI G G).to (congrArg Value.bool (decide_eq_false hB)))<|sr 1 rfl<|sn G G G<|sn G G G<|sn G G G<|sn G G G<|sn G G G<|sn G G G<|sn G G G<|sn G G G<|sE ?_;clear H a;intro a H
  refine kY H G G G ?_;clear H a;intro a H
  refine kY H G G G ?_;clear H a;intro a H
  refine kY H G G G ?_;clear H a;intro a H
  refine ls 2 H<|sn G G G<|sn G G G<|sE ?_;clear H a;intro a H
  refine kY H G G G ?_;clear H a;intro a H
  refine kY H G G G ?_;clear H a;intro a H
  refine kY H G G G ?_;clear H a;intro a H
  refine kY H G G G ?_;clear H a;intro a H
  refine ls 3 H<|sn G G G<|sd ((aR G G G))<|sr 1 rfl<|sE ?_;clear H a;intro a H
  refine k5 _ _ ?_;clear k5 K5
  refine wp_ret ?_
  refine ret1 (fn:=Tryz.f4) rfl H rfl ?_
  first|exact ⟨_,rfl,(fun _=>⟨⟨by omega,by omega⟩,fun h=>absurd h hB⟩),(S.sel [] G G)⟩|exact ⟨_,rfl,(fun h=>by cases h),(S.sel [] G G)⟩|exact ⟨_,rfl,(fun h=>⟨⟨by omega,by omega⟩,fun h9=>⟨by omega,by have:=of_decide_eq_false h;omega,hB.2.1⟩⟩),(S.sel [] G G)⟩
 ·skip
  skip
  replace H:=H.keep [1] rfl
  refine seq_list fun K6 k6=>?_
  refine ls 1 H<|sd ((aC fA hY rfl S (i:=0) G G))<|sE ?_;clear H a;intro a H
  refine aA H G G Tryz.func12 G G (gX y _ (hy.now S) hyb) ?_;clear H a
  rintro _ _ a ⟨rfl,S2⟩ H
  replace S:=S.call S2;clear S2
  refine ls 8 H<|sd ((eI G G).to (congrArg Value.bool (decide_eq_true hB.1)))<|sr 1 rfl<|sy rfl<|sf eB rfl<|sy rfl<|sd ((aC cA cZ rfl S (i:=0) G G))<|sy rfl<|sf iK rfl<|sy rfl<|sl S 0 bM G G G<|sy rfl<|sf jZ rfl<|sy rfl<|sl S 0 aD G G G<|sE ?_;clear H a;intro a H
  refine aX H G G ?_
  refine aA H G G Tryz.func13 G G (oE y.pl y.ps y.PA y.pc y.xs y.XA y.xc y.pe y.BA y.bc y.limit _ (hy.ps.now S) hyb.psn (hy.xs.now S) hyb.xsn (hy.pe.now S) hyb.pen) ?_;clear H a
  rintro _ _ a ⟨rfl,S2⟩ H
  replace S:=S.call S2;clear S2
  rw [hB.2] at H
  refine ls 13 H<|sy rfl<|sr 1 rfl<|sn G G G<|sn G G G<|sn G G G<|sy rfl<|sd ((aR G G G))<|sy rfl<|sr 1 rfl<|sn G G G<|sn G G G<|sn G G G<|sn G G G<|sy rfl<|sd ((aR G G G))<|sa G G G<|sr 1 rfl<|sE ?_;clear H a;intro a H
  refine k6 _ _ ?_;clear k6 K6
  refine wp_ret ?_
  refine ret1 (fn:=Tryz.f4) rfl H rfl ?_
  first|exact ⟨_,rfl,(fun _=>⟨⟨by omega,by omega⟩,fun h=>absurd h hB⟩),(S.sel [] G G)⟩|exact ⟨_,rfl,(fun h=>by cases h),(S.sel [] G G)⟩|exact ⟨_,rfl,(fun h=>⟨⟨by omega,by omega⟩,fun h9=>⟨by omega,by have:=of_decide_eq_false h;omega,hB.2.1⟩⟩),(S.sel [] G G)⟩
 ·skip
  skip
  replace H:=H.keep [1] rfl
  refine seq_list fun K7 k7=>?_
  refine ls 1 H<|sd ((aC fA hY rfl S (i:=0) G G))<|sE ?_;clear H a;intro a H
  refine aA H G G Tryz.func12 G G (gX y _ (hy.now S) hyb) ?_;clear H a
  rintro _ _ a ⟨rfl,S2⟩ H
  replace S:=S.call S2;clear S2
  refine ls 8 H<|sd ((eI G G).to (congrArg Value.bool (decide_eq_true hB.1)))<|sr 1 rfl<|sy rfl<|sf eB rfl<|sy rfl<|sd ((aC cA cZ rfl S (i:=0) G G))<|sy rfl<|sf iK rfl<|sy rfl<|sl S 0 bM G G G<|sy rfl<|sf jZ rfl<|sy rfl<|sl S 0 aD G G G<|sE ?_;clear H a;intro a H
  refine aX H G G ?_
  refine aA H G G Tryz.func13 G G (oE y.pl y.ps y.PA y.pc y.xs y.XA y.xc y.pe y.BA y.bc y.limit _ (hy.ps.now S) hyb.psn (hy.xs.now S) hyb.xsn (hy.pe.now S) hyb.pen) ?_;clear H a
  rintro _ _ a ⟨rfl,S2⟩ H
  replace S:=S.call S2;clear S2
  rw [hB.2.1] at H
  refine ls 13 H<|sy rfl<|sr 1 rfl<|sy rfl<|sf dH rfl<|sy rfl<|sl S 0 aD G G G<|sy rfl<|sd (pY G G (by omega))<|sy rfl<|so G G G<|sy rfl<|sr 1 rfl<|sn G G G<|sn G G G<|sn G G G<|sn G G G<|sy rfl<|sd ((aR G G G))<|sa G G G<|sr 1 rfl<|sE ?_;clear H a;intro a H
  refine k7 _ _ ?_;clear k7 K7
  refine wp_ret ?_
  refine ret1 (fn:=Tryz.f4) rfl H rfl ?_
  first|exact ⟨_,rfl,(fun _=>⟨⟨by omega,by omega⟩,fun h=>absurd h hB⟩),(S.sel [] G G)⟩|exact ⟨_,rfl,(fun h=>by cases h),(S.sel [] G G)⟩|exact ⟨_,rfl,(fun h=>⟨⟨by omega,by omega⟩,fun h9=>⟨by omega,by have:=of_decide_eq_false h;omega,hB.2.1⟩⟩),(S.sel [] G G)⟩
 skip
 replace H:=H.keep [1] rfl
 refine seq_list fun K8 k8=>?_
 refine ls 1 H<|sd ((aC fA hY rfl S (i:=0) G G))<|sE ?_;clear H a;intro a H
 refine aA H G G Tryz.func12 G G (gX y _ (hy.now S) hyb) ?_;clear H a
 rintro _ _ a ⟨rfl,S2⟩ H
 replace S:=S.call S2;clear S2
 refine ls 8 H<|sd ((eI G G).to (congrArg Value.bool (decide_eq_true hB.1)))<|sr 1 rfl<|sy rfl<|sf eB rfl<|sy rfl<|sd ((aC cA cZ rfl S (i:=0) G G))<|sy rfl<|sf iK rfl<|sy rfl<|sl S 0 bM G G G<|sy rfl<|sf jZ rfl<|sy rfl<|sl S 0 aD G G G<|sE ?_;clear H a;intro a H
 refine aX H G G ?_
 refine aA H G G Tryz.func13 G G (oE y.pl y.ps y.PA y.pc y.xs y.XA y.xc y.pe y.BA y.bc y.limit _ (hy.ps.now S) hyb.psn (hy.xs.now S) hyb.xsn (hy.pe.now S) hyb.pen) ?_;clear H a
 rintro _ _ a ⟨rfl,S2⟩ H
 replace S:=S.call S2;clear S2
 rw [hB.2.1] at H
 refine ls 13 H<|sy rfl<|sr 1 rfl<|sy rfl<|sf dH rfl<|sy rfl<|sl S 0 aD G G G<|sy rfl<|sd (pZ G G (by omega))<|sy rfl<|so G G G<|sy rfl<|sr 1 rfl<|sy rfl<|sf cP rfl<|sy rfl<|sl S 0 dT G G G<|sy rfl<|sL eM rfl<|sy rfl<|sr 1 rfl<|sy rfl<|so G G G<|sa G G G<|sr 1 rfl<|sE ?_;clear H a;intro a H
 refine k8 _ _ ?_;clear k8 K8
 refine wp_ret ?_
 refine ret1 (fn:=Tryz.f4) rfl H rfl ?_
 first|exact ⟨_,rfl,(fun _=>⟨⟨by omega,by omega⟩,fun h=>absurd h hB⟩),(S.sel [] G G)⟩|exact ⟨_,rfl,(fun h=>by cases h),(S.sel [] G G)⟩|exact ⟨_,rfl,(fun h=>⟨⟨by omega,by omega⟩,fun h9=>⟨by omega,by have:=of_decide_eq_false h;omega,hB.2.1⟩⟩),(S.sel [] G G)⟩
end
section
structure Wr where
  kind:Int
  of:List Int
def Wr.zero:Wr:=⟨0,[]⟩
def gG (ws:List Wr) (OA:Nat→Option Addr) (oc:Nat→Nat) (k:Nat):Nat→Value
  | 0 => .int .i64 (ws.getD k Wr.zero).kind
  | _ => .slice (OA k) (ws.getD k Wr.zero).of.length (oc k)
def landI (a b:Int):Int:=((a.toNat &&& b.toNat:Nat):Int)
section
variable {P:Program} {L:List (Nat×Value)} {w:World} {d:Option Nat} {ty:TypeId} {pos:String} {af:Array Edge} {g:Option (Nat×Bool)}
theorem wX {x y:Operand} {xt yt:TypeId} {m k:Int} (hx:ev L x=some (.int .i64 m)) (hy:ev L y=some (.int .i64 k)) (hm:0≤m∧m≤1000000) (hk:0≤k∧k≤1000000) :
    Does P L ⟨d,.binOp .and xt x y yt,ty,pos,af,g⟩ w (.int .i64 (landI m k)):=fun ρ hρ=>by
  obtain ⟨m,rfl⟩:∃ n:Nat,m=n:=⟨m.toNat,by omega⟩
  obtain ⟨k,rfl⟩:∃ n:Nat,k=n:=⟨k.toNat,by omega⟩
  have e0:((BitVec.ofInt 64 (m:Int) &&& BitVec.ofInt 64 (k:Int)).toNat)=m &&& k:=by
    rw [BitVec.toNat_and,BitVec.ofInt_natCast,BitVec.ofInt_natCast,BitVec.toNat_ofNat,BitVec.toNat_ofNat,Nat.mod_eq_of_lt (by omega),Nat.mod_eq_of_lt (by omega)]
  have hle:m &&& k≤m:=Nat.and_le_left
  have e1:IntKind.i64.wrap ((BitVec.ofInt 64 (m:Int) &&& BitVec.ofInt 64 (k:Int)).toNat:Int)=((m &&& k:Nat):Int):=by
    rw [e0];exact i64ok.eq ⟨by omega,by omega⟩
  have e:Op.intBits .and .i64 (m:Int) (k:Int)=pure (.int .i64 (landI m k)):=by
    unfold landI
    rw [Int.toNat_natCast,Int.toNat_natCast]
    exact congrArg (fun z=>(pure (Value.int .i64 z):Sem Value)) e1
  simp [execOp,hρ _ _ hx,hρ _ _ hy,eqGuard,binOp,e]
end
def condB (sw:List Int) (hz cl op s:Int):Bool:=decide (op/2^s.toNat%2=0)&&(decide (cl/2^s.toNat%2=1)||decide (landI (sw.getD s.toNat 0) hz=0))
def wireB (sw:List Int) (ws:List Wr) (hz cl op:Int):Nat→Nat→Bool
  | 0,_=>false
  | n+1,i=>if (ws.getD i Wr.zero).kind=1 then condB sw hz cl op ((ws.getD i Wr.zero).of.getD 0 0)
    else if (ws.getD i Wr.zero).kind=3 then (ws.getD i Wr.zero).of.any fun k=>wireB sw ws hz cl op n k.toNat
    else !((ws.getD i Wr.zero).of.any fun k=>!wireB sw ws hz cl op n k.toNat)
def setB (n hz:Int):Bool:=decide (0≤n)&&decide (n<1*2^hz.toNat)
def lowA (l:List Int) (lo:Int) (q:Nat):Int:=if q=0 then lo else l.getD (q-1) 0+1
def ascP (l:List Int) (lo hi:Int) (q:Nat):Bool:=decide (lowA l lo q≤l.getD q 0∧l.getD q 0<hi)
def ascB (l:List Int) (lo hi:Int):Bool:=(List.range l.length).all (ascP l lo hi)
def wrOk (nsw nws:Nat) (ws:List Wr) (i:Nat):Bool:=
  if (ws.getD i Wr.zero).kind=1 then decide ((ws.getD i Wr.zero).of.length=1)&&ascB (ws.getD i Wr.zero).of 0 nsw
  else if (ws.getD i Wr.zero).kind=2∨(ws.getD i Wr.zero).kind=3 then decide (1≤(ws.getD i Wr.zero).of.length∧(ws.getD i Wr.zero).of.length≤8)&&ascB (ws.getD i Wr.zero).of ((i:Int)+1) nws else false
def cntO (l:List Int) (k:Nat):Nat→Int:=sm fun q=>if l.getD q 0=(k:Int) then 1 else 0
def heldW (w:Wr) (k:Nat):Int:=if w.kind=1 then 0 else cntO w.of k w.of.length
def heldN (ws:List Wr) (k:Nat):Nat→Int:=sm fun i=>heldW (ws.getD i Wr.zero) k
def cirSz (hz:Int) (sw:List Int) (ws:List Wr):Bool:=(decide (1≤hz)&&decide (hz≤8))&&((decide (1≤(sw.length:Int))&&decide ((sw.length:Int)≤12))&&(decide (1≤(ws.length:Int))&&decide ((ws.length:Int)≤24)))
def cirOk (hz:Int) (sw:List Int) (ws:List Wr):Bool:=(cirSz hz sw ws&&!(sw.any fun n=>!setB n hz))&&((List.range ws.length).all (wrOk sw.length ws.length ws)&&(decide (heldN ws 0 ws.length=0)&&!((List.range (ws.length-1)).any fun q=>!decide (heldN ws (q+1) ws.length=1))))
def circE (hz:Int) (sw:List Int) (ws:List Wr):Int:=if cirOk hz sw ws=true then 0 else 30
section
variable {hz lo hi:Int} {sw l:List Int} {ws:List Wr} {k i:Nat}
theorem Ub (h:∀ q,q<l.length→ascP l lo hi q=true):ascB l lo hi=true:=List.all_eq_true.2 fun q hq=>h q (List.mem_range.1 hq)
theorem Uc (hk:k<l.length) (h:ascP l lo hi k=false):ascB l lo hi=false:=by
  cases hb:ascB l lo hi with
  | false=>rfl
  | true=>
    have:=List.all_eq_true.1 hb k (List.mem_range.2 hk)
    rw [this] at h;cases h
theorem Er (h:ascB l lo hi=true) (hk:k<l.length):lowA l lo k≤l.getD k 0∧l.getD k 0<hi:=by
  have:=List.all_eq_true.1 h k (List.mem_range.2 hk)
  unfold ascP at this
  exact of_decide_eq_true this
theorem qU (h:ascB l lo hi=true) (hk:k<l.length):lo≤l.getD k 0∧l.getD k 0<hi:=by
  have key:∀ q,q<l.length→lo≤l.getD q 0:=by
    intro q
    induction q with
    | zero=>intro hq;have:=(Er h hq).1;unfold lowA at this;simpa using this
    | succ q ih=>
      intro hq
      have h1:=ih (by omega)
      have h2:=(Er h hq).1
      unfold lowA at h2
      rw [if_neg (by omega)] at h2
      simp only [Nat.add_sub_cancel] at h2
      omega
  exact ⟨key k hk,(Er h hk).2⟩
theorem Gn (h:circE hz sw ws=0):cirOk hz sw ws=true:=by unfold circE at h;split at h;assumption;cases h
theorem Kd (h:cirOk hz sw ws=true):circE hz sw ws=0:=by unfold circE;rw [if_pos h]
theorem mM (h:cirOk hz sw ws=false):circE hz sw ws=30:=by unfold circE;rw [if_neg (by rw [h];simp)]
structure CirV (hz:Int) (sw:List Int) (ws:List Wr):Prop where
  hzb:1≤hz∧hz≤8
  nsw:1≤sw.length∧sw.length≤12
  nws:1≤ws.length∧ws.length≤24
  swb:∀ k,k<sw.length→0≤sw.getD k 0∧sw.getD k 0≤255
  one:∀ i,i<ws.length→(ws.getD i Wr.zero).kind=1→(ws.getD i Wr.zero).of.length=1∧0≤(ws.getD i Wr.zero).of.getD 0 0∧(ws.getD i Wr.zero).of.getD 0 0<sw.length
  more:∀ i,i<ws.length→(ws.getD i Wr.zero).kind≠1→(ws.getD i Wr.zero).of.length≤8∧∀ q,q<(ws.getD i Wr.zero).of.length→(i:Int)+1≤(ws.getD i Wr.zero).of.getD q 0∧(ws.getD i Wr.zero).of.getD q 0<ws.length
theorem vE (h:cirOk hz sw ws=true):CirV hz sw ws:=by
  unfold cirOk cirSz at h
  simp only [Bool.and_eq_true,decide_eq_true_eq,Bool.not_eq_true'] at h
  obtain ⟨⟨⟨h1,h2,h3⟩,h4⟩,h5,_⟩:=h
  have hset:∀ k,k<sw.length→setB (sw.getD k 0) hz=true:=fun k hk=>by
    cases hb:setB (sw.getD k 0) hz with
    | true=>rfl
    | false=>
      have:(sw.any fun n=>!setB n hz)=true:=List.any_eq_true.2 ⟨sw.getD k 0,by rw [List.getD_eq_getElem?_getD,List.getElem?_eq_getElem hk];exact List.getElem_mem hk,by rw [hb];rfl⟩
      rw [this] at h4;cases h4
  have hw:∀ i,i<ws.length→wrOk sw.length ws.length ws i=true:=fun i hi=>List.all_eq_true.1 h5 i (List.mem_range.2 hi)
  have hpw:(2:Int)^hz.toNat≤256:=by
    have h9:hz.toNat≤8:=by omega
    have h8:2^hz.toNat≤256:=Nat.le_trans (Nat.pow_le_pow_right (by omega) h9) (by decide)
    have e:(2:Int)^hz.toNat=((2^hz.toNat:Nat):Int):=(Int.natCast_pow 2 hz.toNat).symm
    rw [e]
    omega
  refine ⟨h1,⟨by omega,by omega⟩,⟨by omega,by omega⟩,fun k hk=>?_,fun i hi hk=>?_,fun i hi hk=>?_⟩
  · have:=hset k hk
    unfold setB at this
    simp only [Bool.and_eq_true,decide_eq_true_eq] at this
    omega
  · have:=hw i hi
    unfold wrOk at this
    rw [if_pos hk] at this
    simp only [Bool.and_eq_true,decide_eq_true_eq] at this
    have h9:=qU this.2 (k:=0) (by omega)
    exact ⟨this.1,h9.1,h9.2⟩
  · have:=hw i hi
    unfold wrOk at this
    rw [if_neg hk] at this
    split at this
    · simp only [Bool.and_eq_true,decide_eq_true_eq] at this
      exact ⟨this.1.2,fun q hq=>qU this.2 hq⟩
    · cases this
theorem Ud {p:Int→Bool} (hk:k<l.length) (h:p (l.getD k 0)=true):l.any p=true:=by
  rw [List.getD_eq_getElem?_getD,List.getElem?_eq_getElem hk] at h
  exact List.any_eq_true.2 ⟨_,List.getElem_mem hk,h⟩
theorem Ke {p:Int→Bool} (hk:k<l.length) (h:(l.take k).any p=false) (h2:p (l.getD k 0)=false):(l.take (k+1)).any p=false:=by
  rw [List.getD_eq_getElem?_getD,List.getElem?_eq_getElem hk] at h2
  rw [List.take_succ_eq_append_getElem hk,List.any_append,h]
  simpa using h2
end
end
section
theorem St.back {w0 w w':World} {F0:Nat→Prop} {m:Mem} (S:St w0 F0 [m] w) (S':St w (fps [m]) [m] w'):St w0 F0 [m] w':=St.callR (M:=[m]) (R:=[]) S S'
theorem vF {P:Program} {f:Nat} {vs:Array Value} {w:World} {R R':Value→World→Prop} (h:Calls P f vs w (Ret R)) (k:∀ v w',R v w'→R' v w'):Calls P f vs w (Ret R'):=Calls.mono h fun e w' he=>by
  cases e with
  | returned v=>exact k v w' he
  | _=>exact he
theorem vN (l : List Int) (A : Option Addr) (cp : Nat) (f : Nat) (fn : Func) (fs cs : List Value) (p : Int → Bool) (m : Mem) (w : World) (F : Nat → Prop) (S : St w F [m] w) (hl : InS w F 1 A l.length (icl l)) (hn : l.length ≤ 9223372036854775807) (hf : Tryz.prog.funcs[f]? = some fn) (hfb : fn.body.isNone = false) (hfn : (fn.name == "runtime.NumGoroutine") = false) (hcall : ∀ (k : Nat) (w' : World), k < l.length → St w F [m] w' → Calls Tryz.prog f (fs ++ [Value.int .i64 (l.getD k 0)] ++ cs).toArray w' (Ret fun v w'' => v = .bool (p (l.getD k 0)) ∧ St w' (fps [m]) [m] w'')) :
    Calls Tryz.prog 119 [.slice A l.length cp,.func (.func f) fs.toArray cs.toArray].toArray w (Ret (fun u w'=>∃ n:Int,u = .int .i64 n∧decide (0≤n)=l.any p∧St w F [m] w')):=by
 refine enter Tryz.func119 rfl Tryz.ntmps119 rfl (fun a H=>?_)
 skip
 refine sS H fun K1 k1=>sr 1 rfl<|sE ?_;clear H a;intro a H
 refine k1 _ ?_;clear k1 K1
 refine wp_seq_k fun K2 k2=>?_
 refine sS H fun K3 k3=>sr 1 rfl<|sL aT rfl<|sr 1 rfl<|sE ?_;clear H a;intro a H
 refine k3 _ ?_;clear k3 K3
 refine wp_block ?_
 refine loop_st (X:=Nat) (R0:=_) [0,1,7] H rfl (fun k=>[(8,.int .i64 (k:Int))]) (fun k=>[m]) (fun g k=>k≤l.length∧g+k=l.length∧(l.take k).any p=false) (l.length) 0 ?_ (S.sel [0] G G) (H.keep [8,0,1,7] rfl) ?_
 · exact ⟨by omega,by omega,by simp⟩
 clear H S a
 intro g1 x1 a w1 hp S H K4 k4
 obtain ⟨k,rfl⟩:∃ y,y=x1:=⟨_,rfl⟩
 refine sS H fun K5 k5=>sr 1 rfl<|sE ?_;clear H a;intro a H
 refine k5 _ ?_;clear k5 K5
 refine wp_seq_k fun K6 k6=>?_
 refine condL H rfl (fun hc1=>?_) (fun hc1=>?_)
 ·skip
  refine wp_skip ?_
  refine k6 _ _ ?_
  refine wp_seq_k fun K7 k7=>?_
  refine wp_block ?_
  refine sS H fun K8 k8=>sr 2 rfl<|sE ?_;clear H a;intro a H
  refine k8 _ ?_;clear k8 K8
  refine seq_list fun K9 k9=>?_
  refine ls 5 H<|sr 3 rfl<|si aT bA G G (hl.adr (by omega)) (by omega)<|slm aD rfl (hl.rd S (by omega) (by omega))<|sE ?_;clear H a;intro a H
  have S1:=(S.sel [0] G G)
  refine nL (fs:=fs) (cs:=cs) (vs:=[.int .i64 (l.getD k 0)]) H G G G hf hfb hfn (hcall k _ (by omega) S1) ?_;clear H a
  rintro _ _ a ⟨rfl,S2⟩ H
  replace S:=(S.sel [0] G G).callR (M:=[_]) S2;clear S1 S2
  refine k9 _ _ ?_;clear k9 K9
  refine cond_ H rfl (fun hc2=>?_) (fun hc2=>?_)
  ·skip
   try simp only [o1,o2,o3,o4,o5,o6,o7,o8,o9,oa] at hc2
   replace H:=H.keep [5] rfl
   refine sS H fun K10 k10=>sr 2 rfl<|sE ?_;clear H a;intro a H
   refine k10 _ ?_;clear k10 K10
   refine wp_ret ?_
   refine ret1 (fn:=Tryz.f119) rfl H rfl ?_
   exact ⟨_,rfl,by rw [Ud (k:=k) (by omega) (by simpa using hc2)];simp,(S.sel [0] G G)⟩
  try simp only [o1,o2,o3,o4,o5,o6,o7,o8,o9,oa] at hc2
  refine wp_skip ?_
  refine k7 _ _ ?_
  refine sO H<|sd (aK G G (by unfold i64ok;omega))<|sr 1 rfl<|sE ?_;clear H a;intro a H
  exact k4 (g1-1) (k+1) a _ (by omega) (⟨by omega,by omega,Ke (by omega) hp.2.2 (by simpa using hc2)⟩) (S.sel [0] G G) (H.keep [8,0,1,7] rfl)
 refine wp_exit ?_
 refine k2 _ _ ?_
 refine sS H fun K12 k12=>sr 1 rfl<|sE ?_;clear H a;intro a H
 refine k12 _ ?_;clear k12 K12
 refine wp_ret ?_
 refine ret1 (fn:=Tryz.f119) rfl H rfl ?_
 refine ⟨_,rfl,?_,(S.sel [0] G G)⟩;rw [List.take_of_length_le (by omega)] at hp;rw [hp.2.2];rfl
theorem fN (l : List Int) (A : Option Addr) (cp : Nat) (f : Nat) (fn : Func) (fs cs : List Value) (p : Int → Bool) (m : Mem) (w : World) (F : Nat → Prop) (S : St w F [m] w) (hl : InS w F 1 A l.length (icl l)) (hn : l.length ≤ 9223372036854775807) (hf : Tryz.prog.funcs[f]? = some fn) (hfb : fn.body.isNone = false) (hfn : (fn.name == "runtime.NumGoroutine") = false) (hcall : ∀ (k : Nat) (w' : World), k < l.length → St w F [m] w' → Calls Tryz.prog f (fs ++ [Value.int .i64 (l.getD k 0)] ++ cs).toArray w' (Ret fun v w'' => v = .bool (p (l.getD k 0)) ∧ St w' (fps [m]) [m] w'')) :
    Calls Tryz.prog 92 [.slice A l.length cp,.func (.func f) fs.toArray cs.toArray].toArray w (Ret (fun u w'=>u = .bool (l.any p)∧St w F [m] w')):=by
 refine enter Tryz.func92 rfl Tryz.ntmps92 rfl (fun a H=>?_)
 skip
 refine sS H fun K1 k1=>sr 1 rfl<|sE ?_;clear H a;intro a H
 refine k1 _ ?_;clear k1 K1
 refine seq_list fun K2 k2=>?_
 refine ls 2 H<|sr 2 rfl<|sE ?_;clear H a;intro a H
 have S1:=(S.sel [0] G G)
 refine aA H G G Tryz.func119 G G (vN l A cp f fn fs cs p m _ _ S1.startR (hl.nowR S1) hn hf hfb hfn (fun k w' hk S'=>hcall k w' hk (St.back S1 S'))) ?_;clear H a
 rintro _ _ a ⟨n9,rfl,hn9,S2⟩ H
 replace S:=(S.sel [0] G G).callR (M:=[_]) S2;clear S1 S2
 refine ls 2 H<|sr 2 rfl<|sE ?_;clear H a;intro a H
 refine k2 _ _ ?_;clear k2 K2
 refine wp_ret ?_
 refine ret1 (fn:=Tryz.f92) rfl H rfl ?_
 exact ⟨congrArg Value.bool hn9,(S.sel [0] G G)⟩
theorem zC (hz:Int) (sw:List Int) (SA:Option Addr) (sc:Nat) (ws:List Wr) (QA:Option Addr) (qc:Nat) (OA:Nat→Option Addr) (oc:Nat→Nat) (ha cl op:Int) (x:Int) (w:World) (F:Nat→Prop) (hsw:InS w noF 1 SA sw.length (icl sw)) (V:CirV hz sw ws) (hha:0≤ha∧ha≤4095) (hcl:0≤cl∧cl≤4095) (hop:0≤op∧op≤4095) (hx:0≤x∧x<sw.length) :
    Calls Tryz.prog 97 [.agg [.int .i64 hz,.slice SA sw.length sc,.slice QA ws.length qc,.int .i64 ha,.int .i64 cl,.int .i64 op].toArray,.int .i64 x].toArray w (Ret (fun u w'=>u = .bool (condB sw ha cl op x)∧St w noF [] w')):=by
 have hn12:=V.nsw
 have hsb:=V.swb x.toNat (by omega)
 refine enter Tryz.func97 rfl Tryz.ntmps97 rfl (fun a H=>?_)
 have S:=St.start w
 refine seq_list fun K1 k1=>?_
 refine aO H rfl S G G ?_;clear H a S;intro b2 _ a hb2 hbw2 S H
 refine ls 1 H<|sr 1 rfl<|sE ?_;clear H a;intro a H
 refine k1 _ _ ?_;clear k1 K1
 replace H:=H.keep [1,2] rfl
 replace S:=S.drew
 refine sD H fun K2 k2=>sf Lm rfl<|sl S 0 aD G G G<|sr 1 rfl<|sd (fQ G G (by omega) (by omega))<|sd (eY G G)<|sr 2 rfl<|sg 18 6 11 29 true G G (fun hg7=>by
     have hq7:=hg7;try simp only [o1,o2,o3,o4,o5,o6,o7,o8,o9,oa] at hq7
     exact sy hg7<|sf Ll rfl<|sy hg7<|sl S 0 aD G G G<|sy hg7<|sr 1 rfl<|sy hg7<|sd (fQ G G (by omega) (by omega))<|sy hg7<|sd (eY G G)<|sy hg7<|sr 1 rfl<|sy hg7<|sr 1 rfl<|sg 10 13 18 28 false G G (fun hg14=>by
          have hq14:=hg14;try simp only [o1,o2,o3,o4,o5,o6,o7,o8,o9,oa] at hq14
          exact sy hg14<|sf Ag rfl<|sy hg14<|sf kA rfl<|sy hg14<|sl S 0 bM G G G<|sy hg14<|sr 1 rfl<|sy hg14<|sI aT bA G G (hsw.adr (by omega)) (by omega) (by omega)<|sy hg14<|slm aD rfl (hsw.rd S (by omega) (by omega))<|sy hg14<|sf Lj rfl<|sy hg14<|sl S 0 aD G G G<|sy hg14<|sd (wX G G (by omega) (by omega))<|sy hg14<|sr 1 rfl<|sz 10 G G G)<|sy hg7<|so G G G<|sz 9 G G G)<|sa G G G<|sr 1 rfl<|sE ?_;clear H a;intro a H
 refine k2 _ ?_;clear k2 K2
 refine wp_ret ?_
 refine ret1 (fn:=Tryz.f97) rfl H rfl ?_
 exact ⟨rfl,(S.sel [] G G)⟩
theorem Kf (hz:Int) (sw:List Int) (SA:Option Addr) (sc:Nat) (ws:List Wr) (QA:Option Addr) (qc:Nat) (OA:Nat→Option Addr) (oc:Nat→Nat) (ha cl op:Int) (n sb:Nat) (x:Int) (w:World) (F:Nat→Prop) (S:St w F [boxM sb 140 [.int .i64 hz,.slice SA sw.length sc,.slice QA ws.length qc,.int .i64 ha,.int .i64 cl,.int .i64 op]] w) (hsw:InS w F 1 SA sw.length (icl sw)) (hws:InS w F 2 QA ws.length (gG ws OA oc)) (hof:∀ k,k<ws.length→InS w F 1 (OA k) (ws.getD k Wr.zero).of.length (icl (ws.getD k Wr.zero).of)) (hx:0≤x∧x<ws.length) (hxn:ws.length-x.toNat≤n) (ih:∀ (x:Int) (w:World),0≤x∧x<ws.length→ws.length-x.toNat≤n→InS w noF 1 SA sw.length (icl sw)→InS w noF 2 QA ws.length (gG ws OA oc)→(∀ k,k<ws.length→InS w noF 1 (OA k) (ws.getD k Wr.zero).of.length (icl (ws.getD k Wr.zero).of))→Calls Tryz.prog 64 [.agg [.int .i64 hz,.slice SA sw.length sc,.slice QA ws.length qc,.int .i64 ha,.int .i64 cl,.int .i64 op].toArray,.int .i64 x].toArray w (Ret fun u w'=>u = .bool (wireB sw ws ha cl op n x.toNat)∧St w noF [] w')) :
    Calls Tryz.prog 98 [.int .i64 x,.pointer (some ⟨sb,0,none⟩)].toArray w (Ret (fun u w'=>u = .bool (!wireB sw ws ha cl op n x.toNat)∧St w F [boxM sb 140 [.int .i64 hz,.slice SA sw.length sc,.slice QA ws.length qc,.int .i64 ha,.int .i64 cl,.int .i64 op]] w')):=by
 refine enter Tryz.func98 rfl Tryz.ntmps98 rfl (fun a H=>?_)
 skip
 refine sS H fun K1 k1=>sr 1 rfl<|sE ?_;clear H a;intro a H
 refine k1 _ ?_;clear k1 K1
 refine seq_list fun K2 k2=>?_
 refine ls 2 H<|sd ((aC xR Dg rfl S (i:=0) G G))<|sr 1 rfl<|sE ?_;clear H a;intro a H
 refine aA H G G Tryz.func64 G G (ih x _ hx hxn (hsw.now S) (hws.now S) (fun k hk=>(hof k hk).now S)) ?_;clear H a
 rintro _ _ a ⟨rfl,S2⟩ H
 replace S:=S.call S2;clear S2
 refine ls 2 H<|sr 2 rfl<|sE ?_;clear H a;intro a H
 refine k2 _ _ ?_;clear k2 K2
 refine wp_ret ?_
 refine ret1 (fn:=Tryz.f98) rfl H rfl ?_
 exact ⟨rfl,(S.sel [0] G G)⟩
theorem Ue (hz:Int) (sw:List Int) (SA:Option Addr) (sc:Nat) (ws:List Wr) (QA:Option Addr) (qc:Nat) (OA:Nat→Option Addr) (oc:Nat→Nat) (ha cl op:Int) (n:Nat) (y:Int) (sb:Nat) (w:World) (F:Nat→Prop) (S:St w F [boxM sb 140 [.int .i64 hz,.slice SA sw.length sc,.slice QA ws.length qc,.int .i64 ha,.int .i64 cl,.int .i64 op]] w) (hsw:InS w F 1 SA sw.length (icl sw)) (hws:InS w F 2 QA ws.length (gG ws OA oc)) (hof:∀ k,k<ws.length→InS w F 1 (OA k) (ws.getD k Wr.zero).of.length (icl (ws.getD k Wr.zero).of)) (V:CirV hz sw ws) (hy:0≤y∧y<ws.length) (hyn:ws.length-y.toNat≤n+1) (hc1:¬ (ws.getD y.toNat Wr.zero).kind=1) (ih:∀ (x:Int) (w:World),0≤x∧x<ws.length→ws.length-x.toNat≤n→InS w noF 1 SA sw.length (icl sw)→InS w noF 2 QA ws.length (gG ws OA oc)→(∀ k,k<ws.length→InS w noF 1 (OA k) (ws.getD k Wr.zero).of.length (icl (ws.getD k Wr.zero).of))→Calls Tryz.prog 64 [.agg [.int .i64 hz,.slice SA sw.length sc,.slice QA ws.length qc,.int .i64 ha,.int .i64 cl,.int .i64 op].toArray,.int .i64 x].toArray w (Ret fun u w'=>u = .bool (wireB sw ws ha cl op n x.toNat)∧St w noF [] w')):Calls Tryz.prog 92 #[.slice (OA y.toNat) (ws.getD y.toNat Wr.zero).of.length (oc y.toNat),.func (.func 64) #[.agg [.int .i64 hz,.slice SA sw.length sc,.slice QA ws.length qc,.int .i64 ha,.int .i64 cl,.int .i64 op].toArray] #[]] w (Ret fun u w'=>u = .bool ((ws.getD y.toNat Wr.zero).of.any (fun k=>wireB sw ws ha cl op n k.toNat))∧St w F [boxM sb 140 [.int .i64 hz,.slice SA sw.length sc,.slice QA ws.length qc,.int .i64 ha,.int .i64 cl,.int .i64 op]] w'):=by
  have hmo:=V.more y.toNat (by omega)
  have hln:=(hmo hc1).1
  have hnw:=V.nws
  have hh:=fN (ws.getD y.toNat Wr.zero).of (OA y.toNat) (oc y.toNat) 64 _ [.agg [.int .i64 hz,.slice SA sw.length sc,.slice QA ws.length qc,.int .i64 ha,.int .i64 cl,.int .i64 op].toArray] [] (fun k=>wireB sw ws ha cl op n k.toNat) _ w F S (hof y.toNat (by omega)) (by omega) Tryz.func64 G G (fun k w' hk S'=>by
    have h9:=(hmo hc1).2 k hk
    have S9:=S'
    exact vF (ih ((ws.getD y.toNat Wr.zero).of.getD k 0) w' (by omega) (by omega) (hsw.now S9) (hws.now S9) (fun q hq=>(hof q hq).now S9)) fun v w'' h=>⟨h.1,S'.startR.call h.2⟩)
  exact hh
theorem Uf (hz:Int) (sw:List Int) (SA:Option Addr) (sc:Nat) (ws:List Wr) (QA:Option Addr) (qc:Nat) (OA:Nat→Option Addr) (oc:Nat→Nat) (ha cl op:Int) (n:Nat) (y:Int) (sb:Nat) (w:World) (F:Nat→Prop) (S:St w F [boxM sb 140 [.int .i64 hz,.slice SA sw.length sc,.slice QA ws.length qc,.int .i64 ha,.int .i64 cl,.int .i64 op]] w) (hsw:InS w F 1 SA sw.length (icl sw)) (hws:InS w F 2 QA ws.length (gG ws OA oc)) (hof:∀ k,k<ws.length→InS w F 1 (OA k) (ws.getD k Wr.zero).of.length (icl (ws.getD k Wr.zero).of)) (V:CirV hz sw ws) (hy:0≤y∧y<ws.length) (hyn:ws.length-y.toNat≤n+1) (hc1:¬ (ws.getD y.toNat Wr.zero).kind=1) (ih:∀ (x:Int) (w:World),0≤x∧x<ws.length→ws.length-x.toNat≤n→InS w noF 1 SA sw.length (icl sw)→InS w noF 2 QA ws.length (gG ws OA oc)→(∀ k,k<ws.length→InS w noF 1 (OA k) (ws.getD k Wr.zero).of.length (icl (ws.getD k Wr.zero).of))→Calls Tryz.prog 64 [.agg [.int .i64 hz,.slice SA sw.length sc,.slice QA ws.length qc,.int .i64 ha,.int .i64 cl,.int .i64 op].toArray,.int .i64 x].toArray w (Ret fun u w'=>u = .bool (wireB sw ws ha cl op n x.toNat)∧St w noF [] w')):Calls Tryz.prog 92 #[.slice (OA y.toNat) (ws.getD y.toNat Wr.zero).of.length (oc y.toNat),.func (.func 98) #[] #[.pointer (some ⟨sb,0,none⟩)]] w (Ret fun u w'=>u = .bool ((ws.getD y.toNat Wr.zero).of.any (fun k=>!wireB sw ws ha cl op n k.toNat))∧St w F [boxM sb 140 [.int .i64 hz,.slice SA sw.length sc,.slice QA ws.length qc,.int .i64 ha,.int .i64 cl,.int .i64 op]] w'):=by
  have hmo:=V.more y.toNat (by omega)
  have hln:=(hmo hc1).1
  have hnw:=V.nws
  have hh:=fN (ws.getD y.toNat Wr.zero).of (OA y.toNat) (oc y.toNat) 98 _ [] [.pointer (some ⟨sb,0,none⟩)] (fun k=>!wireB sw ws ha cl op n k.toNat) _ w F S (hof y.toNat (by omega)) (by omega) Tryz.func98 G G (fun k w' hk S'=>by
    have h9:=(hmo hc1).2 k hk
    have S9:=S'
    exact Kf hz sw SA sc ws QA qc OA oc ha cl op n sb ((ws.getD y.toNat Wr.zero).of.getD k 0) w' _ S'.startR (hsw.nowR S9) (hws.nowR S9) (fun q hq=>(hof q hq).nowR S9) (by omega) (by omega) ih)
  exact hh
theorem vO (hz:Int) (sw:List Int) (SA:Option Addr) (sc:Nat) (ws:List Wr) (QA:Option Addr) (qc:Nat) (OA:Nat→Option Addr) (oc:Nat→Nat) (ha cl op:Int) (n:Nat) (y:Int) (w:World) (hsw:InS w noF 1 SA sw.length (icl sw)) (hws:InS w noF 2 QA ws.length (gG ws OA oc)) (hof:∀ k,k<ws.length→InS w noF 1 (OA k) (ws.getD k Wr.zero).of.length (icl (ws.getD k Wr.zero).of)) (V:CirV hz sw ws) (hha:0≤ha∧ha≤4095) (hcl:0≤cl∧cl≤4095) (hop:0≤op∧op≤4095) (hy:0≤y∧y<ws.length) (hyn:ws.length-y.toNat≤n+1) (ih:∀ (x:Int) (w:World),0≤x∧x<ws.length→ws.length-x.toNat≤n→InS w noF 1 SA sw.length (icl sw)→InS w noF 2 QA ws.length (gG ws OA oc)→(∀ k,k<ws.length→InS w noF 1 (OA k) (ws.getD k Wr.zero).of.length (icl (ws.getD k Wr.zero).of))→Calls Tryz.prog 64 [.agg [.int .i64 hz,.slice SA sw.length sc,.slice QA ws.length qc,.int .i64 ha,.int .i64 cl,.int .i64 op].toArray,.int .i64 x].toArray w (Ret fun u w'=>u = .bool (wireB sw ws ha cl op n x.toNat)∧St w noF [] w')) :
    Calls Tryz.prog 64 [.agg [.int .i64 hz,.slice SA sw.length sc,.slice QA ws.length qc,.int .i64 ha,.int .i64 cl,.int .i64 op].toArray,.int .i64 y].toArray w (Ret (fun u w'=>u = .bool (wireB sw ws ha cl op (n+1) y.toNat)∧St w noF [] w')):=by
 have hnw:=V.nws
 have hmo:=V.more y.toNat (by omega)
 have hon:=V.one y.toNat (by omega)
 refine enter Tryz.func64 rfl Tryz.ntmps64 rfl (fun a H=>?_)
 have S:=St.start w
 refine seq_list fun K1 k1=>?_
 refine aO H rfl S G G ?_;clear H a S;intro b2 _ a hb2 hbw2 S H
 refine ls 1 H<|sr 1 rfl<|sE ?_;clear H a;intro a H
 refine k1 _ _ ?_;clear k1 K1
 replace H:=H.keep [1,2] rfl
 refine seq_list fun K2 k2=>?_
 refine ls 6 H<|sf Ag rfl<|sf lD rfl<|sl S 0 nR G G G<|sr 1 rfl<|sI oQ tF G G (hws.adr (by omega)) (by omega) (by omega)<|sd ((aW Lg tF rfl S hws (by omega) (by omega)))<|sE ?_;clear H a;intro a H
 refine aI H rfl S Fi ?_;clear H a S;intro b5 _ a hb5 hbw5 S H
 refine aF H S (i:=0) G G G G tF G G ?_
 clear H a S;intro _ a S H
 refine k2 _ _ ?_;clear k2 K2
 refine wp_seq_k fun K3 k3=>?_
 replace H:=H.keep [2,5] rfl
 refine sS H fun K4 k4=>sf Fg rfl<|sl S 0 aD G G G<|sE ?_;clear H a;intro a H
 refine k4 _ ?_;clear k4 K4
 refine wp_block ?_
 refine sS H fun K5 k5=>sr 2 rfl<|sE ?_;clear H a;intro a H
 refine k5 _ ?_;clear k5 K5
 refine condE H rfl (fun hc1=>?_) (fun hc1=>?_)
 ·skip
  replace H:=H.keep [2,5] rfl
  replace S:=S.drew
  refine seq_wq [(0,true),(1,true),(2,true),(3,true),(4,true),(5,false),(6,true)] (by kernel_rfl) (by kernel_rfl) (S.sel [0,1] G G) fun K6 k6=>?_
  refine qF H<|qd rfl (fun _ S=>(aC xR Dg rfl S (i:=1) G G))<|qd rfl (fun _ S=>(aB fK rfl))<|qd rfl (fun _ S=>aE bM rfl (boxM.rd S (i:=0) G G))<|qd rfl (fun _ S=>bY aT bA G G ((hof y.toNat (by omega)).adr (by omega)) (by omega) (by omega))<|qd rfl (fun _ S=>aE aD rfl ((hof y.toNat (by omega)).rd S (by omega) (by omega)))<|qK ?_;clear H a;intro a H
  refine aS rfl ?_
  refine aA H G G Tryz.func97 G G (zC hz sw SA sc ws QA qc OA oc ha cl op ((ws.getD y.toNat Wr.zero).of.getD 0 0) _ noF (hsw.now S) V hha hcl hop (by have:=hon hc1;omega)) ?_;clear H a
  rintro _ _ a ⟨rfl,S2⟩ H
  replace S:=S.call S2;clear S2
  refine wpList_nil (And.intro (S.sel [0,1] G G) ?_)
  refine qF H<|qr 1 rfl<|qK ?_;clear H a;intro a H
  refine bF ?_
  refine k6 _ _ ?_
  clear k6 K6
  refine wp_ret ?_
  refine ret1 (fn:=Tryz.f64) rfl H rfl ?_
  refine ⟨congrArg Value.bool ?_,(S.sel [] G G)⟩
  rw [wireB,if_pos hc1]
 refine sS H fun K7 k7=>sr 2 rfl<|sE ?_;clear H a;intro a H
 refine k7 _ ?_;clear k7 K7
 refine condE H rfl (fun hc2=>?_) (fun hc2=>?_)
 ·skip
  replace H:=H.keep [2,5] rfl
  refine seq_list fun K8 k8=>?_
  refine ls 4 H<|sf fK rfl<|sl S 0 bM G G G<|sd ((aC xR Dg rfl S (i:=1) G G))<|sr 1 rfl<|sE ?_;clear H a;intro a H
  have S1:=(S.sel [1] G G)
  refine aA H G G Tryz.func92 G G (Ue hz sw SA sc ws QA qc OA oc ha cl op n y b2 _ _ S1.startR ((hsw.nowR S1)) (hws.nowR S1) (fun k hk=>(hof k hk).nowR S1) V hy hyn hc1 ih) ?_;clear H a
  rintro _ _ a ⟨rfl,S2⟩ H
  replace S:=(S.sel [1,0] G G).callR (M:=[_]) S2;clear S1 S2
  refine ls 1 H<|sr 1 rfl<|sE ?_;clear H a;intro a H
  refine k8 _ _ ?_;clear k8 K8
  refine wp_ret ?_
  refine ret1 (fn:=Tryz.f64) rfl H rfl ?_
  refine ⟨congrArg Value.bool ?_,(S.sel [] G G)⟩
  rw [wireB,if_neg hc1,if_pos hc2]
 skip
 refine wp_skip ?_
 refine k3 _ _ ?_
 replace H:=H.keep [2,5] rfl
 refine seq_list fun K9 k9=>?_
 refine ls 3 H<|sf fK rfl<|sl S 0 bM G G G<|sr 1 rfl<|sE ?_;clear H a;intro a H
 have S1:=(S.sel [1] G G)
 refine aA H G G Tryz.func92 G G (Uf hz sw SA sc ws QA qc OA oc ha cl op n y b2 _ _ S1.startR ((hsw.nowR S1)) (hws.nowR S1) (fun k hk=>(hof k hk).nowR S1) V hy hyn hc1 ih) ?_;clear H a
 rintro _ _ a ⟨rfl,S2⟩ H
 replace S:=(S.sel [1,0] G G).callR (M:=[_]) S2;clear S1 S2
 refine ls 2 H<|sr 2 rfl<|sE ?_;clear H a;intro a H
 refine k9 _ _ ?_;clear k9 K9
 refine wp_ret ?_
 refine ret1 (fn:=Tryz.f64) rfl H rfl ?_
 refine ⟨congrArg Value.bool ?_,(S.sel [] G G)⟩
 rw [wireB,if_neg hc1,if_neg hc2]
theorem Pw (hz:Int) (sw:List Int) (SA:Option Addr) (sc:Nat) (ws:List Wr) (QA:Option Addr) (qc:Nat) (OA:Nat→Option Addr) (oc:Nat→Nat) (ha cl op:Int) (V:CirV hz sw ws) (hha:0≤ha∧ha≤4095) (hcl:0≤cl∧cl≤4095) (hop:0≤op∧op≤4095):∀ n:Nat,∀ (x:Int) (w:World),0≤x∧x<ws.length→ws.length-x.toNat≤n→InS w noF 1 SA sw.length (icl sw)→InS w noF 2 QA ws.length (gG ws OA oc)→(∀ k,k<ws.length→InS w noF 1 (OA k) (ws.getD k Wr.zero).of.length (icl (ws.getD k Wr.zero).of))→Calls Tryz.prog 64 [.agg [.int .i64 hz,.slice SA sw.length sc,.slice QA ws.length qc,.int .i64 ha,.int .i64 cl,.int .i64 op].toArray,.int .i64 x].toArray w (Ret fun u w'=>u = .bool (wireB sw ws ha cl op n x.toNat)∧St w noF [] w'):=by
  intro n
  induction n with
  | zero=>intro x w hx hxn;omega
  | succ n ih=>intro x w hx hxn h1 h2 h3;exact vO hz sw SA sc ws QA qc OA oc ha cl op n x w h1 h2 h3 V hha hcl hop hx hxn ih
end
section
theorem Cg {l:List Int} {x:Int} {v:Value} (hv:v = .int .i64 x):∀ k j,k<l.length+1→j<1→capp l.length (icl l) (fun k' j=>([[v]].getD k' []).getD j undef) k j=icl (l++[x]) k j:=by
  subst hv
  intro k j hk hj
  unfold capp icl
  by_cases h:k<l.length
  · rw [if_pos h]
    simp only [List.getD_eq_getElem?_getD,List.getElem?_append_left h]
  · rw [if_neg h]
    obtain rfl:k=l.length:=by omega
    obtain rfl:j=0:=by omega
    simp
theorem pwc {h:Nat} (hh:h<12):0≤(1:Int)*2^(h:Int).toNat∧(1:Int)*2^(h:Int).toNat≤2048:=by
  rw [Int.toNat_natCast,Int.one_mul]
  have h8:2^h≤2048:=Nat.le_trans (Nat.pow_le_pow_right (by omega) (show h≤11 by omega)) (by decide)
  have e:(2:Int)^h=((2^h:Nat):Int):=(Int.natCast_pow 2 h).symm
  rw [e]
  exact ⟨Int.natCast_nonneg _,Int.ofNat_le.2 h8⟩
def wkN (hz:Int) (sw:List Int) (ws:List Wr) (cl:Int):Nat→List Int
  | 0=>[]
  | h+1=>if wireB sw ws (1*2^(h:Int).toNat) cl 0 ws.length (Int.toNat 0)=true then wkN hz sw ws cl h++[(h:Int)] else wkN hz sw ws cl h
theorem sN {hz cl:Int} {sw:List Int} {ws:List Wr}:∀ h,(wkN hz sw ws cl h).length≤h:=fun h=>by
  induction h with
  | zero=>exact Nat.le_refl _
  | succ h ih=>rw [wkN];split <;> (try rw [List.length_append,List.length_singleton]) <;> omega
def critN (hz:Int) (sw:List Int) (ws:List Wr):Nat→List Int
  | 0=>[]
  | s+1=>if 0<(wkN hz sw ws (1*2^(s:Int).toNat) hz.toNat).length then critN hz sw ws s++[(s:Int)] else critN hz sw ws s
theorem wY {hz:Int} {sw:List Int} {ws:List Wr}:∀ h,(critN hz sw ws h).length≤h:=fun h=>by
  induction h with
  | zero=>exact Nat.le_refl _
  | succ h ih=>rw [critN];split <;> (try rw [List.length_append,List.length_singleton]) <;> omega
theorem Ch (hz:Int) (sw:List Int) (SA:Option Addr) (sc:Nat) (ws:List Wr) (QA:Option Addr) (qc:Nat) (OA:Nat→Option Addr) (oc:Nat→Nat) (cl:Int) (w:World) (hsw:InS w noF 1 SA sw.length (icl sw)) (hws:InS w noF 2 QA ws.length (gG ws OA oc)) (hof:∀ k,k<ws.length→InS w noF 1 (OA k) (ws.getD k Wr.zero).of.length (icl (ws.getD k Wr.zero).of)) (V:CirV hz sw ws) (hcl:0≤cl∧cl≤4095) :
    Calls Tryz.prog 36 [.agg [.int .i64 hz,.slice SA sw.length sc,.slice QA ws.length qc].toArray,.int .i64 cl].toArray w (Ret (fun u w'=>∃ A' c',u = .slice A' (wkN hz sw ws cl hz.toNat).length c'∧St w noF [ownM 3 1 A' (wkN hz sw ws cl hz.toNat).length c' (icl (wkN hz sw ws cl hz.toNat))] w')):=by
 have hzb:=V.hzb
 have hnw:=V.nws
 refine enter Tryz.func36 rfl Tryz.ntmps36 rfl (fun a H=>?_)
 have S:=St.start w
 refine seq_list fun K1 k1=>?_
 refine aO H rfl S G G ?_;clear H a S;intro b2 _ a hb2 hbw2 S H
 refine ls 1 H<|sr 1 rfl<|sE ?_;clear H a;intro a H
 refine k1 _ _ ?_;clear k1 K1
 refine wp_seq_k fun K2 k2=>?_
 refine sS H fun K3 k3=>sf sC rfl<|sl S 0 aD G G G<|sr 1 rfl<|sE ?_;clear H a;intro a H
 refine k3 _ ?_;clear k3 K3
 refine wp_block ?_
 replace S:=S.newNil 3 1 (icl [])
 refine loop_st (X:=Nat×List Int×Option Addr×Nat) (R0:=_) [1,2,7] H rfl (fun ⟨h,L9,A9,c9⟩=>[(4,.slice A9 L9.length c9),(8,.int .i64 (h:Int))]) (fun ⟨h,L9,A9,c9⟩=>[ownM 3 1 A9 L9.length c9 (icl L9)]) (fun g ⟨h,L9,A9,c9⟩=>(h:Int)≤hz∧(g:Int)+h=hz∧L9=wkN hz sw ws cl h) (hz.toNat) (0,[],none,0) ?_ (S.sel [0,1] G G) (H.keep [4,8,1,2,7] rfl) ?_
 · exact ⟨by omega,by omega,rfl⟩
 clear H S a
 intro g1 x1 a w1 hp S H K4 k4
 obtain ⟨h,L9,A9,c9⟩:=x1
 dsimp only at hp S H
 refine sS H fun K5 k5=>sr 1 rfl<|sE ?_;clear H a;intro a H
 refine k5 _ ?_;clear k5 K5
 refine wp_seq_k fun K6 k6=>?_
 refine condL H rfl (fun hc1=>?_) (fun hc1=>?_)
 ·skip
  refine wp_skip ?_
  refine k6 _ _ ?_
  refine wp_seq_k fun K7 k7=>?_
  refine wp_block ?_
  refine sS H fun K8 k8=>sr 2 rfl<|sE ?_;clear H a;intro a H
  refine k8 _ ?_;clear k8 K8
  have hsh:=pwc (h:=h) (by omega)
  have hL9:L9.length≤h:=by rw [hp.2.2];exact sN h
  replace S:=S.drew
  refine seq_wq [(0,true),(1,true),(2,true),(3,true),(4,true),(5,false)] (by kernel_rfl) (by kernel_rfl) (S.sel [0,1] G G) fun K9 k9=>?_
  refine qF H<|qd rfl (fun _ S=>(aC eN dR rfl S (i:=1) G G))<|qr 1 rfl<|qd rfl (fun _ S=>eJ G G (by omega) (by omega) (by unfold i64ok;omega))<|qr 1 rfl<|qd rfl (fun _ S=>aN Vy G G)<|qK ?_;clear H a;intro a H
  refine aS rfl ?_
  refine aA H G G Tryz.func64 G G (Pw hz sw SA sc ws QA qc OA oc (1*2^(h:Int).toNat) cl 0 V (by omega) hcl (by omega) ws.length 0 _ (by omega) (by omega) (hsw.now S) (hws.now S) (fun k hk=>(hof k hk).now S)) ?_;clear H a
  rintro _ _ a ⟨rfl,S2⟩ H
  replace S:=S.call S2;clear S2
  refine wpList_nil (And.intro (S.sel [0,1] G G) ?_)
  refine bF ?_
  refine k9 _ _ ?_
  clear k9 K9
  refine cond_ H rfl (fun hc2=>?_) (fun hc2=>?_)
  ·skip
   try simp only [o1,o2,o3,o4,o5,o6,o7,o8,o9,oa] at hc2
   replace H:=H.keep [1,2,4,5,7,8] rfl
   refine one_list ?_
   refine ls 2 H<|sr 2 rfl<|sE ?_;clear H a;intro a H
   refine aZ H rfl S aT bA fO G G G G G G G G G ?_;clear H a S;intro A1 _ a hA1 S H
   refine bW H rfl S aT bA fO oY G G (i:=1) G G G (ownM.inS S (i:=0) rfl) (jS (one rfl)) (by omega) (by omega) ?_;clear H a S;intro A2 c2 _ a S H
   replace S:=S.recell (i:=1) rfl (cell':=icl (L9++[(h:Int)])) (Cg rfl)
   rw [show L9.length+1=(L9++[(h:Int)]).length by simp] at H S
   refine ls 1 H<|sr 1 rfl<|sE ?_;clear H a;intro a H
   refine k7 _ _ ?_
   refine sO H<|sd (aK G G (by unfold i64ok;omega))<|sr 1 rfl<|sE ?_;clear H a;intro a H
   exact k4 (g1-1) (h+1,_,_,_) a _ (by omega) (⟨by omega,by omega,by rw [wkN];first|rw [if_pos hc2,←hp.2.2]|rw [if_neg (by simpa using hc2),←hp.2.2]⟩) (S.sel [1,2] G G) (H.keep [4,8,1,2,7] rfl)
  try simp only [o1,o2,o3,o4,o5,o6,o7,o8,o9,oa] at hc2
  refine wp_skip ?_
  refine k7 _ _ ?_
  refine sO H<|sd (aK G G (by unfold i64ok;omega))<|sr 1 rfl<|sE ?_;clear H a;intro a H
  exact k4 (g1-1) (h+1,_,_,_) a _ (by omega) (⟨by omega,by omega,by rw [wkN];first|rw [if_pos hc2,←hp.2.2]|rw [if_neg (by simpa using hc2),←hp.2.2]⟩) (S.sel [0,1] G G) (H.keep [4,8,1,2,7] rfl)
 refine wp_exit ?_
 refine k2 _ _ ?_
 replace H:=H.keep [4] rfl
 refine sS H fun K13 k13=>sr 2 rfl<|sE ?_;clear H a;intro a H
 refine k13 _ ?_;clear k13 K13
 refine wp_ret ?_
 refine ret1 (fn:=Tryz.f36) rfl H rfl ?_
 have hh9:h=hz.toNat:=by omega
 rw [hh9] at hp
 rw [←hp.2.2]
 exact ⟨_,_,rfl,(S.sel [0] G G)⟩
end
section
theorem lowA_next {l:List Int} {lo:Int} {k:Nat}:lowA l lo (k+1)=l.getD k 0+1:=by unfold lowA;rw [if_neg (by omega)];rfl
theorem pwh {hz:Int} (h:0≤hz∧hz≤12):0≤(1:Int)*2^hz.toNat∧(1:Int)*2^hz.toNat≤4096:=by
  rw [Int.one_mul]
  have h8:2^hz.toNat≤4096:=Nat.le_trans (Nat.pow_le_pow_right (by omega) (show hz.toNat≤12 by omega)) (by decide)
  have e:(2:Int)^hz.toNat=((2^hz.toNat:Nat):Int):=(Int.natCast_pow 2 hz.toNat).symm
  rw [e]
  exact ⟨Int.natCast_nonneg _,Int.ofNat_le.2 h8⟩
def bcl (l:List Bool):Nat→Nat→Value:=fun k _ => .bool (l.getD k false)
theorem Kg {l:List Bool} {k:Nat} (hk:k<l.length) (h:(l.take k).all (fun b=>b)=true) (h2:l.getD k false=true):(l.take (k+1)).all (fun b=>b)=true:=by
  rw [List.getD_eq_getElem?_getD,List.getElem?_eq_getElem hk] at h2
  rw [List.take_succ_eq_append_getElem hk,List.all_append,h]
  simpa using h2
theorem Ug {l:List Bool} {k:Nat} (hk:k<l.length) (h:l.getD k false=false):l.all (fun b=>b)=false:=by
  rw [List.getD_eq_getElem?_getD,List.getElem?_eq_getElem hk] at h
  cases hb:l.all (fun b=>b) with
  | false=>rfl
  | true=>have:=List.all_eq_true.1 hb _ (List.getElem_mem hk);simp at h;rw [h] at this;cases this
theorem Kh (n many:Int) (w:World) (hm:0≤many∧many≤12) :
    Calls Tryz.prog 94 [.int .i64 n,.int .i64 many].toArray w (Ret (fun u w'=>u = .bool (setB n many)∧St w noF [] w')):=by
 have hpw:=pwh hm
 refine enter Tryz.func94 rfl Tryz.ntmps94 rfl (fun a H=>?_)
 have S:=St.start w
 refine sS H fun K1 k1=>sr 1 rfl<|sE ?_;clear H a;intro a H
 refine k1 _ ?_;clear k1 K1
 replace H:=H.keep [0,1] rfl
 refine sS H fun K2 k2=>sr 3 rfl<|sg 4 2 7 11 true G G (fun hg3=>sy hg3<|sr 1 rfl<|sy hg3<|sr 1 rfl<|sy hg3<|sd (eJ G G (by omega) (by omega) (by unfold i64ok;omega))<|sy hg3<|sr 1 rfl<|sz 4 G G G)<|sa G G G<|sr 1 rfl<|sE ?_;clear H a;intro a H
 refine k2 _ ?_;clear k2 K2
 refine wp_ret ?_
 refine ret1 (fn:=Tryz.f94) rfl H rfl ?_
 exact ⟨rfl,(S.sel [] G G)⟩
theorem Es (n:Int) (w:World) :
    Calls Tryz.prog 96 [.int .i64 n].toArray w (Ret (fun u w'=>u = .bool (!decide (n=1))∧St w noF [] w')):=by
 refine enter Tryz.func96 rfl Tryz.ntmps96 rfl (fun a H=>?_)
 have S:=St.start w
 refine sS H fun K1 k1=>sr 1 rfl<|sE ?_;clear H a;intro a H
 refine k1 _ ?_;clear k1 K1
 refine sS H fun K2 k2=>sr 3 rfl<|sE ?_;clear H a;intro a H
 refine k2 _ ?_;clear k2 K2
 refine wp_ret ?_
 refine ret1 (fn:=Tryz.f96) rfl H rfl ?_
 exact ⟨rfl,(S.sel [] G G)⟩
theorem kJ (l:List Int) (A:Option Addr) (cp:Nat) (lo hi:Int) (w:World) (hl:InS w noF 1 A l.length (icl l)) (hn:l.length≤9223372036854775807) (hlo:0≤lo∧lo≤1000) (hhi:0≤hi∧hi≤1000) :
    Calls Tryz.prog 95 [.slice A l.length cp,.int .i64 lo,.int .i64 hi].toArray w (Ret (fun u w'=>u = .bool (ascB l lo hi)∧St w noF [] w')):=by
 refine enter Tryz.func95 rfl Tryz.ntmps95 rfl (fun a H=>?_)
 have S:=St.start w
 refine sS H fun K1 k1=>sr 1 rfl<|sE ?_;clear H a;intro a H
 refine k1 _ ?_;clear k1 K1
 refine wp_seq_k fun K2 k2=>?_
 refine sS H fun K3 k3=>sr 1 rfl<|sL aT rfl<|sr 1 rfl<|sE ?_;clear H a;intro a H
 refine k3 _ ?_;clear k3 K3
 refine wp_block ?_
 refine loop_st (X:=Nat×Int) (R0:=_) [2,9,10] H rfl (fun ⟨k,lw⟩=>[(1,.int .i64 lw),(11,.int .i64 (k:Int))]) (fun ⟨k,lw⟩=>[]) (fun g ⟨k,lw⟩=>k≤l.length∧g+k=l.length∧(0≤lw∧lw≤1000)∧lw=lowA l lo k∧∀ q,q<k→ascP l lo hi q=true) (l.length) (0,lo) ?_ (S.sel [] G G) (H.keep [1,11,2,9,10] rfl) ?_
 · exact ⟨by omega,by omega,by omega,rfl,fun q hq=>absurd hq (Nat.not_lt_zero q)⟩
 clear H S a
 intro g1 x1 a w1 hp S H K4 k4
 obtain ⟨k,lw⟩:=x1
 dsimp only at hp S H
 refine sS H fun K5 k5=>sr 1 rfl<|sE ?_;clear H a;intro a H
 refine k5 _ ?_;clear k5 K5
 refine wp_seq_k fun K6 k6=>?_
 refine condL H rfl (fun hc1=>?_) (fun hc1=>?_)
 ·skip
  refine wp_skip ?_
  refine k6 _ _ ?_
  refine wp_seq_k fun K7 k7=>?_
  refine wp_block ?_
  refine sS H fun K8 k8=>si aT bA G G (hl.adr (by omega)) (by omega)<|slm aD rfl (hl.rd S (by omega) (by omega))<|sr 1 rfl<|sE ?_;clear H a;intro a H
  refine k8 _ ?_;clear k8 K8
  refine wp_seq_k fun K9 k9=>?_
  replace H:=H.keep [1,2,8,9,10,11] rfl
  refine sS H fun K10 k10=>sr 4 rfl<|sg 3 3 18 21 false G G (fun hg4=>sy hg4<|sr 1 rfl<|sy hg4<|sr 1 rfl<|sy hg4<|sr 1 rfl<|sz 3 G G G)<|so G G G<|sE ?_;clear H a;intro a H
  refine k10 _ ?_;clear k10 K10
  refine cond_ H rfl (fun hc2=>?_) (fun hc2=>?_)
  ·skip
   try simp only [o1,o2,o3,o4,o5,o6,o7,o8,o9,oa] at hc2
   have hcx:=hc2
   refine sS H fun K11 k11=>sr 1 rfl<|sE ?_;clear H a;intro a H
   refine k11 _ ?_;clear k11 K11
   refine wp_ret ?_
   refine ret1 (fn:=Tryz.f95) rfl H rfl ?_
   rw [Uc (k:=k) (by omega) (by unfold ascP;rw [←hp.2.2.2.1];exact decide_eq_false (by simp at hcx;omega))];exact ⟨rfl,(S.sel [] G G)⟩
  try simp only [o1,o2,o3,o4,o5,o6,o7,o8,o9,oa] at hc2
  have hcx:=hc2
  refine wp_skip ?_
  refine k9 _ _ ?_
  simp at hcx
  replace H:=H.keep [2,8,9,10,11] rfl
  refine sO H<|sr 1 rfl<|sd (aK G G (by unfold i64ok;omega))<|sr 1 rfl<|sE ?_;clear H a;intro a H
  refine k7 _ _ ?_
  refine sO H<|sd (aK G G (by unfold i64ok;omega))<|sr 1 rfl<|sE ?_;clear H a;intro a H
  exact k4 (g1-1) (k+1,_) a _ (by omega) (⟨by omega,by omega,by omega,lowA_next.symm,fun q hq=>if h9:q<k then hp.2.2.2.2 q h9 else by
        obtain rfl:q=k:=by omega
        unfold ascP;rw [←hp.2.2.2.1];exact decide_eq_true (by omega)⟩) (S.sel [] G G) (H.keep [1,11,2,9,10] rfl)
 refine wp_exit ?_
 refine k2 _ _ ?_
 refine sS H fun K14 k14=>sr 1 rfl<|sE ?_;clear H a;intro a H
 refine k14 _ ?_;clear k14 K14
 refine wp_ret ?_
 refine ret1 (fn:=Tryz.f95) rfl H rfl ?_
 rw [Ub (fun q hq=>hp.2.2.2.2 q (by omega))];exact ⟨rfl,(S.sel [] G G)⟩
theorem Et (l:List Bool) (A:Option Addr) (cp:Nat) (w:World) (hl:InS w noF 1 A l.length (bcl l)) (hn:l.length≤9223372036854775807) :
    Calls Tryz.prog 118 [.slice A l.length cp,.bool false].toArray w (Ret (fun u w'=>∃ n:Int,u = .int .i64 n∧decide (0≤n)=!(l.all fun b=>b)∧St w noF [] w')):=by
 refine enter Tryz.func118 rfl Tryz.ntmps118 rfl (fun a H=>?_)
 have S:=St.start w
 refine sS H fun K1 k1=>sr 1 rfl<|sE ?_;clear H a;intro a H
 refine k1 _ ?_;clear k1 K1
 refine wp_seq_k fun K2 k2=>?_
 refine sS H fun K3 k3=>sr 1 rfl<|sL Dh rfl<|sr 1 rfl<|sE ?_;clear H a;intro a H
 refine k3 _ ?_;clear k3 K3
 refine wp_block ?_
 refine loop_st (X:=Nat) (R0:=_) [0,1,7] H rfl (fun k=>[(8,.int .i64 (k:Int))]) (fun k=>[]) (fun g k=>k≤l.length∧g+k=l.length∧(l.take k).all (fun b=>b)=true) (l.length) 0 ?_ (S.sel [] G G) (H.keep [8,0,1,7] rfl) ?_
 · exact ⟨by omega,by omega,rfl⟩
 clear H S a
 intro g1 x1 a w1 hp S H K4 k4
 obtain ⟨k,rfl⟩:∃ y,y=x1:=⟨_,rfl⟩
 refine sS H fun K5 k5=>sr 1 rfl<|sE ?_;clear H a;intro a H
 refine k5 _ ?_;clear k5 K5
 refine wp_seq_k fun K6 k6=>?_
 refine condL H rfl (fun hc1=>?_) (fun hc1=>?_)
 ·skip
  refine wp_skip ?_
  refine k6 _ _ ?_
  refine wp_seq_k fun K7 k7=>?_
  refine wp_block ?_
  refine sS H fun K8 k8=>sr 2 rfl<|sE ?_;clear H a;intro a H
  refine k8 _ ?_;clear k8 K8
  refine sS H fun K9 k9=>sr 3 rfl<|si Dh Ld G G (hl.adr (by omega)) (by omega)<|slm iY rfl (hl.rd S (by omega) (by omega))<|sd (He Tryz.underlying4 G G)<|sE ?_;clear H a;intro a H
  refine k9 _ ?_;clear k9 K9
  refine cond_ H rfl (fun hc2=>?_) (fun hc2=>?_)
  ·skip
   try simp only [o1,o2,o3,o4,o5,o6,o7,o8,o9,oa] at hc2
   replace H:=H.keep [5] rfl
   refine sS H fun K10 k10=>sr 2 rfl<|sE ?_;clear H a;intro a H
   refine k10 _ ?_;clear k10 K10
   refine wp_ret ?_
   refine ret1 (fn:=Tryz.f118) rfl H rfl ?_
   exact ⟨_,rfl,by rw [Ug (k:=k) (by omega) (by simpa using hc2)];exact decide_eq_true (by omega),(S.sel [] G G)⟩
  try simp only [o1,o2,o3,o4,o5,o6,o7,o8,o9,oa] at hc2
  refine wp_skip ?_
  refine k7 _ _ ?_
  refine sO H<|sd (aK G G (by unfold i64ok;omega))<|sr 1 rfl<|sE ?_;clear H a;intro a H
  exact k4 (g1-1) (k+1) a _ (by omega) (⟨by omega,by omega,Kg (by omega) hp.2.2 (by simpa using hc2)⟩) (S.sel [] G G) (H.keep [8,0,1,7] rfl)
 refine wp_exit ?_
 refine k2 _ _ ?_
 refine sS H fun K12 k12=>sr 1 rfl<|sE ?_;clear H a;intro a H
 refine k12 _ ?_;clear k12 K12
 refine wp_ret ?_
 refine ret1 (fn:=Tryz.f118) rfl H rfl ?_
 exact ⟨_,rfl,by rw [←List.take_of_length_le (l:=l) (i:=k) (by omega),hp.2.2];rfl,(S.sel [] G G)⟩
theorem vP (l:List Bool) (A:Option Addr) (cp:Nat) (w:World) (hl:InS w noF 1 A l.length (bcl l)) (hn:l.length≤9223372036854775807) :
    Calls Tryz.prog 91 [.slice A l.length cp,.bool false].toArray w (Ret (fun u w'=>u = .bool (!(l.all fun b=>b))∧St w noF [] w')):=by
 refine enter Tryz.func91 rfl Tryz.ntmps91 rfl (fun a H=>?_)
 have S:=St.start w
 refine sS H fun K1 k1=>sr 1 rfl<|sE ?_;clear H a;intro a H
 refine k1 _ ?_;clear k1 K1
 refine seq_list fun K2 k2=>?_
 refine ls 2 H<|sr 2 rfl<|sE ?_;clear H a;intro a H
 refine aA H G G Tryz.func118 G G (Et l A cp _ (hl.now S) hn) ?_;clear H a
 rintro _ _ a ⟨n,rfl,hn2,S2⟩ H
 replace S:=S.call S2;clear S2
 refine ls 2 H<|sr 2 rfl<|sE ?_;clear H a;intro a H
 refine k2 _ _ ?_;clear k2 K2
 refine wp_ret ?_
 refine ret1 (fn:=Tryz.f91) rfl H rfl ?_
 exact ⟨congrArg Value.bool hn2,(S.sel [] G G)⟩
end
section
theorem Xf {b0 b1 b2:Bool} {v0 v1 v2:Value} (h0:v0 = .bool b0) (h1:v1 = .bool b1) (h2:v2 = .bool b2):∀ k j,k<3→j<1→([[v0],[v1],[v2]].getD k []).getD j undef=bcl [b0,b1,b2] k j:=by
  subst h0;subst h1;subst h2
  intro k j hk hj
  obtain rfl:j=0:=by omega
  rcases (show k=0∨k=1∨k=2 by omega) with rfl|rfl|rfl <;> rfl
theorem Eu (hz:Int) (sw:List Int) (SA:Option Addr) (sc:Nat) (ws:List Wr) (QA:Option Addr) (qc cb:Nat) (n:Int) (w:World) (F:Nat→Prop) (S:St w F [boxM cb 69 [.int .i64 hz,.slice SA sw.length sc,.slice QA ws.length qc]] w) (hhz:0≤hz∧hz≤12) :
    Calls Tryz.prog 93 [.int .i64 n,.pointer (some ⟨cb,0,none⟩)].toArray w (Ret (fun u w'=>u = .bool (!setB n hz)∧St w F [boxM cb 69 [.int .i64 hz,.slice SA sw.length sc,.slice QA ws.length qc]] w')):=by
 refine enter Tryz.func93 rfl Tryz.ntmps93 rfl (fun a H=>?_)
 skip
 refine sS H fun K1 k1=>sr 1 rfl<|sE ?_;clear H a;intro a H
 refine k1 _ ?_;clear k1 K1
 refine seq_list fun K2 k2=>?_
 refine ls 3 H<|sr 1 rfl<|sf sC rfl<|sl S 0 aD G G G<|sE ?_;clear H a;intro a H
 refine aA H G G Tryz.func94 G G (Kh n hz _ hhz) ?_;clear H a
 rintro _ _ a ⟨rfl,S2⟩ H
 replace S:=S.call S2;clear S2
 refine ls 2 H<|sr 2 rfl<|sE ?_;clear H a;intro a H
 refine k2 _ _ ?_;clear k2 K2
 refine wp_ret ?_
 refine ret1 (fn:=Tryz.f93) rfl H rfl ?_
 exact ⟨rfl,(S.sel [0] G G)⟩
theorem Uh (hz:Int) (sw:List Int) (SA:Option Addr) (sc:Nat) (ws:List Wr) (QA:Option Addr) (qc cb:Nat) (w:World) (F:Nat→Prop) (S:St w F [boxM cb 69 [.int .i64 hz,.slice SA sw.length sc,.slice QA ws.length qc]] w) (hsw:InS w F 1 SA sw.length (icl sw)) (hn:sw.length≤9223372036854775807) (hhz:0≤hz∧hz≤12):Calls Tryz.prog 92 #[.slice SA sw.length sc,.func (.func 93) #[] #[.pointer (some ⟨cb,0,none⟩)]] w (Ret fun u w'=>u = .bool (sw.any fun n=>!setB n hz)∧St w F [boxM cb 69 [.int .i64 hz,.slice SA sw.length sc,.slice QA ws.length qc]] w'):=by
  have hh:=fN sw SA sc 93 _ [] [.pointer (some ⟨cb,0,none⟩)] (fun n=>!setB n hz) _ w F S hsw hn Tryz.func93 G G (fun k w' hk S'=>Eu hz sw SA sc ws QA qc cb (sw.getD k 0) w' _ S'.startR hhz)
  exact hh
theorem Ui (l:List Int) (A:Option Addr) (cp:Nat) (w:World) (hl:InS w noF 1 A l.length (icl l)) (hn:l.length≤9223372036854775807):Calls Tryz.prog 92 #[.slice A l.length cp,.func (.func 96) #[] #[]] w (Ret fun u w'=>u = .bool (l.any fun n=>!decide (n=1))∧St w noF [] w'):=by
  have S0:=(St.start w).newNil 3 1 (icl [])
  have hh:=fN l A cp 96 _ [] [] (fun n=>!decide (n=1)) _ w noF S0 hl hn Tryz.func96 G G (fun k w' hk S'=>vF (Es (l.getD k 0) w') fun v w'' h=>⟨h.1,S'.startR.call h.2⟩)
  exact vF hh fun v w'' h=>⟨h.1,h.2.sel [] rfl rfl⟩
end
section
theorem Xg {hz:Int} {sw:List Int} {ws:List Wr}:([(decide (1≤hz)&&decide (hz≤8)),(decide (1≤(sw.length:Int))&&decide ((sw.length:Int)≤12)),(decide (1≤(ws.length:Int))&&decide ((ws.length:Int)≤24))].all fun b=>b)=cirSz hz sw ws:=by unfold cirSz;simp only [List.all_cons,List.all_nil,Bool.and_true]
section
variable {hz:Int} {sw:List Int} {ws:List Wr} {i:Nat}
theorem Px (h:cirSz hz sw ws=false):circE hz sw ws=30:=mM (by unfold cirOk;rw [h];rfl)
theorem Py (h:(sw.any fun n=>!setB n hz)=true):circE hz sw ws=30:=mM (by unfold cirOk;rw [h];simp)
theorem pV (hi:i<ws.length) (h:wrOk sw.length ws.length ws i=false):circE hz sw ws=30:=mM (by
  unfold cirOk
  cases hb:(List.range ws.length).all (wrOk sw.length ws.length ws) with
  | false=>simp
  | true=>rw [List.all_eq_true.1 hb i (List.mem_range.2 hi)] at h;cases h)
theorem Pz (h:¬ heldN ws 0 ws.length=0):circE hz sw ws=30:=mM (by unfold cirOk;rw [decide_eq_false h];simp)
theorem Qa (h:((List.range (ws.length-1)).any fun q=>!decide (heldN ws (q+1) ws.length=1))=true):circE hz sw ws=30:=mM (by unfold cirOk;rw [h];simp)
theorem Qb (h1:cirSz hz sw ws=true) (h2:(sw.any fun n=>!setB n hz)=false) (h3:∀ i,i<ws.length→wrOk sw.length ws.length ws i=true) (h4:heldN ws 0 ws.length=0) (h5:((List.range (ws.length-1)).any fun q=>!decide (heldN ws (q+1) ws.length=1))=false):circE hz sw ws=0:=Kd (by
  unfold cirOk
  rw [h1,h2,decide_eq_true h4,h5,List.all_eq_true.2 (fun i hi=>h3 i (List.mem_range.1 hi))];rfl)
theorem Vk (h:cirSz hz sw ws=true):(1≤hz∧hz≤8)∧(1≤sw.length∧sw.length≤12)∧(1≤ws.length∧ws.length≤24):=by
  unfold cirSz at h
  simp only [Bool.and_eq_true,decide_eq_true_eq] at h
  omega
theorem zD {l:List Int} {k:Nat}:∀ q,0≤cntO l k q∧cntO l k q≤q:=fun q=>by
  induction q with
  | zero=>exact ⟨Int.le_refl _,Int.le_refl _⟩
  | succ q ih=>
    have e:cntO l k (q+1)=cntO l k q+(if l.getD q 0=(k:Int) then 1 else 0):=rfl
    rw [e];split <;> omega
theorem oF {k i:Nat}:heldN ws k (i+1)=heldN ws k i+heldW (ws.getD i Wr.zero) k:=rfl
theorem Gp (k:Nat):∀ i,(∀ q,q<i→wrOk sw.length ws.length ws q=true)→0≤heldN ws k i∧heldN ws k i≤8*i:=fun i=>by
  induction i with
  | zero=>intro _;exact ⟨Int.le_refl _,Int.le_refl _⟩
  | succ i ih=>
    intro h
    have h1:=ih fun q hq=>h q (by omega)
    have h2:=h i (by omega)
    rw [oF]
    unfold heldW
    split
    · omega
    · next hk=>
      unfold wrOk at h2
      rw [if_neg hk] at h2
      split at h2
      · simp only [Bool.and_eq_true,decide_eq_true_eq] at h2
        have:=zD (l:=(ws.getD i Wr.zero).of) (k:=k) (ws.getD i Wr.zero).of.length
        omega
      · cases h2
end
section
variable {sw l:List Int} {ws:List Wr} {i k j q:Nat}
theorem Ev (hk:(ws.getD i Wr.zero).kind=1) (h1:(ws.getD i Wr.zero).of.length=1) (h:ascB (ws.getD i Wr.zero).of 0 sw.length=true):wrOk sw.length ws.length ws i=true:=by
  unfold wrOk;rw [if_pos hk,h,decide_eq_true h1];rfl
theorem Ew (hk:(ws.getD i Wr.zero).kind=1) (h:¬ ((ws.getD i Wr.zero).of.length:Int)=1∨ascB (ws.getD i Wr.zero).of 0 sw.length=false):wrOk sw.length ws.length ws i=false:=by
  unfold wrOk;rw [if_pos hk]
  rcases h with h|h
  · rw [decide_eq_false (by omega)];rfl
  · rw [h];simp
theorem nE (h1:¬ (ws.getD i Wr.zero).kind=1) (hk:(ws.getD i Wr.zero).kind=2∨(ws.getD i Wr.zero).kind=3) (h2:1≤(ws.getD i Wr.zero).of.length∧(ws.getD i Wr.zero).of.length≤8) (h:ascB (ws.getD i Wr.zero).of ((i:Int)+1) ws.length=true):wrOk sw.length ws.length ws i=true:=by
  unfold wrOk;rw [if_neg h1,if_pos hk,h,decide_eq_true h2];rfl
theorem rN (h1:¬ (ws.getD i Wr.zero).kind=1) (hk:(ws.getD i Wr.zero).kind=2∨(ws.getD i Wr.zero).kind=3) (h:(((ws.getD i Wr.zero).of.length:Int)<1∨8<((ws.getD i Wr.zero).of.length:Int))∨ascB (ws.getD i Wr.zero).of ((i:Int)+1) ws.length=false):wrOk sw.length ws.length ws i=false:=by
  unfold wrOk;rw [if_neg h1,if_pos hk]
  rcases h with h|h
  · rw [decide_eq_false (by omega)];rfl
  · rw [h];simp
theorem Uj (h1:¬ (ws.getD i Wr.zero).kind=1) (h2:¬ (ws.getD i Wr.zero).kind=2) (h3:¬ (ws.getD i Wr.zero).kind=3):wrOk sw.length ws.length ws i=false:=by
  unfold wrOk;rw [if_neg h1,if_neg (fun h=>h.elim h2 h3)]
theorem vG (h1:(ws.getD i Wr.zero).kind=1):heldN ws k i=heldN ws k (i+1):=by rw [oF];unfold heldW;rw [if_pos h1,Int.add_zero]
theorem qV (h1:¬ (ws.getD i Wr.zero).kind=1) (hq:q=(ws.getD i Wr.zero).of.length):heldN ws k i+cntO (ws.getD i Wr.zero).of k q=heldN ws k (i+1):=by rw [oF];unfold heldW;rw [if_neg h1,hq]
theorem Ci (hx:0≤l.getD q 0) (hj:j<1):cput (fun k _ => .int .i64 (heldN ws k i+cntO l k q)) (l.getD q 0).toNat 0 (.int .i64 (heldN ws (l.getD q 0).toNat i+cntO l (l.getD q 0).toNat q+1)) k j = .int .i64 (heldN ws k i+cntO l k (q+1)):=by
  have e:cntO l k (q+1)=cntO l k q+(if l.getD q 0=(k:Int) then 1 else 0):=rfl
  unfold cput
  rw [e]
  by_cases h:k=(l.getD q 0).toNat
  · rw [if_pos ⟨h,by omega⟩,if_pos (by omega),←h,Int.add_assoc]
  · rw [if_neg (fun h9=>h h9.1),if_neg (by omega),Int.add_zero]
end
theorem nF {ws:List Wr}:((List.range (ws.length-1)).map fun q=>heldN ws (q+1) ws.length).length=ws.length-1:=by rw [List.length_map,List.length_range]
theorem wZ {ws:List Wr}:(((List.range (ws.length-1)).map fun q=>heldN ws (q+1) ws.length).any fun n=>!decide (n=1))=(List.range (ws.length-1)).any fun q=>!decide (heldN ws (q+1) ws.length=1):=by rw [List.any_map];rfl
theorem Qc {ws:List Wr} {q:Nat} (h:q<ws.length-1):((List.range (ws.length-1)).map fun q=>heldN ws (q+1) ws.length).getD q 0=heldN ws (q+1) ws.length:=by
  rw [List.getD_eq_getElem?_getD,List.getElem?_eq_getElem (by rw [nF];exact h),Option.getD_some,List.getElem_map,List.getElem_range]
theorem Qd {ws:List Wr} {w:World} {A:Option Addr} (h:InS w noF 1 A ws.length (fun k _ => .int .i64 (heldN ws k ws.length))) (hw:1≤ws.length):InS w noF 1 (cutA A ws.length 1 1) ((List.range (ws.length-1)).map fun q=>heldN ws (q+1) ws.length).length (icl ((List.range (ws.length-1)).map fun q=>heldN ws (q+1) ws.length)):=by
  rw [nF]
  refine (h.cut (lo:=1) (hi:=ws.length) hw (Nat.le_refl _) (Nat.le_refl _)).congr fun k j hk hj=>?_
  unfold icl
  rw [Qc hk,Nat.add_comm 1 k]
theorem Ki (hz:Int) (sw:List Int) (SA:Option Addr) (sc:Nat) (ws:List Wr) (QA:Option Addr) (qc:Nat) (OA:Nat→Option Addr) (oc:Nat→Nat) (w:World) (hsw:InS w noF 1 SA sw.length (icl sw)) (hws:InS w noF 2 QA ws.length (gG ws OA oc)) (hof:∀ k,k<ws.length→InS w noF 1 (OA k) (ws.getD k Wr.zero).of.length (icl (ws.getD k Wr.zero).of)) (hsn:sw.length≤9223372036854775807) (hwn:ws.length≤9223372036854775807) (hofn:∀ k,k<ws.length→(ws.getD k Wr.zero).of.length≤9223372036854775807) :
    Calls Tryz.prog 62 [.agg [.int .i64 hz,.slice SA sw.length sc,.slice QA ws.length qc].toArray].toArray w (Ret (fun u w'=>u = .int .i64 (circE hz sw ws)∧St w noF [] w')):=by
 refine enter Tryz.func62 rfl Tryz.ntmps62 rfl (fun a H=>?_)
 have S:=St.start w
 refine seq_list fun K1 k1=>?_
 refine aO H rfl S G G ?_;clear H a S;intro b1 _ a hb1 hbw1 S H
 refine ls 1 H<|sr 1 rfl<|sE ?_;clear H a;intro a H
 refine k1 _ _ ?_;clear k1 K1
 replace H:=H.keep [1] rfl
 refine seq_list fun K2 k2=>?_
 refine ls 28 H<|sf sC rfl<|sl S 0 aD G G G<|sr 2 rfl<|sg 3 3 12 15 true G G (fun hg4=>sy hg4<|sf sC rfl<|sy hg4<|sl S 0 aD G G G<|sy hg4<|sr 1 rfl<|sz 3 G G G)<|sa G G G<|sf kA rfl<|sl S 0 bM G G G<|sL aT rfl<|sr 2 rfl<|sg 4 12 21 25 true G G (fun hg13=>sy hg13<|sf kA rfl<|sy hg13<|sl S 0 bM G G G<|sy hg13<|sL aT rfl<|sy hg13<|sr 1 rfl<|sz 4 G G G)<|sa G G G<|sf lD rfl<|sl S 0 nR G G G<|sL oQ rfl<|sr 2 rfl<|sg 4 22 31 35 true G G (fun hg23=>sy hg23<|sf lD rfl<|sy hg23<|sl S 0 nR G G G<|sy hg23<|sL oQ rfl<|sy hg23<|sr 1 rfl<|sz 4 G G G)<|sa G G G<|sE ?_;clear H a;intro a H
 refine aZ H rfl S Dh Ld Zg G G G G G G G G G ?_;clear H a S;intro A1 _ a hA1 S H
 replace S:=S.recell (i:=0) rfl (cell':=bcl [(decide (1≤hz)&&decide (hz≤8)),(decide (1≤(sw.length:Int))&&decide ((sw.length:Int)≤12)),(decide (1≤(ws.length:Int))&&decide ((ws.length:Int)≤24))]) (Xf G G G)
 refine ls 1 H<|sr 1 rfl<|sE ?_;clear H a;intro a H
 refine k2 _ _ ?_;clear k2 K2
 refine wp_seq_k fun K3 k3=>?_
 replace H:=H.keep [1,3] rfl
 refine seq_list fun K4 k4=>?_
 refine ls 1 H<|sr 1 rfl<|sE ?_;clear H a;intro a H
 refine aA H G G Tryz.func91 G G (vP [(decide (1≤hz)&&decide (hz≤8)),(decide (1≤(sw.length:Int))&&decide ((sw.length:Int)≤12)),(decide (1≤(ws.length:Int))&&decide ((ws.length:Int)≤24))] _ _ _ (ownM.inS S (i:=0) rfl) (by simp)) ?_;clear H a
 rintro _ _ a ⟨rfl,S2⟩ H
 replace S:=S.call S2;clear S2
 rw [Xg] at H
 refine ls 1 H<|sr 1 rfl<|sE ?_;clear H a;intro a H
 apply cG (i:=2) (g:=40) (t:=44) (b:=false) 4 H S G G (by kernel_rfl) (by kernel_rfl) G G
 case h1=>
  intro hg3
  refine ls 3 H<|sy hg3<|sf kA rfl<|sy hg3<|sl S 1 bM G G G<|sy hg3<|sr 1 rfl<|sE ?_;intro a H
  refine dC H G G (by assumption) ?_
  have S1:=(S.sel [1] G G)
  refine aA H G G Tryz.func92 G G (Uh hz sw SA sc ws QA qc b1 _ _ S1.startR (hsw.nowR S1) hsn (by have:=Vk (hz:=hz) (sw:=sw) (ws:=ws) (by simpa using hg3);omega)) ?_
  rintro _ _ a ⟨rfl,S2⟩ H
  replace S:=(S.sel [1,0] G G).callR (M:=[_]) S2;clear S1 S2
  exact wpList_nil ⟨H.strip 4 G G,(S.sel [1,0] G G)⟩
 clear H a S;intro a _ H S
 refine ls 1 H<|so G G G<|sE ?_;clear H a;intro a H
 refine k4 _ _ ?_;clear k4 K4
 refine cond_ H rfl (fun hc1=>?_) (fun hc1=>?_)
 ·skip
  try simp only [o1,o2,o3,o4,o5,o6,o7,o8,o9,oa] at hc1
  refine sS H fun K5 k5=>sr 1 rfl<|sE ?_;clear H a;intro a H
  refine k5 _ ?_;clear k5 K5
  refine wp_ret ?_
  refine ret1 (fn:=Tryz.f62) rfl H rfl ?_
  rw [show circE hz sw ws=30 from hc1.elim Px Py];exact ⟨rfl,(S.sel [] G G)⟩
 try simp only [o1,o2,o3,o4,o5,o6,o7,o8,o9,oa] at hc1
 refine wp_skip ?_
 refine k3 _ _ ?_
 obtain ⟨hS1,hS2,hS3⟩:=Vk hc1.1
 replace H:=H.keep [1] rfl
 refine seq_list fun K6 k6=>?_
 refine ls 3 H<|sf lD rfl<|sl S 1 nR G G G<|sL oQ rfl<|sE ?_;clear H a;intro a H
 refine iA (n:=ws.length) H rfl S aT bA fO oY rfl (by decide) G G (by omega) (by omega) ?_;clear H a S;intro A2 _ a hA2 S H
 generalize A2=AH at S H
 replace S:=S.recell (i:=0) rfl (cell':=fun k _ => .int .i64 (heldN ws k 0)) (fun k j _ hj=>by
   obtain rfl:j=0:=by omega
   rfl)
 refine ls 1 H<|sr 1 rfl<|sE ?_;clear H a;intro a H
 refine k6 _ _ ?_;clear k6 K6
 refine wp_seq_k fun K7 k7=>?_
 refine sS H fun K8 k8=>sf lD rfl<|sl S 2 nR G G G<|sL oQ rfl<|sr 1 rfl<|sE ?_;clear H a;intro a H
 refine k8 _ ?_;clear k8 K8
 refine wp_block ?_
 refine loop_st (X:=Nat) (R0:=_) [1,4,51,52] H rfl (fun i=>[(53,.int .i64 (i:Int))]) (fun i=>[ownM 3 1 AH ws.length ws.length (fun k _ => .int .i64 (heldN ws k i))]) (fun g i=>i≤ws.length∧g+i=ws.length∧∀ q,q<i→wrOk sw.length ws.length ws q=true) (ws.length) 0 ?_ (S.sel [0,1,2] G G) (H.keep [53,1,4,51,52] rfl) ?_
 · exact ⟨by omega,by omega,fun q hq=>absurd hq (Nat.not_lt_zero q)⟩
 clear H S a
 intro g1 x1 a w1 hp S H K9 k9
 obtain ⟨i,rfl⟩:∃ y,y=x1:=⟨_,rfl⟩
 obtain ⟨hi1,hi2,hwk⟩:=hp
 refine sS H fun K10 k10=>sr 1 rfl<|sE ?_;clear H a;intro a H
 refine k10 _ ?_;clear k10 K10
 refine wp_seq_k fun K11 k11=>?_
 refine condL H rfl (fun hc2=>?_) (fun hc2=>?_)
 ·skip
  refine wp_skip ?_
  refine k11 _ _ ?_
  refine wp_seq_k fun K12 k12=>?_
  refine wp_block ?_
  refine seq_list fun K13 k13=>?_
  refine ls 3 H<|sr 1 rfl<|si oQ tF G G (hws.adr (by omega)) (by omega)<|sd ((aW Lg tF rfl S hws (by omega) (by omega)))<|sE ?_;clear H a;intro a H
  refine aI H rfl S Fi ?_;clear H a S;intro b6 _ a hb6 hbw6 S H
  refine ls 1 H<|sr 1 rfl<|sE ?_;clear H a;intro a H
  refine aF H S (i:=0) G G G G tF G G ?_
  clear H a S;intro _ a S H
  refine k13 _ _ ?_;clear k13 K13
  refine sS H fun K14 k14=>sf Fg rfl<|sl S 0 aD G G G<|sE ?_;clear H a;intro a H
  refine k14 _ ?_;clear k14 K14
  refine wp_block ?_
  replace H:=H.keep [1,4,5,6,51,52,53,59] rfl
  refine sS H fun K15 k15=>sr 2 rfl<|sE ?_;clear H a;intro a H
  refine k15 _ ?_;clear k15 K15
  refine condE H rfl (fun hc3=>?_) (fun hc3=>?_)
  ·skip
   replace H:=H.keep [1,4,6,51,52,53] rfl
   refine seq_list fun K16 k16=>?_
   refine ls 5 H<|sf fK rfl<|sl S 0 bM G G G<|sL aT rfl<|sr 2 rfl<|sE ?_;clear H a;intro a H
   apply cG (i:=4) (g:=66) (t:=73) (b:=false) 7 H S G G (by kernel_rfl) (by kernel_rfl) G G
   case h1=>
    intro hg5
    refine ls 5 H<|sy hg5<|sf fK rfl<|sy hg5<|sl S 0 bM G G G<|sy hg5<|sf kA rfl<|sy hg5<|sl S 3 bM G G G<|sy hg5<|sL aT rfl<|sE ?_;intro a H
    refine dC H G G (by assumption) ?_
    refine aA H G G Tryz.func95 G G (kJ (ws.getD i Wr.zero).of (OA i) (oc i) _ _ _ ((hof i (by omega)).now S) (hofn i (by omega)) (by omega) (by omega)) ?_
    rintro _ _ a ⟨rfl,S2⟩ H
    replace S:=S.call S2;clear S2
    refine ls 1 H<|sy hg5<|sr 1 rfl<|sE ?_;intro a H
    exact wpList_nil ⟨H.strip 7 G G,(S.sel [0,1,2,3] G G)⟩
   clear H a S;intro a _ H S
   refine ls 1 H<|so G G G<|sE ?_;clear H a;intro a H
   refine k16 _ _ ?_;clear k16 K16
   refine cond_ H rfl (fun hc4=>?_) (fun hc4=>?_)
   ·skip
    try simp only [o1,o2,o3,o4,o5,o6,o7,o8,o9,oa] at hc4
    replace H:=H.keep [] rfl
    refine sS H fun K17 k17=>sr 1 rfl<|sE ?_;clear H a;intro a H
    refine k17 _ ?_;clear k17 K17
    refine wp_ret ?_
    refine ret1 (fn:=Tryz.f62) rfl H rfl ?_
    rw [pV (by omega) (Ew hc3 hc4)];exact ⟨rfl,(S.sel [] G G)⟩
   try simp only [o1,o2,o3,o4,o5,o6,o7,o8,o9,oa] at hc4
   refine wp_skip ?_
   refine k12 _ _ ?_
   replace S:=S.recell (i:=1) rfl (cell':=fun k _ => .int .i64 (heldN ws k (i+1))) (fun k j _ _=>congrArg (Value.int .i64) (by first|exact vG hc3|exact qV hc3 (by omega)))
   refine sO H<|sd (aK G G (by unfold i64ok;omega))<|sr 1 rfl<|sE ?_;clear H a;intro a H
   exact k9 (g1-1) (i+1) a _ (by omega) (⟨by omega,by omega,fun q hq=>if h9:q<i then hwk q h9 else by
         obtain rfl:q=i:=by omega
         first|exact Ev hc3 (by omega) hc4.2|exact nE hc3 (.inl hc5) (by omega) hc7.2|exact nE hc3 (.inr hc9) (by omega) hc10.2⟩) (S.sel [1,2,3] G G) (H.keep [53,1,4,51,52] rfl)
  refine wp_seq_k fun K19 k19=>?_
  refine sS H fun K20 k20=>sr 2 rfl<|sE ?_;clear H a;intro a H
  refine k20 _ ?_;clear k20 K20
  refine condE H rfl (fun hc5=>?_) (fun hc5=>?_)
  ·skip
   refine wp_skip ?_
   refine k19 _ _ ?_
   refine cond_ H rfl (fun hc6=>?_) (fun hc6=>?_)
   ·skip
    try simp only [o1,o2,o3,o4,o5,o6,o7,o8,o9,oa] at hc6
    refine wp_seq_k fun K21 k21=>?_
    replace H:=H.keep [1,4,5,6,51,52,53] rfl
    refine seq_list fun K22 k22=>?_
    refine ls 11 H<|sf fK rfl<|sl S 0 bM G G G<|sL aT rfl<|sr 2 rfl<|sg 4 4 82 86 false G G (fun hg5=>sy hg5<|sf fK rfl<|sy hg5<|sl S 0 bM G G G<|sy hg5<|sL aT rfl<|sy hg5<|sr 1 rfl<|sz 4 G G G)<|so G G G<|sr 1 rfl<|sE ?_;clear H a;intro a H
    apply cG (i:=10) (g:=88) (t:=97) (b:=false) 9 H S G G (by kernel_rfl) (by kernel_rfl) G G
    case h1=>
     intro hg11
     refine ls 7 H<|sy hg11<|sf fK rfl<|sy hg11<|sl S 0 bM G G G<|sy hg11<|sr 1 rfl<|sy hg11<|sd (aK G G (by unfold i64ok;omega))<|sy hg11<|sf lD rfl<|sy hg11<|sl S 3 nR G G G<|sy hg11<|sL oQ rfl<|sE ?_;intro a H
     refine dC H G G (by assumption) ?_
     refine aA H G G Tryz.func95 G G (kJ (ws.getD i Wr.zero).of (OA i) (oc i) _ _ _ ((hof i (by omega)).now S) (hofn i (by omega)) (by omega) (by omega)) ?_
     rintro _ _ a ⟨rfl,S2⟩ H
     replace S:=S.call S2;clear S2
     refine ls 1 H<|sy hg11<|sr 1 rfl<|sE ?_;intro a H
     exact wpList_nil ⟨H.strip 9 G G,(S.sel [0,1,2,3] G G)⟩
    clear H a S;intro a _ H S
    refine ls 1 H<|so G G G<|sE ?_;clear H a;intro a H
    refine k22 _ _ ?_;clear k22 K22
    refine cond_ H rfl (fun hc7=>?_) (fun hc7=>?_)
    ·skip
     try simp only [o1,o2,o3,o4,o5,o6,o7,o8,o9,oa] at hc7
     replace H:=H.keep [] rfl
     refine sS H fun K23 k23=>sr 1 rfl<|sE ?_;clear H a;intro a H
     refine k23 _ ?_;clear k23 K23
     refine wp_ret ?_
     refine ret1 (fn:=Tryz.f62) rfl H rfl ?_
     rw [pV (by omega) (rN hc3 (.inl hc5) hc7)];exact ⟨rfl,(S.sel [] G G)⟩
    try simp only [o1,o2,o3,o4,o5,o6,o7,o8,o9,oa] at hc7
    refine wp_skip ?_
    refine k21 _ _ ?_
    refine sS H fun K24 k24=>sf fK rfl<|sl S 0 bM G G G<|sL aT rfl<|sr 1 rfl<|sE ?_;clear H a;intro a H
    refine k24 _ ?_;clear k24 K24
    refine wp_block ?_
    replace S:=S.recell (i:=1) rfl (cell':=fun k _ => .int .i64 (heldN ws k i+cntO (ws.getD i Wr.zero).of k 0)) (fun k j _ hj=>congrArg (Value.int .i64) (Int.add_zero _).symm)
    refine loop_st (X:=Nat) (R0:=_) [1,4,51,52,53,100,101] H rfl (fun q=>[(102,.int .i64 (q:Int))]) (fun q=>[ownM 3 1 AH ws.length ws.length (fun k _ => .int .i64 (heldN ws k i+cntO (ws.getD i Wr.zero).of k q))]) (fun g q=>q≤(ws.getD i Wr.zero).of.length∧g+q=(ws.getD i Wr.zero).of.length) ((ws.getD i Wr.zero).of.length) 0 ?_ (S.sel [1,0,2,3] G G) (H.keep [102,1,4,51,52,53,100,101] rfl) ?_
    · exact ⟨by omega,by omega⟩
    clear H S a
    intro g2 x2 a w2 hp S H K25 k25
    obtain ⟨q,rfl⟩:∃ y,y=x2:=⟨_,rfl⟩
    refine sS H fun K26 k26=>sr 1 rfl<|sE ?_;clear H a;intro a H
    refine k26 _ ?_;clear k26 K26
    refine wp_seq_k fun K27 k27=>?_
    refine condL H rfl (fun hc8=>?_) (fun hc8=>?_)
    ·skip
     refine wp_skip ?_
     refine k27 _ _ ?_
     refine wp_seq_k fun K28 k28=>?_
     refine wp_block ?_
     refine sS H fun K29 k29=>si aT bA G G ((hof i (by omega)).adr (by omega)) (by omega)<|slm aD rfl ((hof i (by omega)).rd S (by omega) (by omega))<|sr 1 rfl<|sE ?_;clear H a;intro a H
     refine k29 _ ?_;clear k29 K29
     have hhb:=Gp (sw:=sw) (ws:=ws) ((ws.getD i Wr.zero).of.getD q 0).toNat i hwk
     have hcb:=zD (l:=(ws.getD i Wr.zero).of) (k:=((ws.getD i Wr.zero).of.getD q 0).toNat) q
     have hxb:(i:Int)+1≤(ws.getD i Wr.zero).of.getD q 0∧(ws.getD i Wr.zero).of.getD q 0<(ws.length:Int):=by first|exact qU hc7.2 (k:=q) (by omega)|exact qU hc10.2 (k:=q) (by omega)
     replace H:=H.keep [1,4,8,51,52,53,100,101,102] rfl
     refine one_list ?_
     refine ls 6 H<|sr 2 rfl<|sI aT bA G G (ownM.adr S (i:=0) rfl (by omega)) (by omega) (by omega)<|slm aD rfl (ownM.rd S (i:=0) rfl (by omega) (by omega))<|sd (aK G G (by unfold i64ok;omega))<|sI aT bA G G (ownM.adr S (i:=0) rfl (by omega)) (by omega) (by omega)<|sE ?_;clear H a;intro a H
     refine bN H S (i:=0) G G G (by omega) (by omega) bA rfl ?_
     clear H a S;intro _ a S H
     replace S:=S.recell (i:=0) rfl (cell':=fun k _ => .int .i64 (heldN ws k i+cntO (ws.getD i Wr.zero).of k (q+1))) (fun k j _ hj=>Ci (by omega) hj)
     refine k28 _ _ ?_
     refine sO H<|sd (aK G G (by unfold i64ok;omega))<|sr 1 rfl<|sE ?_;clear H a;intro a H
     exact k25 (g2-1) (q+1) a _ (by omega) (⟨by omega,by omega⟩) (S.sel [0,1,2,3] G G) (H.keep [102,1,4,51,52,53,100,101] rfl)
    refine wp_exit ?_
    refine k12 _ _ ?_
    replace S:=S.recell (i:=0) rfl (cell':=fun k _ => .int .i64 (heldN ws k (i+1))) (fun k j _ _=>congrArg (Value.int .i64) (by first|exact vG hc3|exact qV hc3 (by omega)))
    replace H:=H.keep [1,4,51,52,53] rfl
    refine sO H<|sd (aK G G (by unfold i64ok;omega))<|sr 1 rfl<|sE ?_;clear H a;intro a H
    exact k9 (g1-1) (i+1) a _ (by omega) (⟨by omega,by omega,fun q hq=>if h9:q<i then hwk q h9 else by
          obtain rfl:q=i:=by omega
          first|exact Ev hc3 (by omega) hc4.2|exact nE hc3 (.inl hc5) (by omega) hc7.2|exact nE hc3 (.inr hc9) (by omega) hc10.2⟩) (S.sel [0,2,3] G G) (H.keep [53,1,4,51,52] rfl)
   try simp only [o1,o2,o3,o4,o5,o6,o7,o8,o9,oa] at hc6
   refine sS H fun K33 k33=>sr 1 rfl<|sE ?_;clear H a;intro a H
   refine k33 _ ?_;clear k33 K33
   refine wp_ret ?_
   refine ret1 (fn:=Tryz.f62) rfl H rfl ?_
   exact absurd hc5 hc6
  refine sO H<|sr 2 rfl<|sE ?_;clear H a;intro a H
  refine k19 _ _ ?_
  refine condE H rfl (fun hc9=>?_) (fun hc9=>?_)
  ·skip
   refine wp_seq_k fun K35 k35=>?_
   replace H:=H.keep [1,4,5,6,51,52,53] rfl
   refine seq_list fun K36 k36=>?_
   refine ls 11 H<|sf fK rfl<|sl S 0 bM G G G<|sL aT rfl<|sr 2 rfl<|sg 4 4 82 86 false G G (fun hg5=>sy hg5<|sf fK rfl<|sy hg5<|sl S 0 bM G G G<|sy hg5<|sL aT rfl<|sy hg5<|sr 1 rfl<|sz 4 G G G)<|so G G G<|sr 1 rfl<|sE ?_;clear H a;intro a H
   apply cG (i:=10) (g:=88) (t:=97) (b:=false) 9 H S G G (by kernel_rfl) (by kernel_rfl) G G
   case h1=>
    intro hg11
    refine ls 7 H<|sy hg11<|sf fK rfl<|sy hg11<|sl S 0 bM G G G<|sy hg11<|sr 1 rfl<|sy hg11<|sd (aK G G (by unfold i64ok;omega))<|sy hg11<|sf lD rfl<|sy hg11<|sl S 3 nR G G G<|sy hg11<|sL oQ rfl<|sE ?_;intro a H
    refine dC H G G (by assumption) ?_
    refine aA H G G Tryz.func95 G G (kJ (ws.getD i Wr.zero).of (OA i) (oc i) _ _ _ ((hof i (by omega)).now S) (hofn i (by omega)) (by omega) (by omega)) ?_
    rintro _ _ a ⟨rfl,S2⟩ H
    replace S:=S.call S2;clear S2
    refine ls 1 H<|sy hg11<|sr 1 rfl<|sE ?_;intro a H
    exact wpList_nil ⟨H.strip 9 G G,(S.sel [0,1,2,3] G G)⟩
   clear H a S;intro a _ H S
   refine ls 1 H<|so G G G<|sE ?_;clear H a;intro a H
   refine k36 _ _ ?_;clear k36 K36
   refine cond_ H rfl (fun hc10=>?_) (fun hc10=>?_)
   ·skip
    try simp only [o1,o2,o3,o4,o5,o6,o7,o8,o9,oa] at hc10
    replace H:=H.keep [] rfl
    refine sS H fun K37 k37=>sr 1 rfl<|sE ?_;clear H a;intro a H
    refine k37 _ ?_;clear k37 K37
    refine wp_ret ?_
    refine ret1 (fn:=Tryz.f62) rfl H rfl ?_
    rw [pV (by omega) (rN hc3 (.inr hc9) hc10)];exact ⟨rfl,(S.sel [] G G)⟩
   try simp only [o1,o2,o3,o4,o5,o6,o7,o8,o9,oa] at hc10
   refine wp_skip ?_
   refine k35 _ _ ?_
   refine sS H fun K38 k38=>sf fK rfl<|sl S 0 bM G G G<|sL aT rfl<|sr 1 rfl<|sE ?_;clear H a;intro a H
   refine k38 _ ?_;clear k38 K38
   refine wp_block ?_
   replace S:=S.recell (i:=1) rfl (cell':=fun k _ => .int .i64 (heldN ws k i+cntO (ws.getD i Wr.zero).of k 0)) (fun k j _ hj=>congrArg (Value.int .i64) (Int.add_zero _).symm)
   refine loop_st (X:=Nat) (R0:=_) [1,4,51,52,53,100,101] H rfl (fun q=>[(102,.int .i64 (q:Int))]) (fun q=>[ownM 3 1 AH ws.length ws.length (fun k _ => .int .i64 (heldN ws k i+cntO (ws.getD i Wr.zero).of k q))]) (fun g q=>q≤(ws.getD i Wr.zero).of.length∧g+q=(ws.getD i Wr.zero).of.length) ((ws.getD i Wr.zero).of.length) 0 ?_ (S.sel [1,0,2,3] G G) (H.keep [102,1,4,51,52,53,100,101] rfl) ?_
   · exact ⟨by omega,by omega⟩
   clear H S a
   intro g3 x3 a w3 hp S H K39 k39
   obtain ⟨q,rfl⟩:∃ y,y=x3:=⟨_,rfl⟩
   refine sS H fun K40 k40=>sr 1 rfl<|sE ?_;clear H a;intro a H
   refine k40 _ ?_;clear k40 K40
   refine wp_seq_k fun K41 k41=>?_
   refine condL H rfl (fun hc11=>?_) (fun hc11=>?_)
   ·skip
    refine wp_skip ?_
    refine k41 _ _ ?_
    refine wp_seq_k fun K42 k42=>?_
    refine wp_block ?_
    refine sS H fun K43 k43=>si aT bA G G ((hof i (by omega)).adr (by omega)) (by omega)<|slm aD rfl ((hof i (by omega)).rd S (by omega) (by omega))<|sr 1 rfl<|sE ?_;clear H a;intro a H
    refine k43 _ ?_;clear k43 K43
    have hhb:=Gp (sw:=sw) (ws:=ws) ((ws.getD i Wr.zero).of.getD q 0).toNat i hwk
    have hcb:=zD (l:=(ws.getD i Wr.zero).of) (k:=((ws.getD i Wr.zero).of.getD q 0).toNat) q
    have hxb:(i:Int)+1≤(ws.getD i Wr.zero).of.getD q 0∧(ws.getD i Wr.zero).of.getD q 0<(ws.length:Int):=by first|exact qU hc7.2 (k:=q) (by omega)|exact qU hc10.2 (k:=q) (by omega)
    replace H:=H.keep [1,4,8,51,52,53,100,101,102] rfl
    refine one_list ?_
    refine ls 6 H<|sr 2 rfl<|sI aT bA G G (ownM.adr S (i:=0) rfl (by omega)) (by omega) (by omega)<|slm aD rfl (ownM.rd S (i:=0) rfl (by omega) (by omega))<|sd (aK G G (by unfold i64ok;omega))<|sI aT bA G G (ownM.adr S (i:=0) rfl (by omega)) (by omega) (by omega)<|sE ?_;clear H a;intro a H
    refine bN H S (i:=0) G G G (by omega) (by omega) bA rfl ?_
    clear H a S;intro _ a S H
    replace S:=S.recell (i:=0) rfl (cell':=fun k _ => .int .i64 (heldN ws k i+cntO (ws.getD i Wr.zero).of k (q+1))) (fun k j _ hj=>Ci (by omega) hj)
    refine k42 _ _ ?_
    refine sO H<|sd (aK G G (by unfold i64ok;omega))<|sr 1 rfl<|sE ?_;clear H a;intro a H
    exact k39 (g3-1) (q+1) a _ (by omega) (⟨by omega,by omega⟩) (S.sel [0,1,2,3] G G) (H.keep [102,1,4,51,52,53,100,101] rfl)
   refine wp_exit ?_
   refine k12 _ _ ?_
   replace S:=S.recell (i:=0) rfl (cell':=fun k _ => .int .i64 (heldN ws k (i+1))) (fun k j _ _=>congrArg (Value.int .i64) (by first|exact vG hc3|exact qV hc3 (by omega)))
   replace H:=H.keep [1,4,51,52,53] rfl
   refine sO H<|sd (aK G G (by unfold i64ok;omega))<|sr 1 rfl<|sE ?_;clear H a;intro a H
   exact k9 (g1-1) (i+1) a _ (by omega) (⟨by omega,by omega,fun q hq=>if h9:q<i then hwk q h9 else by
         obtain rfl:q=i:=by omega
         first|exact Ev hc3 (by omega) hc4.2|exact nE hc3 (.inl hc5) (by omega) hc7.2|exact nE hc3 (.inr hc9) (by omega) hc10.2⟩) (S.sel [0,2,3] G G) (H.keep [53,1,4,51,52] rfl)
  refine sS H fun K47 k47=>sr 1 rfl<|sE ?_;clear H a;intro a H
  refine k47 _ ?_;clear k47 K47
  refine wp_ret ?_
  refine ret1 (fn:=Tryz.f62) rfl H rfl ?_
  rw [pV (by omega) (Uj hc3 hc5 hc9)];exact ⟨rfl,(S.sel [] G G)⟩
 refine wp_exit ?_
 refine k7 _ _ ?_
 refine wp_seq_k fun K48 k48=>?_
 obtain rfl:i=ws.length:=by omega
 replace H:=H.keep [4] rfl
 refine seq_list fun K49 k49=>?_
 refine ls 5 H<|sr 1 rfl<|sI aT bA G G (ownM.adr S (i:=0) rfl (by omega)) (by omega) (by omega)<|slm aD rfl (ownM.rd S (i:=0) rfl (by omega) (by omega))<|sr 2 rfl<|sE ?_;clear H a;intro a H
 apply cG (i:=4) (g:=118) (t:=121) (b:=false) 3 H S G G (by kernel_rfl) (by kernel_rfl) G G
 case h1=>
  intro hg5
  refine ls 2 H<|sy hg5<|sr 1 rfl<|sy hg5<|sd (Does.to (iB aT bA rfl (lo:=1) (hi:=ws.length) (.inr ⟨_,rfl,_,rfl⟩) (.inl ⟨rfl,rfl⟩) (by omega) (by omega)) (show _=Value.slice (cutA AH ws.length 1 1) ((List.range (ws.length-1)).map fun q=>heldN ws (q+1) ws.length).length (ws.length-1) from by rw [nF]))<|sE ?_;intro a H
  refine dC H G G (by assumption) ?_
  refine aA H G G Tryz.func92 G G (Ui ((List.range (ws.length-1)).map fun q=>heldN ws (q+1) ws.length) (cutA AH ws.length 1 1) (ws.length-1) _ (Qd (ownM.inS S (i:=0) rfl) (by omega)) (by rw [nF];omega)) ?_
  rintro _ _ a ⟨rfl,S2⟩ H
  replace S:=S.call S2;clear S2
  exact wpList_nil ⟨H.strip 3 G G,(S.sel [0,1,2] G G)⟩
 clear H a S;intro a _ H S
 refine ls 1 H<|so G G G<|sE ?_;clear H a;intro a H
 refine k49 _ _ ?_;clear k49 K49
 refine cond_ H rfl (fun hc12=>?_) (fun hc12=>?_)
 ·skip
  try simp only [o1,o2,o3,o4,o5,o6,o7,o8,o9,oa] at hc12
  replace H:=H.keep [] rfl
  refine sS H fun K50 k50=>sr 1 rfl<|sE ?_;clear H a;intro a H
  refine k50 _ ?_;clear k50 K50
  refine wp_ret ?_
  refine ret1 (fn:=Tryz.f62) rfl H rfl ?_
  rw [show circE hz sw ws=30 from hc12.elim Pz (fun h=>Qa (by rw [←wZ];exact h))];exact ⟨rfl,(S.sel [] G G)⟩
 try simp only [o1,o2,o3,o4,o5,o6,o7,o8,o9,oa] at hc12
 refine wp_skip ?_
 refine k48 _ _ ?_
 refine sS H fun K51 k51=>sr 1 rfl<|sE ?_;clear H a;intro a H
 refine k51 _ ?_;clear k51 K51
 refine wp_ret ?_
 refine ret1 (fn:=Tryz.f62) rfl H rfl ?_
 rw [Qb hc1.1 hc1.2 hwk hc12.1 (by rw [←wZ];exact hc12.2)];exact ⟨rfl,(S.sel [] G G)⟩
end
section
theorem Gq {hz:Int} {sw:List Int} {ws:List Wr} (V:CirV hz sw ws):∀ k,k<ws.length→(ws.getD k Wr.zero).of.length≤9223372036854775807:=fun k hk=>by
  by_cases h:(ws.getD k Wr.zero).kind=1
  · have:=V.one k hk h;omega
  · have:=V.more k hk h;omega
def hasC (l:List Int) (x:Int):Bool:=l.any fun y=>decide (x=y)
theorem Kj {l:List Int} {x:Int} {k:Nat} (hk:k<l.length) (h:(l.take k).any (fun y=>decide (x=y))=false) (hx:¬ x=l.getD k 0):(l.take (k+1)).any (fun y=>decide (x=y))=false:=by
  rw [List.take_succ_eq_append_getElem hk,List.any_append,h]
  rw [List.getD_eq_getElem?_getD,List.getElem?_eq_getElem hk] at hx
  simpa using hx
theorem Uk {l:List Int} {x:Int} {k:Nat} (hk:k<l.length) (hx:x=l.getD k 0):hasC l x=true:=by
  rw [List.getD_eq_getElem?_getD,List.getElem?_eq_getElem hk] at hx
  unfold hasC
  rw [List.any_eq_true]
  exact ⟨l[k],List.getElem_mem hk,by simpa using hx⟩
def lorI (a b:Int):Int:=((a.toNat ||| b.toNat:Nat):Int)
theorem Gr {a b:Int} (ha:0≤a∧a≤2048) (hb:0≤b∧b≤2048):0≤lorI a b∧lorI a b≤4095:=by
  have:=Nat.or_lt_two_pow (x:=a.toNat) (y:=b.toNat) (n:=12) (by omega) (by omega)
  unfold lorI
  omega
section
variable {P:Program} {L:List (Nat×Value)} {w:World} {d:Option Nat} {ty:TypeId} {pos:String} {af:Array Edge} {g:Option (Nat×Bool)}
theorem Qe {x y:Operand} {xt yt:TypeId} {m k:Int} (hx:ev L x=some (.int .i64 m)) (hy:ev L y=some (.int .i64 k)) (hm:0≤m∧m≤2048) (hk:0≤k∧k≤2048) :
    Does P L ⟨d,.binOp .or xt x y yt,ty,pos,af,g⟩ w (.int .i64 (lorI m k)):=fun ρ hρ=>by
  have hb:=Gr hm hk
  obtain ⟨m,rfl⟩:∃ n:Nat,m=n:=⟨m.toNat,by omega⟩
  obtain ⟨k,rfl⟩:∃ n:Nat,k=n:=⟨k.toNat,by omega⟩
  have e0:((BitVec.ofInt 64 (m:Int) ||| BitVec.ofInt 64 (k:Int)).toNat)=m ||| k:=by
    rw [BitVec.toNat_or,BitVec.ofInt_natCast,BitVec.ofInt_natCast,BitVec.toNat_ofNat,BitVec.toNat_ofNat,Nat.mod_eq_of_lt (by omega),Nat.mod_eq_of_lt (by omega)]
  have e1:IntKind.i64.wrap ((BitVec.ofInt 64 (m:Int) ||| BitVec.ofInt 64 (k:Int)).toNat:Int)=((m ||| k:Nat):Int):=by
    rw [e0];unfold lorI at hb;rw [Int.toNat_natCast,Int.toNat_natCast] at hb;exact i64ok.eq ⟨by omega,by omega⟩
  have e:Op.intBits .or .i64 (m:Int) (k:Int)=pure (.int .i64 (lorI m k)):=by
    unfold lorI
    rw [Int.toNat_natCast,Int.toNat_natCast]
    exact congrArg (fun z=>(pure (Value.int .i64 z):Sem Value)) e1
  simp [execOp,hρ _ _ hx,hρ _ _ hy,eqGuard,binOp,e]
end
def pairB (hz:Int) (sw:List Int) (ws:List Wr) (al:List Int) (a b:Int):Bool:=(!hasC al a&&!hasC al b)&&decide (0<(wkN hz sw ws (lorI (1*2^a.toNat) (1*2^b.toNat)) hz.toNat).length)
def pcIn (hz:Int) (sw:List Int) (ws:List Wr) (al:List Int) (a:Nat):Nat→Nat
  | 0=>0
  | q+1=>if pairB hz sw ws al (a:Int) ((a:Int)+1+(q:Int))=true then pcIn hz sw ws al a q+1 else pcIn hz sw ws al a q
def pcOut (hz:Int) (sw:List Int) (ws:List Wr) (al:List Int):Nat→Nat
  | 0=>0
  | a+1=>pcOut hz sw ws al a+pcIn hz sw ws al a (sw.length-(a+1))
theorem Gs {hz:Int} {sw:List Int} {ws:List Wr} {al:List Int} {a:Nat}:∀ q,pcIn hz sw ws al a q≤q:=fun q=>by
  induction q with
  | zero=>exact Nat.le_refl _
  | succ q ih=>rw [pcIn];split <;> omega
theorem Qf {hz:Int} {sw:List Int} {ws:List Wr} {al:List Int}:∀ a,pcOut hz sw ws al a≤a*sw.length:=fun a=>by
  induction a with
  | zero=>exact Nat.zero_le _
  | succ a ih=>
    have:=Gs (hz:=hz) (sw:=sw) (ws:=ws) (al:=al) (a:=a) (sw.length-(a+1))
    rw [pcOut,Nat.succ_mul];omega
theorem Kk (l:List Int) (A:Option Addr) (cp:Nat) (x:Int) (w:World) (hl:InS w noF 1 A l.length (icl l)) (hn:l.length≤9223372036854775807) :
    Calls Tryz.prog 63 [.slice A l.length cp,.int .i64 x].toArray w (Ret (fun u w'=>∃ n:Int,u = .int .i64 n∧decide (0≤n)=hasC l x∧St w noF [] w')):=by
 refine enter Tryz.func63 rfl Tryz.ntmps63 rfl (fun a H=>?_)
 have S:=St.start w
 refine sS H fun K1 k1=>sr 1 rfl<|sE ?_;clear H a;intro a H
 refine k1 _ ?_;clear k1 K1
 refine wp_seq_k fun K2 k2=>?_
 refine sS H fun K3 k3=>sr 1 rfl<|sL aT rfl<|sr 1 rfl<|sE ?_;clear H a;intro a H
 refine k3 _ ?_;clear k3 K3
 refine wp_block ?_
 refine loop_st (X:=Nat) (R0:=_) [0,1,7] H rfl (fun k=>[(8,.int .i64 (k:Int))]) (fun k=>[]) (fun g k=>k≤l.length∧g+k=l.length∧(l.take k).any (fun y=>decide (x=y))=false) (l.length) 0 ?_ (S.sel [] G G) (H.keep [8,0,1,7] rfl) ?_
 · exact ⟨by omega,by omega,rfl⟩
 clear H S a
 intro g1 x1 a w1 hp S H K4 k4
 obtain ⟨k,rfl⟩:∃ y,y=x1:=⟨_,rfl⟩
 refine sS H fun K5 k5=>sr 1 rfl<|sE ?_;clear H a;intro a H
 refine k5 _ ?_;clear k5 K5
 refine wp_seq_k fun K6 k6=>?_
 refine condL H rfl (fun hc1=>?_) (fun hc1=>?_)
 ·skip
  refine wp_skip ?_
  refine k6 _ _ ?_
  refine wp_seq_k fun K7 k7=>?_
  refine wp_block ?_
  refine sS H fun K8 k8=>sr 2 rfl<|sE ?_;clear H a;intro a H
  refine k8 _ ?_;clear k8 K8
  refine sS H fun K9 k9=>sr 3 rfl<|si aT bA G G (hl.adr (by omega)) (by omega)<|slm aD rfl (hl.rd S (by omega) (by omega))<|sr 1 rfl<|sE ?_;clear H a;intro a H
  refine k9 _ ?_;clear k9 K9
  refine condE H rfl (fun hc2=>?_) (fun hc2=>?_)
  ·skip
   replace H:=H.keep [5] rfl
   refine sS H fun K10 k10=>sr 2 rfl<|sE ?_;clear H a;intro a H
   refine k10 _ ?_;clear k10 K10
   refine wp_ret ?_
   refine ret1 (fn:=Tryz.f63) rfl H rfl ?_
   exact ⟨_,rfl,by rw [Uk (k:=k) (by omega) hc2];exact decide_eq_true (by omega),(S.sel [] G G)⟩
  refine wp_skip ?_
  refine k7 _ _ ?_
  refine sO H<|sd (aK G G (by unfold i64ok;omega))<|sr 1 rfl<|sE ?_;clear H a;intro a H
  exact k4 (g1-1) (k+1) a _ (by omega) (⟨by omega,by omega,Kj (by omega) hp.2.2 hc2⟩) (S.sel [] G G) (H.keep [8,0,1,7] rfl)
 refine wp_exit ?_
 refine k2 _ _ ?_
 refine sS H fun K12 k12=>sr 1 rfl<|sE ?_;clear H a;intro a H
 refine k12 _ ?_;clear k12 K12
 refine wp_ret ?_
 refine ret1 (fn:=Tryz.f63) rfl H rfl ?_
 exact ⟨_,rfl,by unfold hasC;rw [←List.take_of_length_le (l:=l) (i:=k) (by omega),hp.2.2];rfl,(S.sel [] G G)⟩
theorem gY (l:List Int) (A:Option Addr) (cp:Nat) (x:Int) (w:World) (hl:InS w noF 1 A l.length (icl l)) (hn:l.length≤9223372036854775807) :
    Calls Tryz.prog 35 [.slice A l.length cp,.int .i64 x].toArray w (Ret (fun u w'=>u = .bool (hasC l x)∧St w noF [] w')):=by
 refine enter Tryz.func35 rfl Tryz.ntmps35 rfl (fun a H=>?_)
 have S:=St.start w
 refine sS H fun K1 k1=>sr 1 rfl<|sE ?_;clear H a;intro a H
 refine k1 _ ?_;clear k1 K1
 refine seq_list fun K2 k2=>?_
 refine ls 2 H<|sr 2 rfl<|sE ?_;clear H a;intro a H
 refine aA H G G Tryz.func63 G G (Kk l A cp x _ (hl.now S) hn) ?_;clear H a
 rintro _ _ a ⟨n,rfl,hn2,S2⟩ H
 replace S:=S.call S2;clear S2
 refine ls 2 H<|sr 2 rfl<|sE ?_;clear H a;intro a H
 refine k2 _ _ ?_;clear k2 K2
 refine wp_ret ?_
 refine ret1 (fn:=Tryz.f35) rfl H rfl ?_
 exact ⟨congrArg Value.bool hn2,(S.sel [] G G)⟩
theorem zE (hz:Int) (sw:List Int) (SA:Option Addr) (sc:Nat) (ws:List Wr) (QA:Option Addr) (qc:Nat) (OA:Nat→Option Addr) (oc:Nat→Nat) (w:World) (hsw:InS w noF 1 SA sw.length (icl sw)) (hws:InS w noF 2 QA ws.length (gG ws OA oc)) (hof:∀ k,k<ws.length→InS w noF 1 (OA k) (ws.getD k Wr.zero).of.length (icl (ws.getD k Wr.zero).of)) (hE:circE hz sw ws=0) :
    Calls Tryz.prog 34 [.agg [.int .i64 hz,.slice SA sw.length sc,.slice QA ws.length qc].toArray].toArray w (Ret (fun u w'=>∃ A' c',u = .tuple #[.slice A' (critN hz sw ws sw.length).length c',.int .i64 0]∧St w noF [ownM 3 1 A' (critN hz sw ws sw.length).length c' (icl (critN hz sw ws sw.length))] w')):=by
 have V:=vE (Gn hE)
 have hns:=V.nsw
 have hnw:=V.nws
 have hzb:=V.hzb
 have hof9:=Gq V
 refine enter Tryz.func34 rfl Tryz.ntmps34 rfl (fun a H=>?_)
 have S:=St.start w
 refine seq_list fun K1 k1=>?_
 refine aO H rfl S G G ?_;clear H a S;intro b1 _ a hb1 hbw1 S H
 refine ls 2 H<|sr 2 rfl<|sE ?_;clear H a;intro a H
 refine k1 _ _ ?_;clear k1 K1
 refine wp_seq_k fun K2 k2=>?_
 refine seq_list fun K3 k3=>?_
 refine ls 1 H<|sd ((aC eN dR rfl S (i:=0) G G))<|sE ?_;clear H a;intro a H
 refine aA H G G Tryz.func62 G G (Ki hz sw SA sc ws QA qc OA oc _ (hsw.now S) (hws.now S) (fun k hk=>(hof k hk).now S) (by omega) (by omega) hof9) ?_;clear H a
 rintro _ _ a ⟨rfl,S2⟩ H
 replace S:=S.call S2;clear S2
 refine ls 1 H<|sr 1 rfl<|sE ?_;clear H a;intro a H
 refine k3 _ _ ?_;clear k3 K3
 refine sS H fun K4 k4=>sr 2 rfl<|sE ?_;clear H a;intro a H
 refine k4 _ ?_;clear k4 K4
 refine condN H rfl (fun hc1=>?_) (fun hc1=>?_)
 ·skip
  replace H:=H.keep [4] rfl
  refine sS H fun K5 k5=>sr 3 rfl<|sE ?_;clear H a;intro a H
  refine k5 _ ?_;clear k5 K5
  refine wp_ret ?_
  refine ret2 (fn:=Tryz.f34) rfl H G G ?_
  exact absurd hE hc1
 refine wp_skip ?_
 refine k2 _ _ ?_
 refine sS H fun K6 k6=>sr 1 rfl<|sE ?_;clear H a;intro a H
 refine k6 _ ?_;clear k6 K6
 refine wp_seq_k fun K7 k7=>?_
 refine sS H fun K8 k8=>sf kA rfl<|sl S 0 bM G G G<|sL aT rfl<|sr 1 rfl<|sE ?_;clear H a;intro a H
 refine k8 _ ?_;clear k8 K8
 refine wp_block ?_
 replace S:=S.newNil 3 1 (icl [])
 refine loop_st (X:=Nat×List Int×Option Addr×Nat) (R0:=_) [1,14] H rfl (fun ⟨k,L9,A9,c9⟩=>[(5,.slice A9 L9.length c9),(15,.int .i64 (k:Int))]) (fun ⟨k,L9,A9,c9⟩=>[ownM 3 1 A9 L9.length c9 (icl L9)]) (fun g ⟨k,L9,A9,c9⟩=>k≤sw.length∧g+k=sw.length∧L9=critN hz sw ws k) (sw.length) (0,[],none,0) ?_ (S.sel [0,1] G G) (H.keep [5,15,1,14] rfl) ?_
 · exact ⟨by omega,by omega,rfl⟩
 clear H S a
 intro g1 x1 a w1 hp S H K9 k9
 obtain ⟨k,L9,A9,c9⟩:=x1
 dsimp only at hp S H
 refine sS H fun K10 k10=>sr 1 rfl<|sE ?_;clear H a;intro a H
 refine k10 _ ?_;clear k10 K10
 refine wp_seq_k fun K11 k11=>?_
 refine condL H rfl (fun hc2=>?_) (fun hc2=>?_)
 ·skip
  refine wp_skip ?_
  refine k11 _ _ ?_
  refine wp_seq_k fun K12 k12=>?_
  refine wp_block ?_
  refine sS H fun K13 k13=>sr 2 rfl<|sE ?_;clear H a;intro a H
  refine k13 _ ?_;clear k13 K13
  have hsh:=pwc (h:=k) (by omega)
  have hL9:L9.length≤k:=by rw [hp.2.2];exact wY k
  replace S:=S.drew
  refine seq_wq [(0,true),(1,true),(2,true),(3,false),(4,true),(5,true)] (by kernel_rfl) (by kernel_rfl) (S.sel [0,1] G G) fun K14 k14=>?_
  refine qF H<|qd rfl (fun _ S=>(aC eN dR rfl S (i:=1) G G))<|qr 1 rfl<|qd rfl (fun _ S=>eJ G G (by omega) (by omega) (by unfold i64ok;omega))<|qK ?_;clear H a;intro a H
  refine aS rfl ?_
  refine aA H G G Tryz.func36 G G (Ch hz sw SA sc ws QA qc OA oc (1*2^(k:Int).toNat) _ (hsw.now S) (hws.now S) (fun k hk=>(hof k hk).now S) V (by omega)) ?_;clear H a
  rintro _ _ a ⟨A5,c5,rfl,S2⟩ H
  replace S:=S.call S2;clear S2
  refine wpList_nil (And.intro (S.sel [1,2] G G) ?_)
  refine qF H<|qd rfl (fun _ S=>cB aT rfl)<|qr 1 rfl<|qK ?_;clear H a;intro a H
  refine bF ?_
  refine k14 _ _ ?_
  clear k14 K14
  refine condL H rfl (fun hc3=>?_) (fun hc3=>?_)
  ·skip
   replace H:=H.keep [1,5,6,14,15] rfl
   refine one_list ?_
   refine ls 2 H<|sr 2 rfl<|sE ?_;clear H a;intro a H
   refine aZ H rfl S aT bA fO G G G G G G G G G ?_;clear H a S;intro A1 _ a hA1 S H
   refine bW H rfl S aT bA fO oY G G (i:=2) G G G (ownM.inS S (i:=0) rfl) (jS (one rfl)) (by omega) (by omega) ?_;clear H a S;intro A2 c2 _ a S H
   replace S:=S.recell (i:=2) rfl (cell':=icl (L9++[(k:Int)])) (Cg rfl)
   rw [show L9.length+1=(L9++[(k:Int)]).length by simp] at H S
   refine ls 1 H<|sr 1 rfl<|sE ?_;clear H a;intro a H
   refine k12 _ _ ?_
   refine sO H<|sd (aK G G (by unfold i64ok;omega))<|sr 1 rfl<|sE ?_;clear H a;intro a H
   exact k9 (g1-1) (k+1,_,_,_) a _ (by omega) (⟨by omega,by omega,by rw [critN];first|rw [if_pos (by omega),←hp.2.2]|rw [if_neg (by omega),←hp.2.2]⟩) (S.sel [2,3] G G) (H.keep [5,15,1,14] rfl)
  refine wp_skip ?_
  refine k12 _ _ ?_
  refine sO H<|sd (aK G G (by unfold i64ok;omega))<|sr 1 rfl<|sE ?_;clear H a;intro a H
  exact k9 (g1-1) (k+1,_,_,_) a _ (by omega) (⟨by omega,by omega,by rw [critN];first|rw [if_pos (by omega),←hp.2.2]|rw [if_neg (by omega),←hp.2.2]⟩) (S.sel [1,2] G G) (H.keep [5,15,1,14] rfl)
 refine wp_exit ?_
 refine k7 _ _ ?_
 replace H:=H.keep [5] rfl
 refine sS H fun K18 k18=>sr 3 rfl<|sE ?_;clear H a;intro a H
 refine k18 _ ?_;clear k18 K18
 refine wp_ret ?_
 refine ret2 (fn:=Tryz.f34) rfl H G G ?_
 obtain rfl:k=sw.length:=by omega
 rw [←hp.2.2]
 exact ⟨_,_,rfl,(S.sel [0] G G)⟩
end
end Go.Proofs.YtoekeohiokcefaaGreat
