/- Part 3 of the proof. -/
import Derived.Test.YtinghmelkmblmaaGreatQvb
namespace Go.Proofs.YtinghmelkmblmaaGreat
open Go.RowKit
set_option linter.unusedVariables false
set_option linter.unusedSimpArgs false
set_option maxRecDepth 100000
set_option maxHeartbeats 4000000
section
def BstOk (ca:List Cr) (pr:List Pr) (lea:Int) (bl:List Int):Prop:=lea = -1∨(0≤lea∧ShOk ca pr bl∧lngV ca pr bl=lea)
structure PfOk (ca:List Cr) (pr:List Pr) (sh:List Int) (i:Nat):Prop where
  len:sh.length=pr.length
  all:∀ k,k<i→gvB ca (pr.getD k Pr.zero) (sh.getD k 0)=true
structure TryOk (ca:List Cr) (pr:List Pr) (i:Nat) (n:Int) (lea:Int) (sh:List Int) (lea':Int) (bl' sh':List Int):Prop where
  J:BstOk ca pr lea' bl'
  len:sh'.length=pr.length
  pre:∀ k,k<i→sh'.getD k 0=sh.getD k 0
  dn:0≤lea→0≤lea'∧lea'≤lea
  best:∀ s,ShOk ca pr s→(∀ k,k<i→s.getD k 0=sh.getD k 0)→s.getD i 0<n→0≤lea'∧lea'≤lngV ca pr s
section
variable {ca:List Cr} {pr:List Pr} {sh sh' sh2 bl bl' bl2 s:List Int} {i k:Nat} {lea lea' lea2 n:Int}
theorem Uh (h1:s.length=sh.length) (h:∀ k,k<sh.length→s.getD k 0=sh.getD k 0):s=sh:=by
  refine List.ext_getElem h1 fun k hk1 hk2=>?_
  have:=h k hk2
  rw [List.getD_eq_getElem?_getD,List.getD_eq_getElem?_getD,List.getElem?_eq_getElem hk1,List.getElem?_eq_getElem hk2] at this
  exact this
theorem Es (h:PfOk ca pr sh pr.length):ShOk ca pr sh:=⟨h.len,h.all⟩
theorem Wh:0≤lngV ca pr sh:=xM _
theorem Mu (hJ:BstOk ca pr lea bl) (h:PfOk ca pr sh pr.length) (hc:lea<0∨lngV ca pr sh<lea):TryOk ca pr pr.length 1000 lea sh (lngV ca pr sh) sh sh:=by
  have hn:=Wh (ca:=ca) (pr:=pr) (sh:=sh)
  refine ⟨.inr ⟨hn,Es h,rfl⟩,h.len,fun _ _=>rfl,fun h0=>⟨hn,by omega⟩,fun s hs he _=>?_⟩
  rw [Uh (hs.len.trans h.len.symm) (fun k hk=>he k (by rw [←h.len];exact hk))]
  exact ⟨hn,Int.le_refl _⟩
theorem Hl (hJ:BstOk ca pr lea bl) (h:PfOk ca pr sh pr.length) (hc:¬ (lea<0∨lngV ca pr sh<lea)):TryOk ca pr pr.length 1000 lea sh lea bl sh:=by
  refine ⟨hJ,h.len,fun _ _=>rfl,fun h0=>⟨h0,Int.le_refl _⟩,fun s hs he _=>?_⟩
  rw [Uh (hs.len.trans h.len.symm) (fun k hk=>he k (by rw [←h.len];exact hk))]
  omega
theorem Mw (hJ:BstOk ca pr lea bl) (h:PfOk ca pr sh i) (hi:i<pr.length):TryOk ca pr i 0 lea sh lea bl sh:=by
  refine ⟨hJ,h.len,fun _ _=>rfl,fun h0=>⟨h0,Int.le_refl _⟩,fun s hs _ h0=>?_⟩
  have:=lW.1 (hs.all i hi)
  omega
theorem Rq (h:TryOk ca pr i (k:Int) lea sh lea' bl' sh') (hi:i<pr.length) (hg:gvB ca (pr.getD i Pr.zero) (k:Int)=false):TryOk ca pr i ((k+1:Nat):Int) lea sh lea' bl' sh':=by
  refine ⟨h.J,h.len,h.pre,h.dn,fun s hs he hk=>?_⟩
  by_cases e:s.getD i 0=(k:Int)
  · have:=hs.all i hi
    rw [e,hg] at this
    cases this
  · exact h.best s hs he (by omega)
theorem mO {l:List Int} {x:Int} (hi:i<l.length) (q:Nat):(l.set i x).getD q 0=if q=i then x else l.getD q 0:=by
  rw [List.getD_eq_getElem?_getD,List.getElem?_set]
  by_cases e:q=i
  · subst e;rw [if_pos rfl,if_pos rfl,if_pos hi];rfl
  · rw [if_neg (fun h=>e h.symm),if_neg e,←List.getD_eq_getElem?_getD]
theorem Wi (h:PfOk ca pr sh i) (hl:sh'.length=pr.length) (hp:∀ k,k<i→sh'.getD k 0=sh.getD k 0) (hi:i<pr.length) (hg:gvB ca (pr.getD i Pr.zero) (k:Int)=true):PfOk ca pr (sh'.set i (k:Int)) (i+1):=by
  refine ⟨by rw [List.length_set];exact hl,fun q hq=>?_⟩
  rw [mO (by omega)]
  by_cases e:q=i
  · subst e;rw [if_pos rfl];exact hg
  · rw [if_neg e,hp q (by omega)];exact h.all q (by omega)
theorem Mx (h:TryOk ca pr i (k:Int) lea sh lea' bl' sh') (hi:i<pr.length) (h2:TryOk ca pr (i+1) 1000 lea' (sh'.set i (k:Int)) lea2 bl2 sh2) (hb:∀ s,ShOk ca pr s→i+1=pr.length∨s.getD (i+1) 0<1000) (hz:∀ s:List Int,ShOk ca pr s→s.getD pr.length 0<1000):TryOk ca pr i ((k+1:Nat):Int) lea sh lea2 bl2 sh2:=by
  have hl:=h.len
  refine ⟨h2.J,h2.len,fun q hq=>?_,fun h0=>?_,fun s hs he hk=>?_⟩
  · rw [h2.pre q (by omega),mO (by omega),if_neg (by omega)];exact h.pre q hq
  · have h3:=h.dn h0
    have h4:=h2.dn h3.1
    omega
  · by_cases e:s.getD i 0=(k:Int)
    · refine h2.best s hs (fun q hq=>?_) ?_
      · rw [mO (by omega)]
        by_cases e2:q=i
        · subst e2;rw [if_pos rfl];exact e
        · rw [if_neg e2,h.pre q (by omega)];exact he q (by omega)
      · rcases hb s hs with h9|h9
        · rw [h9];exact hz s hs
        · exact h9
    · have h3:=h.best s hs he (by omega)
      have h4:=h2.dn h3.1
      omega
theorem My (hG:GOk ca pr) (hs:ShOk ca pr s) (q:Nat):s.getD q 0<1000:=by
  by_cases hq:q<pr.length
  · have:=lW.1 (hs.all q hq)
    have:=hG.len
    omega
  · rw [List.getD_eq_getElem?_getD,List.getElem?_eq_none (by rw [hs.len];omega)]
    show (0:Int)<1000
    decide
theorem Rr (hG:GOk ca pr) (h:TryOk ca pr i (ca.length:Int) lea sh lea' bl' sh') (hi:i<pr.length):TryOk ca pr i 1000 lea sh lea' bl' sh':=⟨h.J,h.len,h.pre,h.dn,fun s hs he _=>h.best s hs he (by have:=lW.1 (hs.all i hi);omega)⟩
theorem Rs (hG:GOk ca pr):∃ s,ShOk ca pr s:=by
  have key:∀ n,n≤pr.length→∃ s:List Int,s.length=n∧∀ k,k<n→gvB ca (pr.getD k Pr.zero) (s.getD k 0)=true:=by
    intro n
    induction n with
    | zero=>intro _;exact ⟨[],rfl,fun k hk=>absurd hk (Nat.not_lt_zero k)⟩
    | succ n ih=>
      intro hn
      obtain ⟨s,h1,h2⟩:=ih (by omega)
      obtain ⟨j,hj,hj2⟩:=mD.1 (hG.serv n (by omega))
      refine ⟨s++[(j:Int)],by rw [List.length_append,h1];rfl,fun k hk=>?_⟩
      by_cases e:k=n
      · subst e
        rw [List.getD_eq_getElem?_getD (l:=s++[(j:Int)]),List.getElem?_append_right (by omega),h1,Nat.sub_self]
        show gvB ca _ (j:Int)=true
        unfold gvB
        rw [Int.toNat_natCast,decide_eq_true ⟨by omega,by omega⟩]
        exact hj2
      · rw [List.getD_eq_getElem?_getD (l:=s++[(j:Int)]),List.getElem?_append_left (by omega),←List.getD_eq_getElem?_getD]
        exact h2 k (by omega)
  obtain ⟨s,h1,h2⟩:=key pr.length (Nat.le_refl _)
  exact ⟨s,h1,h2⟩
theorem Mz (hG:GOk ca pr) (h:TryOk ca pr 0 1000 lea sh lea' bl' sh'):ShOk ca pr bl'∧∀ s,ShOk ca pr s→lngV ca pr bl'≤lngV ca pr s:=by
  obtain ⟨s0,h0⟩:=Rs hG
  have hb:=fun s hs=>h.best s hs (fun k hk=>absurd hk (Nat.not_lt_zero k)) (My hG hs 0)
  rcases h.J with h1|⟨_,h1,h2⟩
  · have:=(hb s0 h0).1;omega
  · exact ⟨h1,fun s hs=>by rw [h2];exact (hb s hs).2⟩
theorem Rt {l:List Int} {x:Int} (hi:i<l.length):∀ k j,j<1→cput (icl l) i 0 (.int .i64 x) k j=icl (l.set i x) k j:=fun k j hj=>by
  obtain rfl:j=0:=by omega
  unfold cput icl
  rw [mO hi]
  by_cases e:k=i
  · rw [if_pos ⟨e,rfl⟩,if_pos e]
  · rw [if_neg (fun h=>e h.1),if_neg e]
end
theorem Et (ca:List Cr) (CA:Option Addr) (cc:Nat) (pr:List Pr) (RA:Option Addr) (rc:Nat) (SA:Option Addr) (sc:Nat) (b2 b3 b7 b8 b9 b10:Nat) (hG:GOk ca pr) (hp6:pr.length≤6) (i:Nat) (hi:i≤pr.length) (hrec:i<pr.length→∀ (bl:List Int) (BA:Option Addr) (bc:Nat) (lea:Int) (sh:List Int) (w:World) (F:Nat→Prop) (S:St w F [boxM b3 61 [.slice RA pr.length rc],boxM b2 60 [.slice CA ca.length cc],boxM b9 23 [.slice SA pr.length sc],boxM b8 3 [.int .i64 lea],boxM b7 23 [.slice BA bl.length bc],boxM b10 148 [(.func (.func 54) [].toArray [.pointer (some ⟨b3,0,none⟩),.pointer (some ⟨b2,0,none⟩),.pointer (some ⟨b9,0,none⟩),.pointer (some ⟨b8,0,none⟩),.pointer (some ⟨b7,0,none⟩),.pointer (some ⟨b10,0,none⟩)].toArray)],ownM 3 1 SA pr.length sc (icl sh),ownM 3 1 BA bl.length bc (icl bl)] w) (hca:InS w F 5 CA ca.length (cU ca)) (hpr:InS w F 2 RA pr.length (fF pr)) (hJ:BstOk ca pr lea bl) (hpf:PfOk ca pr sh (i+1)),Calls Tryz.prog 54 [.int .i64 ((i+1):Int),.pointer (some ⟨b3,0,none⟩),.pointer (some ⟨b2,0,none⟩),.pointer (some ⟨b9,0,none⟩),.pointer (some ⟨b8,0,none⟩),.pointer (some ⟨b7,0,none⟩),.pointer (some ⟨b10,0,none⟩)].toArray w (Ret (fun u w'=>u = .tuple #[]∧∃ BA' bc' bl' lea' sh',TryOk ca pr (i+1) 1000 lea sh lea' bl' sh'∧St w F [boxM b3 61 [.slice RA pr.length rc],boxM b2 60 [.slice CA ca.length cc],boxM b9 23 [.slice SA pr.length sc],boxM b8 3 [.int .i64 lea'],boxM b7 23 [.slice BA' bl'.length bc'],boxM b10 148 [(.func (.func 54) [].toArray [.pointer (some ⟨b3,0,none⟩),.pointer (some ⟨b2,0,none⟩),.pointer (some ⟨b9,0,none⟩),.pointer (some ⟨b8,0,none⟩),.pointer (some ⟨b7,0,none⟩),.pointer (some ⟨b10,0,none⟩)].toArray)],ownM 3 1 SA pr.length sc (icl sh'),ownM 3 1 BA' bl'.length bc' (icl bl')] w'))) (bl:List Int) (BA:Option Addr) (bc:Nat) (lea:Int) (sh:List Int) (w:World) (F:Nat→Prop) (S:St w F [boxM b3 61 [.slice RA pr.length rc],boxM b2 60 [.slice CA ca.length cc],boxM b9 23 [.slice SA pr.length sc],boxM b8 3 [.int .i64 lea],boxM b7 23 [.slice BA bl.length bc],boxM b10 148 [(.func (.func 54) [].toArray [.pointer (some ⟨b3,0,none⟩),.pointer (some ⟨b2,0,none⟩),.pointer (some ⟨b9,0,none⟩),.pointer (some ⟨b8,0,none⟩),.pointer (some ⟨b7,0,none⟩),.pointer (some ⟨b10,0,none⟩)].toArray)],ownM 3 1 SA pr.length sc (icl sh),ownM 3 1 BA bl.length bc (icl bl)] w) (hca:InS w F 5 CA ca.length (cU ca)) (hpr:InS w F 2 RA pr.length (fF pr)) (hJ:BstOk ca pr lea bl) (hpf:PfOk ca pr sh i) :
    Calls Tryz.prog 54 [.int .i64 (i:Int),.pointer (some ⟨b3,0,none⟩),.pointer (some ⟨b2,0,none⟩),.pointer (some ⟨b9,0,none⟩),.pointer (some ⟨b8,0,none⟩),.pointer (some ⟨b7,0,none⟩),.pointer (some ⟨b10,0,none⟩)].toArray w (Ret (fun u w'=>u = .tuple #[]∧∃ BA' bc' bl' lea' sh',TryOk ca pr i 1000 lea sh lea' bl' sh'∧St w F [boxM b3 61 [.slice RA pr.length rc],boxM b2 60 [.slice CA ca.length cc],boxM b9 23 [.slice SA pr.length sc],boxM b8 3 [.int .i64 lea'],boxM b7 23 [.slice BA' bl'.length bc'],boxM b10 148 [(.func (.func 54) [].toArray [.pointer (some ⟨b3,0,none⟩),.pointer (some ⟨b2,0,none⟩),.pointer (some ⟨b9,0,none⟩),.pointer (some ⟨b8,0,none⟩),.pointer (some ⟨b7,0,none⟩),.pointer (some ⟨b10,0,none⟩)].toArray)],ownM 3 1 SA pr.length sc (icl sh'),ownM 3 1 BA' bl'.length bc' (icl bl')] w')):=by
 have hcl:=hG.len
 have hso:=Uf hG.time
 have hmx:maxLen=9223372036854775807:=rfl
 refine enter Tryz.func54 rfl Tryz.ntmps54 rfl (fun a H=>?_)
 skip
 refine wp_seq_k fun K1 k1=>?_
 refine sS H fun K2 k2=>sr 1 rfl<|sl S 0 hZ G G G<|sL dS rfl<|sr 1 rfl<|sE ?_;clear H a;intro a H
 refine k2 _ ?_;clear k2 K2
 refine condE H rfl (fun hc1=>?_) (fun hc1=>?_)
 ·skip
  refine wp_seq_k fun K3 k3=>?_
  refine seq_list fun K4 k4=>?_
  refine ls 3 H<|sl S 1 jV G G G<|sl S 0 hZ G G G<|sl S 2 bR G G G<|sE ?_;clear H a;intro a H
  obtain rfl:i=pr.length:=by omega
  have hfull:=Es hpf
  rw [show Value.slice SA pr.length sc=Value.slice SA sh.length sc by rw [hpf.len]] at H
  have hcl9:=tU ca CA cc pr RA rc sh SA sc _ (hca.now S) (by omega) (hpr.now S) (by omega) (by rw [hpf.len];exact ownM.inS S (i:=6) rfl) hG hfull
  refine aA H G G Tryz.func55 G G hcl9 ?_;clear H a hcl9
  rintro _ _ a ⟨rfl,S2⟩ H
  replace S:=S.call S2;clear S2
  refine ls 1 H<|sr 1 rfl<|sE ?_;clear H a;intro a H
  refine k4 _ _ ?_;clear k4 K4
  replace H:=H.keep [3,4,5,8] rfl
  refine sS H fun K5 k5=>sl S 3 aD G G G<|sr 2 rfl<|sg 3 2 20 23 false G G (fun hg3=>by
      have hq3:=hg3;try simp only [o1,o2,o3,o4,o5,o6,o7,o8,o9,oa] at hq3
      exact sy hg3<|sr 1 rfl<|sy hg3<|sl S 3 aD G G G<|sy hg3<|sr 1 rfl<|sz 3 G G G)<|so G G G<|sE ?_;clear H a;intro a H
  refine k5 _ ?_;clear k5 K5
  refine cond_ H rfl (fun hc2=>?_) (fun hc2=>?_)
  ·skip
   try simp only [o1,o2,o3,o4,o5,o6,o7,o8,o9,oa] at hc2
   replace H:=H.keep [3,4,5,8] rfl
   refine one_list ?_
   refine ls 1 H<|sl S 2 bR G G G<|sE ?_;clear H a;intro a H
   rw [show Value.slice SA pr.length sc=Value.slice SA sh.length sc by rw [hpf.len]] at H
   have hcl9:=Mt sh SA sc _ (by rw [hpf.len];exact ownM.inS S (i:=6) rfl) (by rw [hpf.len];omega)
   refine aA H G G Tryz.func56 G G hcl9 ?_;clear H a hcl9
   rintro _ _ a ⟨A9,c9,rfl,S2⟩ H
   replace S:=S.call S2;clear S2
   refine ls 1 H<|sr 1 rfl<|sE ?_;clear H a;intro a H
   refine aB H S (i:=5) G G G G yV G G ?_
   clear H a S;intro _ a S H
   refine aB H S (i:=4) G G G G bC G G ?_
   clear H a S;intro _ a S H
   refine k3 _ _ ?_
   refine wp_ret ?_
   refine ret0 (fn:=Tryz.f54) rfl H ?_
   exact ⟨rfl,A9,c9,sh,_,sh,Mu hJ hpf hc2,(S.sel [1,2,3,4,5,6,7,0] G G)⟩
  try simp only [o1,o2,o3,o4,o5,o6,o7,o8,o9,oa] at hc2
  refine wp_skip ?_
  refine k3 _ _ ?_
  refine wp_ret ?_
  refine ret0 (fn:=Tryz.f54) rfl H ?_
  exact ⟨rfl,BA,bc,bl,lea,sh,Hl hJ hpf (by omega),(S.sel [0,1,2,3,4,5,6,7] G G)⟩
 refine wp_skip ?_
 refine k1 _ _ ?_
 have hil:i<pr.length:=by omega
 refine sS H fun K7 k7=>sl S 1 jV G G G<|sL eX rfl<|sr 1 rfl<|sE ?_;clear H a;intro a H
 refine k7 _ ?_;clear k7 K7
 refine wp_block ?_
 refine loop_st (X:=Nat×Option Addr×Nat×List Int×Int×List Int) (R0:=_) [0,1,2,3,6,29] H rfl (fun ⟨k,BA1,bc1,bl1,lea1,sh1⟩=>[(30,.int .i64 (k:Int))]) (fun ⟨k,BA1,bc1,bl1,lea1,sh1⟩=>[boxM b3 61 [.slice RA pr.length rc],boxM b2 60 [.slice CA ca.length cc],boxM b9 23 [.slice SA pr.length sc],boxM b8 3 [.int .i64 lea1],boxM b7 23 [.slice BA1 bl1.length bc1],boxM b10 148 [(.func (.func 54) [].toArray [.pointer (some ⟨b3,0,none⟩),.pointer (some ⟨b2,0,none⟩),.pointer (some ⟨b9,0,none⟩),.pointer (some ⟨b8,0,none⟩),.pointer (some ⟨b7,0,none⟩),.pointer (some ⟨b10,0,none⟩)].toArray)],ownM 3 1 SA pr.length sc (icl sh1),ownM 3 1 BA1 bl1.length bc1 (icl bl1)]) (fun g ⟨k,BA1,bc1,bl1,lea1,sh1⟩=>(k≤ca.length∧g+k=ca.length)∧TryOk ca pr i (k:Int) lea sh lea1 bl1 sh1) (ca.length) (0,BA,bc,bl,lea,sh) ?_ (S.sel [0,1,2,3,4,5,6,7] G G) (H.keep [30,0,1,2,3,6,29] rfl) ?_
 · exact ⟨⟨by omega,by omega⟩,Mw hJ hpf hil⟩
 clear H S a
 intro g1 x1 a w1 hp S H K8 k8
 obtain ⟨k,BA1,bc1,bl1,lea1,sh1⟩:=x1
 dsimp only at hp S H
 obtain ⟨⟨hkl,hgk⟩,hT⟩:=hp
 refine sS H fun K9 k9=>sr 1 rfl<|sE ?_;clear H a;intro a H
 refine k9 _ ?_;clear k9 K9
 refine wp_seq_k fun K10 k10=>?_
 refine condL H rfl (fun hc3=>?_) (fun hc3=>?_)
 ·skip
  refine wp_skip ?_
  refine k10 _ _ ?_
  refine wp_seq_k fun K11 k11=>?_
  refine wp_block ?_
  refine sS H fun K12 k12=>sr 2 rfl<|sE ?_;clear H a;intro a H
  refine k12 _ ?_;clear k12 K12
  replace H:=H.keep [0,1,2,3,6,9,29,30] rfl
  replace S:=S.drew
  refine seq_wq [(0,true),(1,true),(2,true),(3,true),(4,true),(5,true),(6,false)] (by kernel_rfl) (by kernel_rfl) (S.sel [0,1,2,3,4,5,6,7] G G) fun K13 k13=>?_
  refine qF H<|qd rfl (fun _ S=>aG jV rfl (boxM.rd S (i:=1) G G))<|qd rfl (fun _ S=>aG hZ rfl (boxM.rd S (i:=0) G G))<|qr 1 rfl<|qd rfl (fun _ S=>aZ dS dK G G (hpr.adr (by omega)) (by omega))<|qd rfl (fun _ S=>(aU mG dK rfl S hpr (by omega) (by omega)))<|qr 1 rfl<|qK ?_;clear H a;intro a H
  refine aV rfl ?_
  refine aA H G G Tryz.func57 G G (Ag ca CA cc (pr.getD i Pr.zero) (k:Int) _ (hca.now S) (by omega)) ?_;clear H a
  rintro _ _ a ⟨rfl,S2⟩ H
  replace S:=S.call S2;clear S2
  refine wpList_nil (And.intro (S.sel [0,1,2,3,4,5,6,7] G G) ?_)
  refine bO ?_
  refine k13 _ _ ?_
  clear k13 K13
  refine cond_ H rfl (fun hc4=>?_) (fun hc4=>?_)
  ·skip
   try simp only [o1,o2,o3,o4,o5,o6,o7,o8,o9,oa] at hc4
   skip
   replace H:=H.keep [0,1,2,3,6,9,29,30] rfl
   refine seq_list fun K14 k14=>?_
   refine ls 4 H<|sl S 2 bR G G G<|sr 2 rfl<|si aW bC G G (ownM.adr S (i:=6) rfl (by omega)) (by omega)<|sE ?_;clear H a;intro a H
   refine cQ H S (i:=6) (kk:=i) (j:=0) G G G (by omega) (by omega) bC rfl ?_
   clear H a S;intro _ a S H
   replace S:=S.recell (i:=6) rfl (cell':=icl (sh1.set i (k:Int))) (fun k9 j9 _ hj9=>Rt (by rw [hT.len];omega) k9 j9 hj9)
   refine k14 _ _ ?_;clear k14 K14
   refine one_list ?_
   refine ls 3 H<|sl S 5 Do G G G<|sr 1 rfl<|sd (aK G G (by unfold i64ok;omega))<|sE ?_;clear H a;intro a H
   have S1:=(S.sel [0,1,2,3,4,5,6,7] G G)
   have hcl9:=hrec hil bl1 BA1 bc1 lea1 (sh1.set i (k:Int)) _ _ S1.startR (hca.nowR S1) (hpr.nowR S1) hT.J (Wi hpf hT.len hT.pre hil hc4)
   refine fS (fs:=[]) (cs:=[.pointer (some ⟨b3,0,none⟩),.pointer (some ⟨b2,0,none⟩),.pointer (some ⟨b9,0,none⟩),.pointer (some ⟨b8,0,none⟩),.pointer (some ⟨b7,0,none⟩),.pointer (some ⟨b10,0,none⟩)]) (vs:=[.int .i64 ((i+1:Nat):Int)]) H G G G Tryz.func54 G G hcl9 ?_;clear H a hcl9
   rintro _ _ a ⟨rfl,BA2,bc2,bl2,lea2,sh2,hT2,S2⟩ H
   replace S:=St.callR (M:=[_,_,_,_,_,_,_,_]) (S.sel [0,1,2,3,4,5,6,7] G G) S2;clear S2 S1
   refine k11 _ _ ?_
   replace H:=H.keep [0,1,2,3,6,29,30] rfl
   refine sO H<|sd (aK G G (by unfold i64ok;omega))<|sr 1 rfl<|sE ?_;clear H a;intro a H
   exact k8 (g1-1) (k+1,_,_,_,_,_) a _ (by omega) (⟨⟨by omega,by omega⟩,Mx hT hil hT2 (fun s hs => .inr (My hG hs _)) (fun s hs=>My hG hs _)⟩) (S.sel [0,1,2,3,4,5,6,7] G G) (H.keep [30,0,1,2,3,6,29] rfl)
  try simp only [o1,o2,o3,o4,o5,o6,o7,o8,o9,oa] at hc4
  have hgf:gvB ca (pr.getD i Pr.zero) (k:Int)=false:=by simpa using hc4
  refine wp_skip ?_
  refine k11 _ _ ?_
  refine sO H<|sd (aK G G (by unfold i64ok;omega))<|sr 1 rfl<|sE ?_;clear H a;intro a H
  exact k8 (g1-1) (k+1,_,_,_,_,_) a _ (by omega) (⟨⟨by omega,by omega⟩,Rq hT hil hgf⟩) (S.sel [0,1,2,3,4,5,6,7] G G) (H.keep [30,0,1,2,3,6,29] rfl)
 refine wp_exit ?_
 refine ret0 (fn:=Tryz.f54) rfl H ?_
 obtain rfl:k=ca.length:=by omega
 exact ⟨rfl,BA1,bc1,bl1,lea1,sh1,Rr hG hT hil,(S.sel [0,1,2,3,4,5,6,7] G G)⟩
theorem Wj (ca:List Cr) (CA:Option Addr) (cc:Nat) (pr:List Pr) (RA:Option Addr) (rc:Nat) (SA:Option Addr) (sc:Nat) (b2 b3 b7 b8 b9 b10:Nat) (hG:GOk ca pr) (hp6:pr.length≤6):∀ m i,i+m=pr.length→∀ (bl:List Int) (BA:Option Addr) (bc:Nat) (lea:Int) (sh:List Int) (w:World) (F:Nat→Prop) (S:St w F [boxM b3 61 [.slice RA pr.length rc],boxM b2 60 [.slice CA ca.length cc],boxM b9 23 [.slice SA pr.length sc],boxM b8 3 [.int .i64 lea],boxM b7 23 [.slice BA bl.length bc],boxM b10 148 [(.func (.func 54) [].toArray [.pointer (some ⟨b3,0,none⟩),.pointer (some ⟨b2,0,none⟩),.pointer (some ⟨b9,0,none⟩),.pointer (some ⟨b8,0,none⟩),.pointer (some ⟨b7,0,none⟩),.pointer (some ⟨b10,0,none⟩)].toArray)],ownM 3 1 SA pr.length sc (icl sh),ownM 3 1 BA bl.length bc (icl bl)] w) (hca:InS w F 5 CA ca.length (cU ca)) (hpr:InS w F 2 RA pr.length (fF pr)) (hJ:BstOk ca pr lea bl) (hpf:PfOk ca pr sh i),Calls Tryz.prog 54 [.int .i64 (i:Int),.pointer (some ⟨b3,0,none⟩),.pointer (some ⟨b2,0,none⟩),.pointer (some ⟨b9,0,none⟩),.pointer (some ⟨b8,0,none⟩),.pointer (some ⟨b7,0,none⟩),.pointer (some ⟨b10,0,none⟩)].toArray w (Ret (fun u w'=>u = .tuple #[]∧∃ BA' bc' bl' lea' sh',TryOk ca pr i 1000 lea sh lea' bl' sh'∧St w F [boxM b3 61 [.slice RA pr.length rc],boxM b2 60 [.slice CA ca.length cc],boxM b9 23 [.slice SA pr.length sc],boxM b8 3 [.int .i64 lea'],boxM b7 23 [.slice BA' bl'.length bc'],boxM b10 148 [(.func (.func 54) [].toArray [.pointer (some ⟨b3,0,none⟩),.pointer (some ⟨b2,0,none⟩),.pointer (some ⟨b9,0,none⟩),.pointer (some ⟨b8,0,none⟩),.pointer (some ⟨b7,0,none⟩),.pointer (some ⟨b10,0,none⟩)].toArray)],ownM 3 1 SA pr.length sc (icl sh'),ownM 3 1 BA' bl'.length bc' (icl bl')] w')):=by
  intro m
  induction m with
  | zero=>intro i hi;exact Et ca CA cc pr RA rc SA sc b2 b3 b7 b8 b9 b10 hG hp6 i (by omega) (fun h=>by omega)
  | succ m ih=>intro i hi;exact Et ca CA cc pr RA rc SA sc b2 b3 b7 b8 b9 b10 hG hp6 i (by omega) (fun h=>ih (i+1) (by omega))
end
section
theorem PushI.same {N:Net} {L:Nat→Int} {x u:Nat} {r r1:RM} {nx nx1:Nat→Nat} {j:Nat} (I:PushI N L x u r nx 0 r1 nx1) (hu:u<N.k) (hj:j<N.n u) (h:¬ (0<r1 u j∧L (N.to u j)=L u+1)) (hr:0<r u j) (hl:L (N.to u j)=L u+1):False:=by
  have:=(I.zero rfl).1 u hu j hj
  exact h ⟨by omega,hl⟩
end
section
theorem Fl.bound {N:Net} {r r':RM} {b x:Nat} {v B:Int} (h:Fl N r r' b x v) (o:Ok N r B) (hbx:b≠x):v≤resid N r (fun v=>decide (v=b)):=by
  have h1:=sC (S:=(fun v=>decide (v=b))) (h.ok o)
  rw [h.cut] at h1
  unfold ind at h1
  have hxb:¬ x=b:=fun e=>hbx e.symm
  simp [hxb] at h1
  omega
end
section
theorem Na {l:List Int} {x:Int} {k:Nat} (hk:k<l.length) (h:(l.take k).any (fun y=>decide (x=y))=false) (hx:¬ x=l.getD k 0):(l.take (k+1)).any (fun y=>decide (x=y))=false:=by
  rw [List.take_succ_eq_append_getElem hk,List.any_append,h]
  rw [List.getD_eq_getElem?_getD,List.getElem?_eq_getElem hk] at hx
  simpa using hx
theorem Wl {l:List Int} {x:Int} {k:Nat} (hk:k<l.length) (hx:x=l.getD k 0):hasI l x=true:=by
  rw [List.getD_eq_getElem?_getD,List.getElem?_eq_getElem hk] at hx
  unfold hasI
  rw [List.any_eq_true]
  exact ⟨l[k],List.getElem_mem hk,by simpa using hx⟩
end
section
def JG (P T:Nat) (J:List Jn) (n:Nat):Prop:=(∀ j ∈ J,JOk P T j)∧J.length≤n
theorem JG.len {P T n:Nat} {J:List Jn} (h:JG P T J n) (hn:n≤1000000):∀ i,i<(P*(T+1))+2→(joins J i).length≤1000000:=fun i _=>Nat.le_trans (Gh J (fun j hj=>(h.1 j hj).1) i) (Nat.le_trans h.2 hn)
end
section
theorem cT (n lo hi:Int) (w:World) :
    Calls Tryz.prog 104 [.int .i64 n,.int .i64 lo,.int .i64 hi].toArray w (Ret (fun v w'=>v = .bool (decide (lo≤n)&&decide (n≤hi))∧w'=w)):=by
 refine enter Tryz.func104 rfl Tryz.ntmps104 rfl (fun a H=>?_)
 have S:=St.start w
 refine sS H fun K1 k1=>sr 1 rfl<|sE ?_;clear H a;intro a H
 refine k1 _ ?_;clear k1 K1
 replace H:=H.keep [0,1,2] rfl
 refine sS H fun K2 k2=>sr 4 rfl<|sg 3 3 10 13 true G G (fun hg4=>sy hg4<|sr 1 rfl<|sy hg4<|sr 1 rfl<|sy hg4<|sr 1 rfl<|sz 3 G G G)<|sa G G G<|sr 1 rfl<|sE ?_;clear H a;intro a H
 refine k2 _ ?_;clear k2 K2
 refine wp_ret ?_
 refine ret1 (fn:=Tryz.f104) rfl H rfl ?_
 exact ⟨rfl,rfl⟩
theorem xN (p1 p2 p3 p4 p5 p6 p7 pl:Int) (w:World) (hpl : -1000≤pl∧pl≤1000) :
    Calls Tryz.prog 139 [.agg [.int .i64 p1,.int .i64 p2,.int .i64 p3,.int .i64 p4,.int .i64 p5,.int .i64 p6,.int .i64 p7].toArray,.int .i64 pl].toArray w (Ret (fun v w'=>v = .bool (psgOk pl (⟨p1,p2,p3,p4,p5,p6,p7⟩:Psg))∧St w noF [] w')):=by
 refine enter Tryz.func139 rfl Tryz.ntmps139 rfl (fun a H=>?_)
 have S:=St.start w
 refine seq_list fun K1 k1=>?_
 refine aO H rfl S G G ?_;clear H a S;intro b2 _ a hb2 hbw2 S H
 refine ls 1 H<|sr 1 rfl<|sE ?_;clear H a;intro a H
 refine k1 _ _ ?_;clear k1 K1
 refine wp_seq_k fun K2 k2=>?_
 replace H:=H.keep [1,2] rfl
 refine sS H fun K3 k3=>sf kC rfl<|sl S 0 aD G G G<|sr 1 rfl<|sd (aS G G (by unfold i64ok;omega))<|sc rfl Tryz.func104 G G (cT _ _ _ _)<|sr 2 rfl<|sg 6 6 11 17 false G G (fun hg7=>sy hg7<|sf kD rfl<|sy hg7<|sl S 0 aD G G G<|sy hg7<|sr 1 rfl<|sy hg7<|sd (aS G G (by unfold i64ok;omega))<|sy hg7<|sc rfl Tryz.func104 G G (cT _ _ _ _)<|sy hg7<|sr 1 rfl<|sz 6 G G G)<|so G G G<|sr 1 rfl<|sg 5 14 19 24 false G G (fun hg15=>sy hg15<|sf kC rfl<|sy hg15<|sl S 0 aD G G G<|sy hg15<|sf kD rfl<|sy hg15<|sl S 0 aD G G G<|sy hg15<|sr 1 rfl<|sz 5 G G G)<|so G G G<|sr 1 rfl<|sg 4 21 26 30 false G G (fun hg22=>sy hg22<|sf sJ rfl<|sy hg22<|sl S 0 aD G G G<|sy hg22<|sc rfl Tryz.func104 G G (cT _ _ _ _)<|sy hg22<|sr 1 rfl<|sz 4 G G G)<|so G G G<|sr 1 rfl<|sg 4 27 32 36 false G G (fun hg28=>sy hg28<|sf yW rfl<|sy hg28<|sl S 0 aD G G G<|sy hg28<|sc rfl Tryz.func104 G G (cT _ _ _ _)<|sy hg28<|sr 1 rfl<|sz 4 G G G)<|so G G G<|sE ?_;clear H a;intro a H
 refine k3 _ ?_;clear k3 K3
 refine cond_ H rfl (fun hc1=>?_) (fun hc1=>?_)
 ·skip
  try simp only [o1,o2,o3,o4,o5,o6,o7,o8,o9,oa] at hc1
  replace H:=H.keep [] rfl
  refine sS H fun K4 k4=>sr 1 rfl<|sE ?_;clear H a;intro a H
  refine k4 _ ?_;clear k4 K4
  refine wp_ret ?_
  refine ret1 (fn:=Tryz.f139) rfl H rfl ?_
  refine ⟨congrArg Value.bool ?_,(S.sel [] G G)⟩;exact (fC (by first|omega|(dsimp only;omega))).symm
 try simp only [o1,o2,o3,o4,o5,o6,o7,o8,o9,oa] at hc1
 refine wp_skip ?_
 refine k2 _ _ ?_
 refine wp_seq_k fun K5 k5=>?_
 refine sS H fun K6 k6=>sf gK rfl<|sl S 0 aD G G G<|sE ?_;clear H a;intro a H
 refine k6 _ ?_;clear k6 K6
 refine wp_block ?_
 have SR:=(S.sel [0] G G)
 refine meet_sr (X:=Bool) [2,39] H rfl (fun q=>[(40,.bool q)]) (fun q=>[]) (fun q=>q=decide (p3=1∨p3=2∨p3=5)) SR (fun K8 k8=>?_) ?_
 ·skip
  refine sS H fun K9 k9=>sr 2 rfl<|sE ?_;clear H a;intro a H
  refine k9 _ ?_;clear k9 K9
  refine condE H rfl (fun hc2=>?_) (fun hc2=>?_)
  ·skip
   refine wp_skip ?_
   exact k8 _ a _ (decide_eq_decide.2 (by omega)) (S.sel [0] G G) (H.keep [40,2,39] rfl)
  refine sS H fun K10 k10=>sr 2 rfl<|sE ?_;clear H a;intro a H
  refine k10 _ ?_;clear k10 K10
  refine condE H rfl (fun hc3=>?_) (fun hc3=>?_)
  ·skip
   refine wp_skip ?_
   exact k8 _ a _ (decide_eq_decide.2 (by omega)) (S.sel [0] G G) (H.keep [40,2,39] rfl)
  refine sO H<|sr 2 rfl<|sE ?_;clear H a;intro a H
  exact k8 _ a _ (decide_eq_decide.2 (by omega)) (S.sel [0] G G) (H.keep [40,2,39] rfl)
 clear SR H S a
 intro xm a wm hp S H
 obtain ⟨q,rfl⟩:∃ y,y=xm:=⟨_,rfl⟩
 subst hp
 refine cond_ H rfl (fun hc4=>?_) (fun hc4=>?_)
 ·skip
  simp only [o7,o8] at hc4
  replace H:=H.keep [2] rfl
  refine sS H fun K12 k12=>sf dQ rfl<|sl S 0 aD G G G<|sr 2 rfl<|sg 3 3 47 50 true G G (fun hg4=>sy hg4<|sf jE rfl<|sy hg4<|sl S 0 aD G G G<|sy hg4<|sr 1 rfl<|sz 3 G G G)<|sa G G G<|sr 1 rfl<|sE ?_;clear H a;intro a H
  refine k12 _ ?_;clear k12 K12
  refine wp_ret ?_
  refine ret1 (fn:=Tryz.f139) rfl H rfl ?_
  refine ⟨congrArg Value.bool ?_,(S.sel [] G G)⟩;unfold psgOk;rw [←Bool.decide_and];exact decide_eq_decide.2 (by first|omega|(dsimp only;omega))
 simp only [o7,o8] at hc4
 replace H:=H.keep [2,39] rfl
 refine sS H fun K13 k13=>sr 2 rfl<|sE ?_;clear H a;intro a H
 refine k13 _ ?_;clear k13 K13
 refine condE H rfl (fun hc5=>?_) (fun hc5=>?_)
 ·skip
  replace H:=H.keep [2] rfl
  refine sS H fun K14 k14=>sf dQ rfl<|sl S 0 aD G G G<|sc rfl Tryz.func104 G G (cT _ _ _ _)<|sr 1 rfl<|sg 3 3 57 60 true G G (fun hg4=>sy hg4<|sf jE rfl<|sy hg4<|sl S 0 aD G G G<|sy hg4<|sc rfl Tryz.func104 G G (cT _ _ _ _)<|sz 3 G G G)<|sa G G G<|sr 1 rfl<|sE ?_;clear H a;intro a H
  refine k14 _ ?_;clear k14 K14
  refine wp_ret ?_
  refine ret1 (fn:=Tryz.f139) rfl H rfl ?_
  refine ⟨congrArg Value.bool ?_,(S.sel [] G G)⟩;unfold psgOk;simp only [←Bool.decide_and];exact decide_eq_decide.2 (by first|omega|(dsimp only;omega))
 replace H:=H.keep [2,39] rfl
 refine sS H fun K15 k15=>sr 2 rfl<|sE ?_;clear H a;intro a H
 refine k15 _ ?_;clear k15 K15
 refine condE H rfl (fun hc6=>?_) (fun hc6=>?_)
 ·skip
  replace H:=H.keep [2] rfl
  refine sS H fun K16 k16=>sf dQ rfl<|sl S 0 aD G G G<|sc rfl Tryz.func104 G G (cT _ _ _ _)<|sr 1 rfl<|sg 3 3 67 70 true G G (fun hg4=>sy hg4<|sf jE rfl<|sy hg4<|sl S 0 aD G G G<|sy hg4<|sr 1 rfl<|sz 3 G G G)<|sa G G G<|sr 1 rfl<|sE ?_;clear H a;intro a H
  refine k16 _ ?_;clear k16 K16
  refine wp_ret ?_
  refine ret1 (fn:=Tryz.f139) rfl H rfl ?_
  refine ⟨congrArg Value.bool ?_,(S.sel [] G G)⟩;unfold psgOk;simp only [←Bool.decide_and];exact decide_eq_decide.2 (by first|omega|(dsimp only;omega))
 refine wp_skip ?_
 refine k5 _ _ ?_
 replace H:=H.keep [] rfl
 refine sS H fun K17 k17=>sr 1 rfl<|sE ?_;clear H a;intro a H
 refine k17 _ ?_;clear k17 K17
 refine wp_ret ?_
 refine ret1 (fn:=Tryz.f139) rfl H rfl ?_
 refine ⟨congrArg Value.bool ?_,(S.sel [] G G)⟩;exact (fC (by first|omega|(dsimp only;omega))).symm
theorem Co (pl:Int) (ps:List Psg) (PA:Option Addr) (pc:Nat) (xs:List Int) (XA:Option Addr) (xc:Nat) (w:World) (hps:InS w noF 7 PA ps.length (pcell ps)) (hpn:ps.length≤9223372036854775807) (hxs:InS w noF 1 XA xs.length (icl xs)) (hxn:xs.length≤9223372036854775807) :
    Calls Tryz.prog 102 [.agg [.int .i64 pl,.slice PA ps.length pc,.slice XA xs.length xc].toArray].toArray w (Ret (fun v w'=>v = .int .i64 (stE pl ps xs)∧St w noF [] w')):=by
 refine enter Tryz.func102 rfl Tryz.ntmps102 rfl (fun a H=>?_)
 have S:=St.start w
 refine seq_list fun K1 k1=>?_
 refine aO H rfl S G G ?_;clear H a S;intro b1 _ a hb1 hbw1 S H
 refine ls 1 H<|sr 1 rfl<|sE ?_;clear H a;intro a H
 refine k1 _ _ ?_;clear k1 K1
 refine wp_seq_k fun K2 k2=>?_
 replace H:=H.keep [1] rfl
 refine sS H fun K3 k3=>sf eK rfl<|sl S 0 aD G G G<|sc rfl Tryz.func104 G G (cT _ _ _ _)<|sr 2 rfl<|sg 4 4 13 17 false G G (fun hg5=>sy hg5<|sf fM rfl<|sy hg5<|sl S 0 iP G G G<|sy hg5<|sL jD rfl<|sy hg5<|sr 1 rfl<|sz 4 G G G)<|so G G G<|sE ?_;clear H a;intro a H
 refine k3 _ ?_;clear k3 K3
 refine cond_ H rfl (fun hc1=>?_) (fun hc1=>?_)
 ·skip
  try simp only [o1,o2,o3,o4,o5,o6,o7,o8,o9,oa] at hc1
  replace H:=H.keep [] rfl
  refine sS H fun K4 k4=>sr 1 rfl<|sE ?_;clear H a;intro a H
  refine k4 _ ?_;clear k4 K4
  refine wp_ret ?_
  refine ret1 (fn:=Tryz.f102) rfl H rfl ?_
  exact ⟨congrArg _ (Dz (by omega)).symm,(S.sel [] G G)⟩
 try simp only [o1,o2,o3,o4,o5,o6,o7,o8,o9,oa] at hc1
 refine wp_skip ?_
 refine k2 _ _ ?_
 refine seq_list fun K5 k5=>?_
 refine wD (fun n:Int => .int .i64 n) H rfl S ?_;clear H a S;intro b19 _ a hb19 S H
 refine ls 1 H<|sr 1 rfl<|sE ?_;clear H a;intro a H
 refine k5 _ _ ?_;clear k5 K5
 refine wp_seq_k fun K6 k6=>?_
 refine sS H fun K7 k7=>sf fM rfl<|sl S 1 iP G G G<|sL jD rfl<|sr 1 rfl<|sE ?_;clear H a;intro a H
 refine k7 _ ?_;clear k7 K7
 refine wp_block ?_
 refine loop_st (X:=Nat×List (Int×Value)) (R0:=_) [1,3,21,22] H rfl (fun ⟨k,l⟩=>[(23,.int .i64 (k:Int))]) (fun ⟨k,l⟩=>[mapM (fun n:Int => .int .i64 n) b19 l]) (fun g ⟨k,l⟩=>k≤ps.length∧g+k=ps.length∧allN (pasOk pl ps) k=true∧CntMap ps k l) (ps.length) (0,[]) ?_ (S.sel [0,1] G G) (H.keep [23,1,3,21,22] rfl) ?_
 · exact ⟨by omega,by omega,rfl,CntMap.nil ps⟩
 clear H S a
 intro g1 x1 a w1 hp S H K8 k8
 obtain ⟨k,l⟩:=x1
 dsimp only at hp S H
 obtain ⟨hkl,hgk,hA,hM⟩:=hp
 refine sS H fun K9 k9=>sr 1 rfl<|sE ?_;clear H a;intro a H
 refine k9 _ ?_;clear k9 K9
 refine wp_seq_k fun K10 k10=>?_
 refine condL H rfl (fun hc2=>?_) (fun hc2=>?_)
 ·skip
  refine wp_skip ?_
  refine k10 _ _ ?_
  refine wp_seq_k fun K11 k11=>?_
  refine wp_block ?_
  refine seq_list fun K12 k12=>?_
  refine ls 2 H<|si jD eV G G (hps.adr (by omega)) (by omega)<|sd ((aU kU eV rfl S hps (by omega) (by omega)))<|sE ?_;clear H a;intro a H
  refine aI H rfl S sX ?_;clear H a S;intro b5 _ a hb5 hbw5 S H
  refine aB H S (i:=0) G G G G eV G G ?_
  clear H a S;intro _ a S H
  refine k12 _ _ ?_;clear k12 K12
  refine wp_seq_k fun K13 k13=>?_
  replace H:=H.keep [1,3,5,21,22,23] rfl
  refine seq_list fun K14 k14=>?_
  refine ls 3 H<|sd ((aE kU eV rfl S (i:=0) G G))<|sf eK rfl<|sl S 2 aD G G G<|sE ?_;clear H a;intro a H
  refine aA H G G Tryz.func139 G G (xN _ _ _ _ _ _ _ pl _ (by omega)) ?_;clear H a
  rintro _ _ a ⟨rfl,S2⟩ H
  replace S:=S.call S2;clear S2
  refine ls 1 H<|sr 1 rfl<|sE ?_;clear H a;intro a H
  refine k14 _ _ ?_;clear k14 K14
  refine cond_ H rfl (fun hc3=>?_) (fun hc3=>?_)
  ·skip
   try simp only [o1,o2,o3,o4,o5,o6,o7,o8,o9,oa] at hc3
   refine sS H fun K15 k15=>sr 1 rfl<|sE ?_;clear H a;intro a H
   refine k15 _ ?_;clear k15 K15
   refine wp_ret ?_
   refine ret1 (fn:=Tryz.f102) rfl H rfl ?_
   exact ⟨congrArg _ (lD (k:=k) (by omega) (by unfold pasOk;rw [hc3];rfl)).symm,(S.sel [] G G)⟩
  try simp only [o1,o2,o3,o4,o5,o6,o7,o8,o9,oa] at hc3
  refine wp_skip ?_
  refine k13 _ _ ?_
  have hcn:=Pq (ps:=ps) (m:=cF ps k) k;have hc0:=Dy (ps:=ps) (m:=cF ps k) (k:=k);have hcs:cntM ps (cF ps k) (k+1)=cntM ps (cF ps k) k+1:=by unfold cntM;rw [sm,if_pos rfl]
  replace H:=H.keep [1,3,5,21,22,23] rfl
  refine seq_list fun K16 k16=>?_
  refine ls 5 H<|sr 1 rfl<|sf dQ rfl<|sl S 0 aD G G G<|sd ((qO (k:=cF ps k) S (i:=1) rfl Bw (hO Tryz.underlying3) Yt G G).to (hM _))<|sd (aK G G (by unfold i64ok;omega))<|sE ?_;clear H a;intro a H
  refine sA (k:=cF ps k) H S (i:=1) rfl Bw (hO Tryz.underlying3) G G G ?_;clear H a S;intro _ a S H
  refine k16 _ _ ?_;clear k16 K16
  replace H:=H.keep [1,3,5,21,22,23] rfl
  refine seq_list fun K17 k17=>?_
  refine ls 4 H<|sf dQ rfl<|sl S 0 aD G G G<|sr 2 rfl<|sE ?_;clear H a;intro a H
  apply cI (i:=3) (g:=40) (t:=45) (b:=true) 5 H S G G (by kernel_rfl) (by kernel_rfl) G G
  case h1=>
   intro hg4
   refine ls 5 H<|sy hg4<|sr 1 rfl<|sy hg4<|sf dQ rfl<|sy hg4<|sl S 0 aD G G G<|sy hg4<|sd ((qO (k:=cF ps k) S (i:=1) rfl Bw (hO Tryz.underlying3) Yt G G).to (hM.step _))<|sy hg4<|sr 1 rfl<|sE ?_;intro a H
   exact wpList_nil ⟨H.strip 5 G G,(S.sel [0,1,2] G G)⟩
  clear H a S;intro a _ H S
  refine ls 1 H<|sa G G G<|sE ?_;clear H a;intro a H
  refine k17 _ _ ?_;clear k17 K17
  refine cond_ H rfl (fun hc4=>?_) (fun hc4=>?_)
  ·skip
   try simp only [o1,o2,o3,o4,o5,o6,o7,o8,o9,oa] at hc4
   replace H:=H.keep [] rfl
   refine sS H fun K18 k18=>sr 1 rfl<|sE ?_;clear H a;intro a H
   refine k18 _ ?_;clear k18 K18
   refine wp_ret ?_
   refine ret1 (fn:=Tryz.f102) rfl H rfl ?_
   exact ⟨congrArg _ (lD (k:=k) (by omega) (by unfold pasOk;rw [decide_eq_false (by unfold cF at *;omega),Bool.and_false])).symm,(S.sel [] G G)⟩
  try simp only [o1,o2,o3,o4,o5,o6,o7,o8,o9,oa] at hc4
  refine wp_skip ?_
  refine k11 _ _ ?_
  refine sO H<|sd (aK G G (by unfold i64ok;omega))<|sr 1 rfl<|sE ?_;clear H a;intro a H
  exact k8 (g1-1) (k+1,_) a _ (by omega) (⟨by omega,by omega,cN hA (by unfold pasOk;rw [Bool.and_eq_true];refine ⟨hc3,decide_eq_true ?_⟩;unfold cF at *;omega),hM.step⟩) (S.sel [1,2] G G) (H.keep [23,1,3,21,22] rfl)
 refine wp_exit ?_
 refine k6 _ _ ?_
 refine sS H fun K20 k20=>sr 1 rfl<|sE ?_;clear H a;intro a H
 refine k20 _ ?_;clear k20 K20
 refine wp_seq_k fun K21 k21=>?_
 refine sS H fun K22 k22=>sf oG rfl<|sl S 1 bR G G G<|sL aW rfl<|sr 1 rfl<|sE ?_;clear H a;intro a H
 refine k22 _ ?_;clear k22 K22
 refine wp_block ?_
 refine loop_st (X:=Nat) (R0:=_) [1,49,50] H rfl (fun k2=>[(6,.int .i64 (if k2=0 then -1 else xs.getD (k2-1) 0)),(51,.int .i64 (k2:Int))]) (fun k2=>[]) (fun g k2=>k2≤xs.length∧g+k2=xs.length∧allN (exOk pl xs) k2=true) (xs.length) 0 ?_ (S.sel [0,1] G G) (H.keep [6,51,1,49,50] rfl) ?_
 · exact ⟨by omega,by omega,rfl⟩
 clear H S a
 intro g2 x2 a w2 hp S H K23 k23
 obtain ⟨k2,rfl⟩:∃ y,y=x2:=⟨_,rfl⟩
 have hxb:k2≠0→0≤xs.getD (k2-1) 0∧xs.getD (k2-1) 0<pl:=fun h0=>by
   have:=cC.1 hp.2.2 (k2-1) (by omega)
   unfold exOk at this
   simp only [decide_eq_true_eq] at this
   omega
 refine sS H fun K24 k24=>sr 1 rfl<|sE ?_;clear H a;intro a H
 refine k24 _ ?_;clear k24 K24
 refine wp_seq_k fun K25 k25=>?_
 refine condL H rfl (fun hc5=>?_) (fun hc5=>?_)
 ·skip
  refine wp_skip ?_
  refine k25 _ _ ?_
  refine wp_seq_k fun K26 k26=>?_
  refine wp_block ?_
  refine sS H fun K27 k27=>si aW bC G G (hxs.adr (by omega)) (by omega)<|slm aD rfl (hxs.rd S (by omega) (by omega))<|sr 1 rfl<|sE ?_;clear H a;intro a H
  refine k27 _ ?_;clear k27 K27
  refine wp_seq_k fun K28 k28=>?_
  replace H:=H.keep [1,6,8,49,50,51] rfl
  refine sS H fun K29 k29=>sr 2 rfl<|sd (aK G G (by unfold i64ok;omega))<|sf eK rfl<|sl S 1 aD G G G<|sd (aS G G (by unfold i64ok;omega))<|sc rfl Tryz.func104 G G (cT _ _ _ _)<|sr 1 rfl<|sE ?_;clear H a;intro a H
  refine k29 _ ?_;clear k29 K29
  refine cond_ H rfl (fun hc6=>?_) (fun hc6=>?_)
  ·skip
   try simp only [o1,o2,o3,o4,o5,o6,o7,o8,o9,oa] at hc6
   refine sS H fun K30 k30=>sr 1 rfl<|sE ?_;clear H a;intro a H
   refine k30 _ ?_;clear k30 K30
   refine wp_ret ?_
   refine ret1 (fn:=Tryz.f102) rfl H rfl ?_
   exact ⟨congrArg _ (Uc (k:=k2) (by omega) (by unfold exOk;rw [decide_eq_false_iff_not];rcases Nat.eq_zero_or_pos k2 with h0|h0 <;> first|(rw [if_pos h0] at hc6;omega)|(rw [if_neg (Nat.ne_of_gt h0)] at hc6;omega))).symm,(S.sel [] rfl rfl)⟩
  try simp only [o1,o2,o3,o4,o5,o6,o7,o8,o9,oa] at hc6
  refine wp_skip ?_
  refine k28 _ _ ?_
  replace H:=H.keep [1,8,49,50,51] rfl
  refine sO H<|sr 2 rfl<|sE ?_;clear H a;intro a H
  refine k26 _ _ ?_
  refine sO H<|sd (aK G G (by unfold i64ok;omega))<|sr 1 rfl<|sE ?_;clear H a;intro a H
  exact k23 (g2-1) (k2+1) a _ (by omega) (⟨by omega,by omega,cN hp.2.2 (by unfold exOk;rw [decide_eq_true_eq];rcases Nat.eq_zero_or_pos k2 with h0|h0 <;> first|(rw [if_pos h0] at hc6;omega)|(rw [if_neg (Nat.ne_of_gt h0)] at hc6;omega))⟩) (S.sel [0,1] rfl rfl) (H.keep [6,51,1,49,50] rfl)
 refine wp_exit ?_
 refine k21 _ _ ?_
 refine sS H fun K33 k33=>sr 1 rfl<|sE ?_;clear H a;intro a H
 refine k33 _ ?_;clear k33 K33
 refine wp_ret ?_
 refine ret1 (fn:=Tryz.f102) rfl H rfl ?_
 have hk9:k=ps.length:=by omega
 have hk8:k2=xs.length:=by omega
 exact ⟨congrArg _ (Ud (by omega) (hk9 ▸ hA) (hk8 ▸ hp.2.2)).symm,(S.sel [] G G)⟩
theorem Cp (pl:Int) (ps:List Psg) (PA:Option Addr) (pc:Nat) (xs:List Int) (XA:Option Addr) (xc:Nat) (pe:List Int) (BA:Option Addr) (bc:Nat) (w:World) (hpe:InS w noF 1 BA pe.length (icl pe)) (hpen:pe.length≤9223372036854775807) :
    Calls Tryz.prog 140 [.agg [.int .i64 pl,.slice PA ps.length pc,.slice XA xs.length xc].toArray,.slice BA pe.length bc].toArray w (Ret (fun v w'=>v = .bool (eT pl pe)∧St w noF [] w')):=by
 refine enter Tryz.func140 rfl Tryz.ntmps140 rfl (fun a H=>?_)
 have S:=St.start w
 refine seq_list fun K1 k1=>?_
 refine aO H rfl S G G ?_;clear H a S;intro b2 _ a hb2 hbw2 S H
 refine ls 1 H<|sr 1 rfl<|sE ?_;clear H a;intro a H
 refine k1 _ _ ?_;clear k1 K1
 refine wp_seq_k fun K2 k2=>?_
 refine sS H fun K3 k3=>sr 1 rfl<|sL aW rfl<|sr 1 rfl<|sE ?_;clear H a;intro a H
 refine k3 _ ?_;clear k3 K3
 refine wp_block ?_
 refine loop_st (X:=Nat) (R0:=_) [1,2,7,8] H rfl (fun k=>[(9,.int .i64 (k:Int))]) (fun k=>[]) (fun g k=>k≤pe.length∧g+k=pe.length∧allN (fun k=>decide (0≤pe.getD k 0∧pe.getD k 0≤1000)) k=true) (pe.length) 0 ?_ (S.sel [0] G G) (H.keep [9,1,2,7,8] rfl) ?_
 · exact ⟨by omega,by omega,rfl⟩
 clear H S a
 intro g1 x1 a w1 hp S H K4 k4
 obtain ⟨k,rfl⟩:∃ y,y=x1:=⟨_,rfl⟩
 refine sS H fun K5 k5=>sr 1 rfl<|sE ?_;clear H a;intro a H
 refine k5 _ ?_;clear k5 K5
 refine wp_seq_k fun K6 k6=>?_
 refine condL H rfl (fun hc1=>?_) (fun hc1=>?_)
 ·skip
  refine wp_skip ?_
  refine k6 _ _ ?_
  refine wp_seq_k fun K7 k7=>?_
  refine wp_block ?_
  refine sS H fun K8 k8=>si aW bC G G (hpe.adr (by omega)) (by omega)<|slm aD rfl (hpe.rd S (by omega) (by omega))<|sr 1 rfl<|sE ?_;clear H a;intro a H
  refine k8 _ ?_;clear k8 K8
  refine sS H fun K9 k9=>sr 1 rfl<|sc rfl Tryz.func104 G G (cT _ _ _ _)<|sr 1 rfl<|sE ?_;clear H a;intro a H
  refine k9 _ ?_;clear k9 K9
  refine cond_ H rfl (fun hc2=>?_) (fun hc2=>?_)
  ·skip
   try simp only [o1,o2,o3,o4,o5,o6,o7,o8,o9,oa] at hc2
   refine sS H fun K10 k10=>sr 1 rfl<|sE ?_;clear H a;intro a H
   refine k10 _ ?_;clear k10 K10
   refine wp_ret ?_
   refine ret1 (fn:=Tryz.f140) rfl H rfl ?_
   refine ⟨congrArg Value.bool ?_,(S.sel [] G G)⟩;unfold eT;rw [fW (k:=k) (by omega) (by rw [decide_eq_false_iff_not];omega)];rfl
  try simp only [o1,o2,o3,o4,o5,o6,o7,o8,o9,oa] at hc2
  refine wp_skip ?_
  refine k7 _ _ ?_
  replace H:=H.keep [1,2,7,8,9] rfl
  refine sO H<|sd (aK G G (by unfold i64ok;omega))<|sr 1 rfl<|sE ?_;clear H a;intro a H
  exact k4 (g1-1) (k+1) a _ (by omega) (⟨by omega,by omega,cN hp.2.2 (by rw [decide_eq_true_eq];omega)⟩) (S.sel [0] G G) (H.keep [9,1,2,7,8] rfl)
 refine wp_exit ?_
 refine k2 _ _ ?_
 refine sS H fun K12 k12=>sr 1 rfl<|sL aW rfl<|sf eK rfl<|sl S 0 aD G G G<|sr 2 rfl<|sE ?_;clear H a;intro a H
 refine k12 _ ?_;clear k12 K12
 refine wp_ret ?_
 refine ret1 (fn:=Tryz.f140) rfl H rfl ?_
 refine ⟨congrArg Value.bool ?_,(S.sel [] G G)⟩;unfold eT;rw [show pe.length=k by omega,hp.2.2,Bool.true_and]
end
section
theorem StV.mch {P:Nat} {ps:List Psg} {xs:List Int} (h:StV P ps xs) (k:Nat) (hk:k<ps.length):(ps.getD k Psg.zero).kind=4→0≤(ps.getD k Psg.zero).mach∧(ps.getD k Psg.zero).mach≤11:=fun h4=>by
  have:=eJ.1 (h.pas k hk)
  omega
theorem Nb {k:Nat}:∀ q j,j<1→cput (lcl fun i=>if i<k then -1 else 0) k 0 (.int .i64 (-1)) q j=lcl (fun i=>if i<k+1 then -1 else 0) q j:=by
  intro q j hj
  have:j=0:=by omega
  subst this
  unfold cput lcl
  dsimp only
  by_cases e:q=k
  · subst e;rw [if_pos ⟨rfl,rfl⟩,if_pos (by omega)]
  · rw [if_neg (fun h=>e h.1)]
    by_cases h:q<k
    · rw [if_pos h,if_pos (by omega)]
    · rw [if_neg h,if_neg (by omega)]
theorem Nc {P k to:Nat} (hk:k=P):∀ q j,q<P→j<1→cput (lcl fun i=>if i<k then -1 else 0) to 0 (.int .i64 0) q j=lcl (tk0 to) q j:=by
  intro q j hq hj
  have:j=0:=by omega
  subst this
  unfold cput lcl tk0
  dsimp only
  by_cases e:q=to
  · subst e;rw [if_pos ⟨rfl,rfl⟩,if_pos rfl]
  · rw [if_neg (fun h=>e h.1),if_pos (by omega),if_neg e]
theorem Ru {L:Nat→Int} {p:Nat} {v:Int}:∀ k j,j<1→cput (lcl L) p 0 (.int .i64 v) k j=lcl (upd L p v) k j:=by
  intro k j hj
  have:j=0:=by omega
  subst this
  unfold cput lcl upd
  by_cases e:k=p <;> simp [e]
theorem Zm {m:Bool} (h:m=true):b2i m=1:=by subst h;rfl
theorem Wm {P f:Nat} {ps:List Psg} {out:Int} {help:Bool} {tk:Nat→Int} {m:Bool} (e:P=f) (h:m=false→∀ i,i<f→∀ k,k<ps.length→FixAt ps out help tk i k):m=false→∀ i,i<P→∀ k,k<ps.length→FixAt ps out help tk i k:=by subst e;exact h
theorem Wn:∀ k j,j<1→[Value.int .i64 0].getD j undef=lcl (fun i=>if i<0 then -1 else 0) k j:=by
  intro k j hj
  have:j=0:=by omega
  subst this
  rfl
theorem Cq (pl:Int) (ps:List Psg) (PA:Option Addr) (pc:Nat) (xs:List Int) (XA:Option Addr) (xc:Nat) (l:List Int) (LA:Option Addr) (lc:Nat) (w:World) (hl:InS w noF 1 LA l.length (icl l)) (hln:l.length≤9223372036854775807) (hpl : -1000≤pl∧pl≤1000) :
    Calls Tryz.prog 106 [.agg [.int .i64 pl,.slice PA ps.length pc,.slice XA xs.length xc].toArray,.slice LA l.length lc].toArray w (Ret (fun v w'=>v = .bool (plOk pl l)∧St w noF [] w')):=by
 refine enter Tryz.func106 rfl Tryz.ntmps106 rfl (fun a H=>?_)
 have S:=St.start w
 refine seq_list fun K1 k1=>?_
 refine aO H rfl S G G ?_;clear H a S;intro b2 _ a hb2 hbw2 S H
 refine ls 1 H<|sr 1 rfl<|sE ?_;clear H a;intro a H
 refine k1 _ _ ?_;clear k1 K1
 refine wp_seq_k fun K2 k2=>?_
 refine sS H fun K3 k3=>sr 1 rfl<|sL aW rfl<|sr 1 rfl<|sE ?_;clear H a;intro a H
 refine k3 _ ?_;clear k3 K3
 refine wp_block ?_
 refine loop_st (X:=Nat) (R0:=_) [2,7,8] H rfl (fun k=>[(9,.int .i64 (k:Int))]) (fun k=>[]) (fun g k=>k≤l.length∧g+k=l.length∧allN (fun k=>decide (0≤l.getD k 0∧l.getD k 0≤pl-1)) k=true) (l.length) 0 ?_ (S.sel [0] G G) (H.keep [9,2,7,8] rfl) ?_
 · exact ⟨by omega,by omega,rfl⟩
 clear H S a
 intro g1 x1 a w1 hp S H K4 k4
 obtain ⟨k,rfl⟩:∃ y,y=x1:=⟨_,rfl⟩
 refine sS H fun K5 k5=>sr 1 rfl<|sE ?_;clear H a;intro a H
 refine k5 _ ?_;clear k5 K5
 refine wp_seq_k fun K6 k6=>?_
 refine condL H rfl (fun hc1=>?_) (fun hc1=>?_)
 ·skip
  refine wp_skip ?_
  refine k6 _ _ ?_
  refine wp_seq_k fun K7 k7=>?_
  refine wp_block ?_
  refine sS H fun K8 k8=>si aW bC G G (hl.adr (by omega)) (by omega)<|slm aD rfl (hl.rd S (by omega) (by omega))<|sr 1 rfl<|sE ?_;clear H a;intro a H
  refine k8 _ ?_;clear k8 K8
  replace H:=H.keep [2,6,7,8,9] rfl
  refine sS H fun K9 k9=>sr 1 rfl<|sf eK rfl<|sl S 0 aD G G G<|sd (aS G G (by unfold i64ok;omega))<|sc rfl Tryz.func104 G G (cT _ _ _ _)<|sr 1 rfl<|sE ?_;clear H a;intro a H
  refine k9 _ ?_;clear k9 K9
  refine cond_ H rfl (fun hc2=>?_) (fun hc2=>?_)
  ·skip
   try simp only [o1,o2,o3,o4,o5,o6,o7,o8,o9,oa] at hc2
   refine sS H fun K10 k10=>sr 1 rfl<|sE ?_;clear H a;intro a H
   refine k10 _ ?_;clear k10 K10
   refine wp_ret ?_
   refine ret1 (fn:=Tryz.f106) rfl H rfl ?_
   exact ⟨congrArg Value.bool (Bz (k:=k) (by omega) (by omega)).symm,(S.sel [] G G)⟩
  try simp only [o1,o2,o3,o4,o5,o6,o7,o8,o9,oa] at hc2
  refine wp_skip ?_
  refine k7 _ _ ?_
  refine sO H<|sd (aK G G (by unfold i64ok;omega))<|sr 1 rfl<|sE ?_;clear H a;intro a H
  exact k4 (g1-1) (k+1) a _ (by omega) (⟨by omega,by omega,cN hp.2.2 (by rw [decide_eq_true_eq];omega)⟩) (S.sel [0] G G) (H.keep [9,2,7,8] rfl)
 refine wp_exit ?_
 refine k2 _ _ ?_
 replace H:=H.keep [] rfl
 refine sS H fun K12 k12=>sr 1 rfl<|sE ?_;clear H a;intro a H
 refine k12 _ ?_;clear k12 K12
 refine wp_ret ?_
 refine ret1 (fn:=Tryz.f106) rfl H rfl ?_
 refine ⟨congrArg Value.bool ?_,(S.sel [] G G)⟩;unfold plOk;rw [show l.length=k by omega,hp.2.2]
theorem Ah (P:Nat) (ps:List Psg) (PA:Option Addr) (pc:Nat) (xs:List Int) (XA:Option Addr) (xc:Nat) (out:Int) (help:Bool) (p:Psg) (f:Int) (w:World) (hm:p.kind=4→0≤p.mach∧p.mach≤11) (hou:0≤out) :
    Calls Tryz.prog 175 [.agg [.int .i64 (P:Int),.slice PA ps.length pc,.slice XA xs.length xc,.int .i64 out,.bool help].toArray,.agg [.int .i64 p.a,.int .i64 p.b,.int .i64 p.kind,.int .i64 p.ticks,.int .i64 p.wide,.int .i64 p.mach,.int .i64 p.still].toArray,.int .i64 f].toArray w (Ret (fun v w'=>v = .int .i64 (oth out help p f)∧St w noF [] w')):=by
 refine enter Tryz.func175 rfl Tryz.ntmps175 rfl (fun a H=>?_)
 have S:=St.start w
 refine seq_list fun K1 k1=>?_
 refine aO H rfl S G G ?_;clear H a S;intro b3 _ a hb3 hbw3 S H
 refine aO H rfl S G G ?_;clear H a S;intro b4 _ a hb4 hbw4 S H
 refine ls 1 H<|sr 1 rfl<|sE ?_;clear H a;intro a H
 refine k1 _ _ ?_;clear k1 K1
 replace H:=H.keep [2,3,4] rfl
 refine sS H fun K2 k2=>sf gK rfl<|sl S 0 aD G G G<|sr 2 rfl<|sg 12 3 11 23 false G G (fun hg4=>by
     have hq4:=hg4;try simp only [o1,o2,o3,o4,o5,o6,o7,o8,o9,oa] at hq4
     exact sy hg4<|sf gK rfl<|sy hg4<|sl S 0 aD G G G<|sy hg4<|sr 1 rfl<|sy hg4<|sr 1 rfl<|sg 7 7 15 22 true G G (fun hg8=>by
          have hq8:=hg8;try simp only [o1,o2,o3,o4,o5,o6,o7,o8,o9,oa] at hq8
          exact sy hg8<|sf Jr rfl<|sy hg8<|sl S 1 aD G G G<|sy hg8<|sf dQ rfl<|sy hg8<|sl S 0 aD G G G<|sy hg8<|sd (gD G G (by omega) (by omega))<|sy hg8<|sd (eZ G G)<|sy hg8<|sr 1 rfl<|sz 7 G G G)<|sy hg4<|sa G G G<|sz 6 G G G)<|so G G G<|sr 1 rfl<|sg 7 17 25 32 false G G (fun hg18=>by
     have hq18:=hg18;try simp only [o1,o2,o3,o4,o5,o6,o7,o8,o9,oa] at hq18
     exact sy hg18<|sf gK rfl<|sy hg18<|sl S 0 aD G G G<|sy hg18<|sr 1 rfl<|sy hg18<|sr 1 rfl<|sg 2 21 29 31 true G G (fun hg22=>by
          have hq22:=hg22;try simp only [o1,o2,o3,o4,o5,o6,o7,o8,o9,oa] at hq22
          exact sy hg22<|sf Js rfl<|sy hg22<|sl S 1 iL G G G<|sz 2 G G G)<|sy hg18<|sa G G G<|sz 6 G G G)<|so G G G<|sr 1 rfl<|sE ?_;clear H a;intro a H
 refine k2 _ ?_;clear k2 K2
 refine wp_seq_k fun K3 k3=>?_
 refine wp_block ?_
 replace H:=H.keep [2,4,7] rfl
 refine sS H fun K4 k4=>sr 3 rfl<|sE ?_;clear H a;intro a H
 refine k4 _ ?_;clear k4 K4
 refine cond_ H rfl (fun hc1=>?_) (fun hc1=>?_)
 ·skip
  try simp only [o1,o2,o3,o4,o5,o6,o7,o8,o9,oa] at hc1
  refine sS H fun K5 k5=>sr 1 rfl<|sE ?_;clear H a;intro a H
  refine k5 _ ?_;clear k5 K5
  refine wp_ret ?_
  refine ret1 (fn:=Tryz.f175) rfl H rfl ?_
  refine ⟨congrArg (Value.int .i64) ?_,(S.sel [] G G)⟩;unfold oth;rw [if_pos (Yv hc1)]
 try simp only [o1,o2,o3,o4,o5,o6,o7,o8,o9,oa] at hc1
 refine sS H fun K6 k6=>sf kC rfl<|sl S 0 aD G G G<|sr 3 rfl<|sE ?_;clear H a;intro a H
 refine k6 _ ?_;clear k6 K6
 refine condE H rfl (fun hc2=>?_) (fun hc2=>?_)
 ·skip
  replace H:=H.keep [4] rfl
  refine sS H fun K7 k7=>sf kD rfl<|sl S 0 aD G G G<|sr 1 rfl<|sE ?_;clear H a;intro a H
  refine k7 _ ?_;clear k7 K7
  refine wp_ret ?_
  refine ret1 (fn:=Tryz.f175) rfl H rfl ?_
  refine ⟨congrArg (Value.int .i64) ?_,(S.sel [] G G)⟩;unfold oth othr;rw [if_neg (by rw [Kp hc1];simp),if_pos hc2]
 refine sS H fun K8 k8=>sf kD rfl<|sl S 0 aD G G G<|sr 3 rfl<|sE ?_;clear H a;intro a H
 refine k8 _ ?_;clear k8 K8
 refine condE H rfl (fun hc3=>?_) (fun hc3=>?_)
 ·skip
  replace H:=H.keep [4] rfl
  refine sS H fun K9 k9=>sf kC rfl<|sl S 0 aD G G G<|sr 1 rfl<|sE ?_;clear H a;intro a H
  refine k9 _ ?_;clear k9 K9
  refine wp_ret ?_
  refine ret1 (fn:=Tryz.f175) rfl H rfl ?_
  refine ⟨congrArg (Value.int .i64) ?_,(S.sel [] G G)⟩;unfold oth othr;rw [if_neg (by rw [Kp hc1];simp),if_neg hc2,if_pos hc3]
 refine wp_skip ?_
 refine k3 _ _ ?_
 refine sS H fun K10 k10=>sr 1 rfl<|sE ?_;clear H a;intro a H
 refine k10 _ ?_;clear k10 K10
 refine wp_ret ?_
 refine ret1 (fn:=Tryz.f175) rfl H rfl ?_
 refine ⟨congrArg (Value.int .i64) ?_,(S.sel [] G G)⟩;unfold oth othr;rw [if_neg (by rw [Kp hc1];simp),if_neg hc2,if_neg hc3]
theorem Hm (P:Nat) (ps:List Psg) (PA:Option Addr) (pc:Nat) (xs:List Int) (XA:Option Addr) (xc:Nat) (out:Int) (help:Bool) (to:Int) (w:World) (hps:InS w noF 7 PA ps.length (pcell ps)) (hpn:ps.length≤9223372036854775807) (hxs:InS w noF 1 XA xs.length (icl xs)) (hxn:xs.length≤9223372036854775807) (hV:StV P ps xs) (hou:0≤out) (hto:0≤to∧to<P) :
    Calls Tryz.prog 144 [.agg [.int .i64 (P:Int),.slice PA ps.length pc,.slice XA xs.length xc,.int .i64 out,.bool help].toArray,.int .i64 to].toArray w (Ret (fun v w'=>∃ A c,v = .slice A P c∧FarOk P ps out help to.toNat (dst P ps out help to.toNat)∧St w noF [ownM 3 1 A P c (lcl (dst P ps out help to.toNat))] w')):=by
 have hP10:=hV.size
 refine enter Tryz.func144 rfl Tryz.ntmps144 rfl (fun a H=>?_)
 have S:=St.start w
 refine seq_list fun K1 k1=>?_
 refine aO H rfl S G G ?_;clear H a S;intro b2 _ a hb2 hbw2 S H
 refine ls 1 H<|sr 1 rfl<|sE ?_;clear H a;intro a H
 refine k1 _ _ ?_;clear k1 K1
 refine seq_list fun K2 k2=>?_
 refine ls 3 H<|sf sT rfl<|sf eK rfl<|sl S 0 aD G G G<|sE ?_;clear H a;intro a H
 refine kB (n:=_) H rfl S aW bC fG nF rfl (by decide) G G (by omega) (by omega) ?_;clear H a S;intro A1 _ a hA1 S H
 replace S:=S.recell (i:=0) rfl (cell':=lcl (fun i=>if i<0 then -1 else 0)) (fun k j hk hj=>Wn k j hj)
 refine ls 1 H<|sr 1 rfl<|sE ?_;clear H a;intro a H
 refine k2 _ _ ?_;clear k2 K2
 refine wp_seq_k fun K3 k3=>?_
 replace H:=H.keep [1,2,5] rfl
 refine sS H fun K4 k4=>sr 1 rfl<|sL aW rfl<|sr 1 rfl<|sE ?_;clear H a;intro a H
 refine k4 _ ?_;clear k4 K4
 refine wp_block ?_
 refine loop_st (X:=Nat) (R0:=_) [1,2,5,18] H rfl (fun k=>[(19,.int .i64 (k:Int))]) (fun k=>[ownM 3 1 A1 P P (lcl (fun i=>if i<k then -1 else 0))]) (fun g k=>k≤P∧g+k=P) (P) 0 ?_ (S.sel [0,1] G G) (H.keep [19,1,2,5,18] rfl) ?_
 · exact ⟨by omega,by omega⟩
 clear H S a
 intro g1 x1 a w1 hp S H K5 k5
 obtain ⟨k,rfl⟩:∃ y,y=x1:=⟨_,rfl⟩
 refine sS H fun K6 k6=>sr 1 rfl<|sE ?_;clear H a;intro a H
 refine k6 _ ?_;clear k6 K6
 refine wp_seq_k fun K7 k7=>?_
 refine condL H rfl (fun hc1=>?_) (fun hc1=>?_)
 ·skip
  refine wp_skip ?_
  refine k7 _ _ ?_
  refine wp_seq_k fun K8 k8=>?_
  refine wp_block ?_
  refine sS H fun K9 k9=>sr 2 rfl<|sE ?_;clear H a;intro a H
  refine k9 _ ?_;clear k9 K9
  refine one_list ?_
  refine ls 3 H<|sr 2 rfl<|si aW bC G G (ownM.adr S (i:=0) rfl (by omega)) (by omega)<|sE ?_;clear H a;intro a H
  refine cQ H S (i:=0) G G G (by omega) (by omega) bC rfl ?_
  clear H a S;intro _ a S H
  replace S:=S.recell (i:=0) rfl (cell':=lcl (fun i=>if i<k+1 then -1 else 0)) (fun q j hq hj=>Nb q j hj)
  refine k8 _ _ ?_
  refine sO H<|sd (aK G G (by unfold i64ok;omega))<|sr 1 rfl<|sE ?_;clear H a;intro a H
  exact k5 (g1-1) (k+1) a _ (by omega) (⟨by omega,by omega⟩) (S.sel [0,1] G G) (H.keep [19,1,2,5,18] rfl)
 refine wp_exit ?_
 refine k3 _ _ ?_
 replace H:=H.keep [1,2,5] rfl
 refine seq_list fun K12 k12=>?_
 refine ls 3 H<|sr 2 rfl<|sI aW bC G G (ownM.adr S (i:=0) rfl (by omega)) (by omega) (by omega)<|sE ?_;clear H a;intro a H
 refine cQ H S (i:=0) G G G (by omega) (by omega) bC rfl ?_
 clear H a S;intro _ a S H
 replace S:=S.recell (i:=0) rfl (cell':=lcl (tk0 to.toNat)) (fun q j hq hj=>Nc (by omega) q j hq hj)
 refine k12 _ _ ?_;clear k12 K12
 refine wp_seq_k fun K13 k13=>?_
 refine sS H fun K14 k14=>sr 1 rfl<|sE ?_;clear H a;intro a H
 refine k14 _ ?_;clear k14 K14
 refine wp_block ?_
 refine loop_st (X:=(Nat→Int)×Bool) (R0:=_) [2,5] H rfl (fun ⟨tk,mo⟩=>[(7,.bool mo)]) (fun ⟨tk,mo⟩=>[ownM 3 1 A1 P P (lcl tk)]) (fun g ⟨tk,mo⟩=>FarI P ps out help to.toNat tk∧potF P tk+b2i mo≤(g:Int)∧(mo=false→∀ i,i<P→∀ k,k<ps.length→FixAt ps out help tk i k)) ((potF P (tk0 to.toNat)+1).toNat) (tk0 to.toNat,true) ?_ (S.sel [0,1] G G) (H.keep [7,2,5] rfl) ?_
 · exact ⟨FarI.init (by omega),by have:=Ea (P:=P) (tk:=tk0 to.toNat);show potF P (tk0 to.toNat)+1≤_;omega,fun h=>by cases h⟩
 clear H S a
 intro g2 x2 a w2 hp S H K15 k15
 obtain ⟨tk,mo⟩:=x2
 dsimp only at hp S H
 obtain ⟨hI,hpot,hfx⟩:=hp
 have hpn0:=Ea (P:=P) (tk:=tk)
 refine wp_seq_k fun K16 k16=>?_
 refine sS H fun K17 k17=>sr 1 rfl<|sE ?_;clear H a;intro a H
 refine k17 _ ?_;clear k17 K17
 refine cond_ H rfl (fun hc2=>?_) (fun hc2=>?_)
 ·skip
  try simp only [o1,o2,o3,o4,o5,o6,o7,o8,o9,oa] at hc2
  have hb9:=Zm hc2
  refine wp_skip ?_
  refine k16 _ _ ?_
  refine wp_block ?_
  refine sS H fun K18 k18=>sr 1 rfl<|sE ?_;clear H a;intro a H
  refine k18 _ ?_;clear k18 K18
  refine sS H fun K19 k19=>sf sT rfl<|sf eK rfl<|sl S 1 aD G G G<|sr 1 rfl<|sE ?_;clear H a;intro a H
  refine k19 _ ?_;clear k19 K19
  refine wp_block ?_
  refine loop_st (X:=Nat×(Nat→Int)×Bool) (R0:=_) [2,5,32] H rfl (fun ⟨f,tk1,m1⟩=>[(7,.bool m1),(33,.int .i64 (f:Int))]) (fun ⟨f,tk1,m1⟩=>[ownM 3 1 A1 P P (lcl tk1)]) (fun g ⟨f,tk1,m1⟩=>f≤P∧g+f=P∧FarI P ps out help to.toNat tk1∧potF P tk1+b2i m1≤potF P tk∧(m1=false→∀ i,i<f→∀ k,k<ps.length→FixAt ps out help tk1 i k)) (P) (0,tk,false) ?_ (S.sel [0,1] G G) (H.keep [7,33,2,5,32] rfl) ?_
  · exact ⟨by omega,by omega,hI,by show potF P tk+0≤_;omega,fun _ i hi=>absurd hi (Nat.not_lt_zero i)⟩
  clear H S a
  intro g3 x3 a w3 hp S H K20 k20
  obtain ⟨f,tk1,m1⟩:=x3
  dsimp only at hp S H
  obtain ⟨hfP,hgf,hI1,hpot1,hfx1⟩:=hp
  refine sS H fun K21 k21=>sr 1 rfl<|sE ?_;clear H a;intro a H
  refine k21 _ ?_;clear k21 K21
  refine wp_seq_k fun K22 k22=>?_
  refine condL H rfl (fun hc3=>?_) (fun hc3=>?_)
  ·skip
   refine wp_skip ?_
   refine k22 _ _ ?_
   refine wp_seq_k fun K23 k23=>?_
   refine wp_block ?_
   refine sS H fun K24 k24=>sr 2 rfl<|sE ?_;clear H a;intro a H
   refine k24 _ ?_;clear k24 K24
   refine sS H fun K25 k25=>sf sT rfl<|sf fM rfl<|sl S 1 iP G G G<|sL jD rfl<|sr 1 rfl<|sE ?_;clear H a;intro a H
   refine k25 _ ?_;clear k25 K25
   refine wp_block ?_
   refine loop_st (X:=Nat×(Nat→Int)×Bool) (R0:=_) [2,5,8,32,33,38,39] H rfl (fun ⟨k,tk2,m2⟩=>[(7,.bool m2),(40,.int .i64 (k:Int))]) (fun ⟨k,tk2,m2⟩=>[ownM 3 1 A1 P P (lcl tk2)]) (fun g ⟨k,tk2,m2⟩=>k≤ps.length∧g+k=ps.length∧FarI P ps out help to.toNat tk2∧potF P tk2+b2i m2≤potF P tk∧(m2=false→(∀ i,i<f→∀ k,k<ps.length→FixAt ps out help tk2 i k)∧∀ q,q<k→FixAt ps out help tk2 f q)) (ps.length) (0,tk1,m1) ?_ (S.sel [0,1] G G) (H.keep [7,40,2,5,8,32,33,38,39] rfl) ?_
   · exact ⟨by omega,by omega,hI1,hpot1,fun h=>⟨hfx1 h,fun q hq=>absurd hq (Nat.not_lt_zero q)⟩⟩
   clear H S a
   intro g4 x4 a w4 hp S H K26 k26
   obtain ⟨k,tk2,m2⟩:=x4
   dsimp only at hp S H
   obtain ⟨hkl,hgk,hI2,hpot2,hfx2⟩:=hp
   refine sS H fun K27 k27=>sr 1 rfl<|sE ?_;clear H a;intro a H
   refine k27 _ ?_;clear k27 K27
   refine wp_seq_k fun K28 k28=>?_
   refine condL H rfl (fun hc4=>?_) (fun hc4=>?_)
   ·skip
    refine wp_skip ?_
    refine k28 _ _ ?_
    refine wp_seq_k fun K29 k29=>?_
    refine wp_block ?_
    refine seq_list fun K30 k30=>?_
    refine ls 2 H<|si jD eV G G (hps.adr (by omega)) (by omega)<|sd ((aU kU eV rfl S hps (by omega) (by omega)))<|sE ?_;clear H a;intro a H
    refine aI H rfl S sX ?_;clear H a S;intro b10 _ a hb10 hbw10 S H
    refine aB H S (i:=0) G G G G eV G G ?_
    clear H a S;intro _ a S H
    refine k30 _ _ ?_;clear k30 K30
    replace H:=H.keep [2,5,7,8,10,32,33,38,39,40] rfl
    refine seq_list fun K31 k31=>?_
    refine ls 3 H<|sd ((aE Ds Jo rfl S (i:=2) G G))<|sd ((aE kU eV rfl S (i:=0) G G))<|sr 1 rfl<|sE ?_;clear H a;intro a H
    refine aA H G G Tryz.func175 G G (Ah P ps PA pc xs XA xc out help (ps.getD k Psg.zero) (f:Int) _ (hV.mch k (by omega)) hou) ?_;clear H a
    rintro _ _ a ⟨rfl,S2⟩ H
    replace S:=S.call S2;clear S2
    have hoi:0≤oth out help (ps.getD k Psg.zero) (f:Int)→oth out help (ps.getD k Psg.zero) (f:Int)<P:=fun h=>(tC hV.psv (show k<ps.length by omega) h).2.1
    have htb:=(hV.psv k (by omega)).2.2
    refine ls 1 H<|sr 1 rfl<|sE ?_;clear H a;intro a H
    refine k31 _ _ ?_;clear k31 K31
    refine wp_seq_k fun K32 k32=>?_
    replace H:=H.keep [2,5,7,8,10,11,32,33,38,39,40] rfl
    refine sS H fun K33 k33=>sr 3 rfl<|sg 5 2 50 55 false G G (fun hg3=>by
        have hq3:=hg3;try simp only [o1,o2,o3,o4,o5,o6,o7,o8,o9,oa] at hq3
        exact sy hg3<|sr 1 rfl<|sy hg3<|sr 1 rfl<|sy hg3<|sI aW bC G G (ownM.adr S (i:=1) rfl (by omega)) (by omega) (by omega)<|sy hg3<|slm aD rfl (ownM.rd S (i:=1) rfl (by omega) (by omega))<|sy hg3<|sr 1 rfl<|sz 5 G G G)<|so G G G<|sE ?_;clear H a;intro a H
    refine k33 _ ?_;clear k33 K33
    refine cond_ H rfl (fun hc5=>?_) (fun hc5=>?_)
    ·skip
     try simp only [o1,o2,o3,o4,o5,o6,o7,o8,o9,oa] at hc5
     refine wp_exit ?_
     refine k29 _ _ ?_
     replace H:=H.keep [2,5,7,8,32,33,38,39,40] rfl
     refine sO H<|sd (aK G G (by unfold i64ok;omega))<|sr 1 rfl<|sE ?_;clear H a;intro a H
     exact k26 (g4-1) (k+1,_,_) a _ (by omega) (by first|exact ⟨by omega,by omega,hI2.up hV.psv (by omega) (by omega) (by omega) (by omega) (by omega) (by omega) (by omega) hpot2⟩|exact ⟨by omega,by omega,hI2,hpot2,xA (P:=P) hfx2 (tD (by omega))⟩) (S.sel [1,2] G G) (H.keep [7,40,2,5,8,32,33,38,39] rfl)
    try simp only [o1,o2,o3,o4,o5,o6,o7,o8,o9,oa] at hc5
    refine wp_skip ?_
    refine k32 _ _ ?_
    have hsm:=hI2.small (by omega) (i:=(oth out help (ps.getD k Psg.zero) f).toNat) (by omega)
    replace H:=H.keep [2,5,7,8,10,11,32,33,38,39,40] rfl
    replace S:=S.drew
    refine sD H fun K35 k35=>sr 2 rfl<|sI aW bC G G (ownM.adr S (i:=1) rfl (by omega)) (by omega) (by omega)<|slm aD rfl (ownM.rd S (i:=1) rfl (by omega) (by omega))<|sf sJ rfl<|sl S 0 aD G G G<|sd (aK G G (by unfold i64ok;omega))<|sr 1 rfl<|sE ?_;clear H a;intro a H
    refine k35 _ ?_;clear k35 K35
    replace H:=H.keep [2,5,7,8,12,32,33,38,39,40] rfl
    refine sS H fun K36 k36=>sr 2 rfl<|si aW bC G G (ownM.adr S (i:=1) rfl (by omega)) (by omega)<|slm aD rfl (ownM.rd S (i:=1) rfl (by omega) (by omega))<|sr 2 rfl<|sg 6 5 69 75 false G G (fun hg6=>by
        have hq6:=hg6;try simp only [o1,o2,o3,o4,o5,o6,o7,o8,o9,oa] at hq6
        exact sy hg6<|sr 1 rfl<|sy hg6<|sr 1 rfl<|sy hg6<|sr 1 rfl<|sy hg6<|si aW bC G G (ownM.adr S (i:=1) rfl (by omega)) (by omega)<|sy hg6<|slm aD rfl (ownM.rd S (i:=1) rfl (by omega) (by omega))<|sy hg6<|sr 1 rfl<|sz 6 G G G)<|so G G G<|sE ?_;clear H a;intro a H
    refine k36 _ ?_;clear k36 K36
    refine cond_ H rfl (fun hc6=>?_) (fun hc6=>?_)
    ·skip
     try simp only [o1,o2,o3,o4,o5,o6,o7,o8,o9,oa] at hc6
     replace H:=H.keep [2,5,8,12,32,33,38,39,40] rfl
     refine one_list ?_
     refine ls 4 H<|sr 3 rfl<|si aW bC G G (ownM.adr S (i:=1) rfl (by omega)) (by omega)<|sE ?_;clear H a;intro a H
     refine cQ H S (i:=1) G G G (by omega) (by omega) bC rfl ?_
     clear H a S;intro _ a S H
     replace S:=S.recell (i:=1) rfl (cell':=lcl (upd tk2 f (tk2 (oth out help (ps.getD k Psg.zero) f).toNat+(ps.getD k Psg.zero).ticks))) (fun q j hq hj=>Ru q j hj)
     refine ls 1 H<|sr 1 rfl<|sE ?_;clear H a;intro a H
     refine k29 _ _ ?_
     refine sO H<|sd (aK G G (by unfold i64ok;omega))<|sr 1 rfl<|sE ?_;clear H a;intro a H
     exact k26 (g4-1) (k+1,_,_) a _ (by omega) (by first|exact ⟨by omega,by omega,hI2.up hV.psv (by omega) (by omega) (by omega) (by omega) (by omega) (by omega) (by omega) hpot2⟩|exact ⟨by omega,by omega,hI2,hpot2,xA (P:=P) hfx2 (tD (by omega))⟩) (S.sel [1,2] G G) (H.keep [7,40,2,5,8,32,33,38,39] rfl)
    try simp only [o1,o2,o3,o4,o5,o6,o7,o8,o9,oa] at hc6
    refine wp_skip ?_
    refine k29 _ _ ?_
    replace H:=H.keep [2,5,7,8,32,33,38,39,40] rfl
    refine sO H<|sd (aK G G (by unfold i64ok;omega))<|sr 1 rfl<|sE ?_;clear H a;intro a H
    exact k26 (g4-1) (k+1,_,_) a _ (by omega) (by first|exact ⟨by omega,by omega,hI2.up hV.psv (by omega) (by omega) (by omega) (by omega) (by omega) (by omega) (by omega) hpot2⟩|exact ⟨by omega,by omega,hI2,hpot2,xA (P:=P) hfx2 (tD (by omega))⟩) (S.sel [1,2] G G) (H.keep [7,40,2,5,8,32,33,38,39] rfl)
   refine wp_exit ?_
   refine k23 _ _ ?_
   refine sO H<|sd (aK G G (by unfold i64ok;omega))<|sr 1 rfl<|sE ?_;clear H a;intro a H
   exact k20 (g3-1) (f+1,tk2,m2) a _ (by omega) (⟨by omega,by omega,hI2,hpot2,Vo (P:=P) (by omega) hfx2⟩) (S.sel [0,1] G G) (H.keep [7,33,2,5,32] rfl)
  refine wp_exit ?_
  exact k15 (g2-1) (tk1,m1) a _ (by omega) (⟨hI1,by omega,Wm (by omega) hfx1⟩) (S.sel [0,1] G G) (H.keep [7,2,5] rfl)
 try simp only [o1,o2,o3,o4,o5,o6,o7,o8,o9,oa] at hc2
 refine wp_exit ?_
 refine k13 _ _ ?_
 refine sS H fun K41 k41=>sr 2 rfl<|sE ?_;clear H a;intro a H
 refine k41 _ ?_;clear k41 K41
 refine wp_ret ?_
 refine ret1 (fn:=Tryz.f144) rfl H rfl ?_
 have hmf:mo=false:=by (cases mo <;> simp_all)
 have hok:=hI.done (by omega) (hfx hmf)
 have hdo:=Vp hV.psv (by omega) hok
 replace S:=S.recell (i:=0) rfl (cell':=lcl (dst P ps out help to.toNat)) (fun q j hq hj=>by unfold lcl;rw [nG hV.psv hok hq])
 exact ⟨_,_,rfl,hdo,(S.sel [0] G G)⟩
theorem xO (P:Nat) (ps:List Psg) (PA:Option Addr) (pc:Nat) (xs:List Int) (XA:Option Addr) (xc:Nat) (out:Int) (help:Bool) (fr to:Int) (w:World) (hps:InS w noF 7 PA ps.length (pcell ps)) (hpn:ps.length≤9223372036854775807) (hxs:InS w noF 1 XA xs.length (icl xs)) (hxn:xs.length≤9223372036854775807) (hV:StV P ps xs) (hou:0≤out) (hfr:0≤fr∧fr<P) (hto:0≤to∧to<P) :
    Calls Tryz.prog 107 [.agg [.int .i64 (P:Int),.slice PA ps.length pc,.slice XA xs.length xc,.int .i64 out,.bool help].toArray,.int .i64 fr,.int .i64 to].toArray w (Ret (fun v w'=>v = .bool (decide (0≤dst P ps out help to.toNat fr.toNat))∧FarOk P ps out help to.toNat (dst P ps out help to.toNat)∧St w noF [] w')):=by
 refine enter Tryz.func107 rfl Tryz.ntmps107 rfl (fun a H=>?_)
 have S:=St.start w
 refine seq_list fun K1 k1=>?_
 refine aO H rfl S G G ?_;clear H a S;intro b3 _ a hb3 hbw3 S H
 refine ls 1 H<|sr 1 rfl<|sE ?_;clear H a;intro a H
 refine k1 _ _ ?_;clear k1 K1
 replace H:=H.keep [1,2,3] rfl
 refine seq_list fun K2 k2=>?_
 refine ls 2 H<|sd ((aE Ds Jo rfl S (i:=0) G G))<|sr 1 rfl<|sE ?_;clear H a;intro a H
 refine aA H G G Tryz.func144 G G (Hm P ps PA pc xs XA xc out help to _ (hps.now S) hpn (hxs.now S) hxn hV hou hto) ?_;clear H a
 rintro _ _ a ⟨A5,c5,rfl,hdo,S2⟩ H
 replace S:=S.call S2;clear S2
 refine ls 5 H<|sr 1 rfl<|sI aW bC G G (ownM.adr S (i:=0) rfl (by omega)) (by omega) (by omega)<|slm aD rfl (ownM.rd S (i:=0) rfl (by omega) (by omega))<|sr 2 rfl<|sE ?_;clear H a;intro a H
 refine k2 _ _ ?_;clear k2 K2
 refine wp_ret ?_
 refine ret1 (fn:=Tryz.f107) rfl H rfl ?_
 exact ⟨rfl,hdo,(S.sel [] G G)⟩
end
section
theorem Ai {pl a b:Int}:plOk pl [a,b]=true↔(0≤a∧a≤pl-1)∧(0≤b∧b≤pl-1):=by
  unfold plOk
  rw [cC]
  constructor
  · intro h
    have h0:=h 0 (show 0<2 by omega)
    have h1:=h 1 (show 1<2 by omega)
    exact ⟨of_decide_eq_true h0,of_decide_eq_true h1⟩
  · rintro ⟨h0,h1⟩ k hk
    match k,hk with
    | 0,_=>exact decide_eq_true h0
    | 1,_=>exact decide_eq_true h1
theorem Cs {pl a b:Int} (h:plOk pl [a,b]=false):¬ ((0≤a∧a≤pl-1)∧(0≤b∧b≤pl-1)):=fun h2=>by rw [Ai.2 h2] at h;cases h
section
variable {pl:Int} {ps:List Psg} {xs:List Int} {day:List Hq} {l:List Prm}
theorem tW (h:stE pl ps xs≠0):keptE pl ps xs day l=stE pl ps xs:=by
  have:dayE pl ps xs day=stE pl ps xs:=by unfold dayE;rw [if_pos h]
  unfold keptE;rw [this,if_pos h]
theorem vM (h:stE pl ps xs=0) (hd:dayOk pl day=false):keptE pl ps xs day l=81:=by
  have:dayE pl ps xs day=81:=by unfold dayE;rw [if_neg (by omega),if_neg (by rw [hd];simp)]
  unfold keptE;rw [this];rfl
theorem vN (h:stE pl ps xs=0) (hd:dayOk pl day=true):dayE pl ps xs day=0:=by unfold dayE;rw [if_neg (by omega),if_pos hd]
theorem mP (h:dayE pl ps xs day=0) (hd:prsOk pl l=false):keptE pl ps xs day l=82:=by unfold keptE;rw [if_neg (by omega),if_neg (by rw [hd];simp)]
theorem tX (h:dayE pl ps xs day=0) (hd:prsOk pl l=true):keptE pl ps xs day l=0:=by unfold keptE;rw [if_neg (by omega),if_pos hd]
theorem Aj (h:¬ l.length≤40):prsOk pl l=false:=by unfold prsOk;rw [decide_eq_false h,Bool.and_false]
theorem Eu {k:Nat} (hk:k<l.length) (h:prmOk pl (l.getD k Prm.zero)=false):prsOk pl l=false:=by unfold prsOk;rw [fW hk h];rfl
theorem Ev (h:allN (fun k=>prmOk pl (l.getD k Prm.zero)) l.length=true) (h2:l.length≤40):prsOk pl l=true:=by unfold prsOk;rw [h,decide_eq_true h2];rfl
theorem Nd {p:Prm} (h:¬ (0≤p.fr∧p.fr≤pl-1∧0≤p.to∧p.to≤pl-1∧0≤p.first∧p.first≤p.last∧p.last<48)):prmOk pl p=false:=by unfold prmOk;exact decide_eq_false h
theorem Ne {P:Nat} {h:Hq} {n:Nat} {p:Prm} (h1:p.first≤(n:Int)∧(n:Int)≤p.last) (h2:dst P ps h.out (h.help&&p.helped) p.to.toNat p.fr.toNat<0):fH P ps h n p=true:=by
  unfold fH;rw [decide_eq_true h1.1,decide_eq_true h1.2,decide_eq_true h2];rfl
theorem Hn {P:Nat} {h:Hq} {n:Nat} {p:Prm} (h1:¬ (p.first≤(n:Int)∧(n:Int)≤p.last)):fH P ps h n p=false:=by
  unfold fH
  by_cases h2:p.first≤(n:Int)
  · rw [decide_eq_false (p:=(n:Int)≤p.last) (by omega),Bool.and_false];rfl
  · rw [decide_eq_false h2];rfl
theorem Ho {P:Nat} {h:Hq} {n:Nat} {p:Prm} (h2:¬ dst P ps h.out (h.help&&p.helped) p.to.toNat p.fr.toNat<0):fH P ps h n p=false:=by
  unfold fH;rw [decide_eq_false h2,Bool.and_false]
end
theorem Ct (pl:Int) (ps:List Psg) (PA:Option Addr) (pc:Nat) (xs:List Int) (XA:Option Addr) (xc:Nat) (day:List Hq) (HA:Option Addr) (hcp:Nat) (DA:Nat→Option Addr) (dc:Nat→Nat) (w:World) (hps:InS w noF 7 PA ps.length (pcell ps)) (hpn:ps.length≤9223372036854775807) (hxs:InS w noF 1 XA xs.length (icl xs)) (hxn:xs.length≤9223372036854775807) (hday:InS w noF 3 HA day.length (hcl day DA dc)) (hdn:day.length≤9223372036854775807) (hdp:∀ k,k<day.length→InS w noF 1 (DA k) (day.getD k Hq.zero).pe.length (icl (day.getD k Hq.zero).pe)) (hdl:∀ k,k<day.length→(day.getD k Hq.zero).pe.length≤9223372036854775807) :
    Calls Tryz.prog 103 [.agg [.int .i64 pl,.slice PA ps.length pc,.slice XA xs.length xc].toArray,.slice HA day.length hcp].toArray w (Ret (fun v w'=>v = .bool (dayOk pl day)∧St w noF [] w')):=by
 refine enter Tryz.func103 rfl Tryz.ntmps103 rfl (fun a H=>?_)
 have S:=St.start w
 refine seq_list fun K1 k1=>?_
 refine aO H rfl S G G ?_;clear H a S;intro b2 _ a hb2 hbw2 S H
 refine ls 1 H<|sr 1 rfl<|sE ?_;clear H a;intro a H
 refine k1 _ _ ?_;clear k1 K1
 refine wp_seq_k fun K2 k2=>?_
 refine sS H fun K3 k3=>sr 1 rfl<|sL jW rfl<|sr 1 rfl<|sE ?_;clear H a;intro a H
 refine k3 _ ?_;clear k3 K3
 refine wp_block ?_
 refine loop_st (X:=Nat) (R0:=_) [1,2,7,8] H rfl (fun k=>[(9,.int .i64 (k:Int))]) (fun k=>[]) (fun g k=>k≤day.length∧g+k=day.length∧allN (fun k=>hqOk pl (day.getD k Hq.zero)) k=true) (day.length) 0 ?_ (S.sel [0] G G) (H.keep [9,1,2,7,8] rfl) ?_
 · exact ⟨by omega,by omega,rfl⟩
 clear H S a
 intro g1 x1 a w1 hp S H K4 k4
 obtain ⟨k,rfl⟩:∃ y,y=x1:=⟨_,rfl⟩
 refine sS H fun K5 k5=>sr 1 rfl<|sE ?_;clear H a;intro a H
 refine k5 _ ?_;clear k5 K5
 refine wp_seq_k fun K6 k6=>?_
 refine condL H rfl (fun hc1=>?_) (fun hc1=>?_)
 ·skip
  refine wp_skip ?_
  refine k6 _ _ ?_
  refine wp_seq_k fun K7 k7=>?_
  refine wp_block ?_
  refine seq_list fun K8 k8=>?_
  refine ls 2 H<|si jW kX G G (hday.adr (by omega)) (by omega)<|sd ((aU Dp kX rfl S hday (by omega) (by omega)))<|sE ?_;clear H a;intro a H
  refine aI H rfl S Kd ?_;clear H a S;intro b6 _ a hb6 hbw6 S H
  refine aB H S (i:=0) G G G G kX G G ?_
  clear H a S;intro _ a S H
  refine k8 _ _ ?_;clear k8 K8
  replace H:=H.keep [1,2,6,7,8,9] rfl
  refine seq_list fun K9 k9=>?_
  refine ls 2 H<|sf oL rfl<|sl S 0 aD G G G<|sE ?_;clear H a;intro a H
  refine aA H G G Tryz.func104 G G (cT _ _ _ _) ?_;clear H a
  rintro _ _ a ⟨rfl,rfl⟩ H
  refine ls 2 H<|sr 2 rfl<|sE ?_;clear H a;intro a H
  apply cI (i:=4) (g:=17) (t:=22) (b:=false) 5 H S G G (by kernel_rfl) (by kernel_rfl) G G
  case h1=>
   intro hg5
   have hq5:=hg5;try simp only [o1,o2,o3,o4,o5,o6,o7,o8,o9,oa] at hq5
   refine ls 3 H<|sy hg5<|sd ((aE eR gY rfl S (i:=1) G G))<|sy hg5<|sf yZ rfl<|sy hg5<|sl S 0 bR G G G<|sE ?_;intro a H
   refine dB H G G (by assumption) ?_
   refine aA H G G Tryz.func140 G G (Cp pl ps PA pc xs XA xc (day.getD k Hq.zero).pe (DA k) (dc k) _ ((hdp k (by omega)).now S) (hdl k (by omega))) ?_
   rintro _ _ a ⟨rfl,S2⟩ H
   replace S:=S.call S2;clear S2
   refine ls 1 H<|sy hg5<|sr 1 rfl<|sE ?_;intro a H
   exact wpList_nil ⟨H.strip 5 G G,(S.sel [0,1] G G)⟩
  clear H a S;intro a _ H S
  refine ls 1 H<|so G G G<|sE ?_;clear H a;intro a H
  refine k9 _ _ ?_;clear k9 K9
  refine cond_ H rfl (fun hc2=>?_) (fun hc2=>?_)
  ·skip
   try simp only [o1,o2,o3,o4,o5,o6,o7,o8,o9,oa] at hc2
   replace H:=H.keep [] rfl
   refine sS H fun K10 k10=>sr 1 rfl<|sE ?_;clear H a;intro a H
   refine k10 _ ?_;clear k10 K10
   refine wp_ret ?_
   refine ret1 (fn:=Tryz.f103) rfl H rfl ?_
   exact ⟨congrArg Value.bool (tF (k:=k) (by omega) (by unfold hqOk;rcases hc2 with h|h;(rw [decide_eq_false (by omega)];rfl);(rw [h,Bool.and_false]))).symm,(S.sel [] rfl rfl)⟩
  try simp only [o1,o2,o3,o4,o5,o6,o7,o8,o9,oa] at hc2
  refine wp_skip ?_
  refine k7 _ _ ?_
  refine sO H<|sd (aK G G (by unfold i64ok;omega))<|sr 1 rfl<|sE ?_;clear H a;intro a H
  exact k4 (g1-1) (k+1) a _ (by omega) (⟨by omega,by omega,cN hp.2.2 (by unfold hqOk;rw [decide_eq_true (by omega),hc2.2];rfl)⟩) (S.sel [1] G G) (H.keep [9,1,2,7,8] rfl)
 refine wp_exit ?_
 refine k2 _ _ ?_
 refine sS H fun K12 k12=>sr 1 rfl<|sL jW rfl<|sr 2 rfl<|sE ?_;clear H a;intro a H
 refine k12 _ ?_;clear k12 K12
 refine wp_ret ?_
 refine ret1 (fn:=Tryz.f103) rfl H rfl ?_
 obtain rfl:k=day.length:=by omega
 refine ⟨congrArg Value.bool ?_,(S.sel [] G G)⟩
 rw [zL hp.2.2]
 exact decide_eq_decide.2 (by omega)
theorem Hp (pl:Int) (ps:List Psg) (PA:Option Addr) (pc:Nat) (xs:List Int) (XA:Option Addr) (xc:Nat) (day:List Hq) (HA:Option Addr) (hcp:Nat) (DA:Nat→Option Addr) (dc:Nat→Nat) (l:List Prm) (LA:Option Addr) (lc:Nat) (w:World) (hps:InS w noF 7 PA ps.length (pcell ps)) (hpn:ps.length≤9223372036854775807) (hxs:InS w noF 1 XA xs.length (icl xs)) (hxn:xs.length≤9223372036854775807) (hday:InS w noF 3 HA day.length (hcl day DA dc)) (hdn:day.length≤9223372036854775807) (hdp:∀ k,k<day.length→InS w noF 1 (DA k) (day.getD k Hq.zero).pe.length (icl (day.getD k Hq.zero).pe)) (hdl:∀ k,k<day.length→(day.getD k Hq.zero).pe.length≤9223372036854775807) (hl:InS w noF 5 LA l.length (nH l)) (hln:l.length≤9223372036854775807) :
    Calls Tryz.prog 70 [.agg [.int .i64 pl,.slice PA ps.length pc,.slice XA xs.length xc].toArray,.slice HA day.length hcp,.slice LA l.length lc].toArray w (Ret (fun u w'=>u = .tuple #[.int .i64 (keptV pl ps xs day l).1,.int .i64 (keptV pl ps xs day l).2.1,.bool (keptV pl ps xs day l).2.2.1,.int .i64 (keptV pl ps xs day l).2.2.2]∧St w noF [] w')):=by
 refine enter Tryz.func70 rfl Tryz.ntmps70 rfl (fun a H=>?_)
 have S:=St.start w
 refine seq_list fun K1 k1=>?_
 refine aO H rfl S G G ?_;clear H a S;intro b3 _ a hb3 hbw3 S H
 refine ls 4 H<|sr 4 rfl<|sE ?_;clear H a;intro a H
 refine k1 _ _ ?_;clear k1 K1
 refine wp_seq_k fun K2 k2=>?_
 refine seq_list fun K3 k3=>?_
 refine ls 1 H<|sd ((aE eR gY rfl S (i:=0) G G))<|sE ?_;clear H a;intro a H
 refine aA H G G Tryz.func102 G G (Co pl ps PA pc xs XA xc _ (hps.now S) hpn (hxs.now S) hxn) ?_;clear H a
 rintro _ _ a ⟨rfl,S2⟩ H
 replace S:=S.call S2;clear S2
 refine ls 1 H<|sr 1 rfl<|sE ?_;clear H a;intro a H
 refine k3 _ _ ?_;clear k3 K3
 replace H:=H.keep [1,2,3,9] rfl
 refine sS H fun K4 k4=>sr 2 rfl<|sE ?_;clear H a;intro a H
 refine k4 _ ?_;clear k4 K4
 refine condN H rfl (fun hc1=>?_) (fun hc1=>?_)
 ·skip
  refine sS H fun K5 k5=>sr 5 rfl<|sE ?_;clear H a;intro a H
  refine k5 _ ?_;clear k5 K5
  refine wp_ret ?_
  refine ret4 (fn:=Tryz.f70) rfl H G G G G ?_
  rw [oU (by rw [tW hc1];exact hc1),tW hc1]
  exact ⟨rfl,(S.sel [] G G)⟩
 have hst:stE pl ps xs=0:=by omega
 have hV0:=oR hst
 obtain ⟨P,rfl⟩:∃ P:Nat,pl=P:=⟨pl.toNat,by have:=hV0.size;omega⟩
 have hV:=hV0
 have hP10:=hV.size
 refine wp_skip ?_
 refine k2 _ _ ?_
 refine wp_seq_k fun K6 k6=>?_
 replace H:=H.keep [1,2,3] rfl
 refine seq_list fun K7 k7=>?_
 refine ls 2 H<|sd ((aE eR gY rfl S (i:=0) G G))<|sr 1 rfl<|sE ?_;clear H a;intro a H
 refine aA H G G Tryz.func103 G G (Ct P ps PA pc xs XA xc day HA hcp DA dc _ (hps.now S) hpn (hxs.now S) hxn (hday.now S) hdn (fun k hk=>(hdp k hk).now S) hdl) ?_;clear H a
 rintro _ _ a ⟨rfl,S2⟩ H
 replace S:=S.call S2;clear S2
 refine ls 1 H<|sr 1 rfl<|sE ?_;clear H a;intro a H
 refine k7 _ _ ?_;clear k7 K7
 refine cond_ H rfl (fun hc2=>?_) (fun hc2=>?_)
 ·skip
  try simp only [o1,o2,o3,o4,o5,o6,o7,o8,o9,oa] at hc2
  refine sS H fun K8 k8=>sr 4 rfl<|sE ?_;clear H a;intro a H
  refine k8 _ ?_;clear k8 K8
  refine wp_ret ?_
  refine ret4 (fn:=Tryz.f70) rfl H G G G G ?_
  rw [oU (by rw [vM hst hc2];decide),vM hst hc2]
  exact ⟨rfl,(S.sel [] G G)⟩
 try simp only [o1,o2,o3,o4,o5,o6,o7,o8,o9,oa] at hc2
 have hdE:=vN hst hc2
 have hdk:=Kz hc2
 refine wp_skip ?_
 refine k6 _ _ ?_
 refine wp_seq_k fun K9 k9=>?_
 replace H:=H.keep [1,2,3] rfl
 refine sS H fun K10 k10=>sr 1 rfl<|sL oF rfl<|sr 1 rfl<|sE ?_;clear H a;intro a H
 refine k10 _ ?_;clear k10 K10
 refine condL H rfl (fun hc3=>?_) (fun hc3=>?_)
 ·skip
  refine sS H fun K11 k11=>sr 4 rfl<|sE ?_;clear H a;intro a H
  refine k11 _ ?_;clear k11 K11
  refine wp_ret ?_
  refine ret4 (fn:=Tryz.f70) rfl H G G G G ?_
  have e9:=mP hdE (Aj (l:=l) (by omega))
  rw [oU (by rw [e9];decide),e9]
  exact ⟨rfl,(S.sel [] G G)⟩
 refine wp_skip ?_
 refine k9 _ _ ?_
 refine wp_seq_k fun K12 k12=>?_
 replace H:=H.keep [1,2,3] rfl
 refine sS H fun K13 k13=>sr 1 rfl<|sL oF rfl<|sr 1 rfl<|sE ?_;clear H a;intro a H
 refine k13 _ ?_;clear k13 K13
 refine wp_block ?_
 refine loop_st (X:=Nat) (R0:=_) [1,2,3,28,29] H rfl (fun k=>[(30,.int .i64 (k:Int))]) (fun k=>[]) (fun g k=>k≤l.length∧g+k=l.length∧allN (fun k=>prmOk P (l.getD k Prm.zero)) k=true) (l.length) 0 ?_ (S.sel [0] G G) (H.keep [30,1,2,3,28,29] rfl) ?_
 · exact ⟨by omega,by omega,rfl⟩
 clear H S a
 intro g1 x1 a w1 hp S H K14 k14
 obtain ⟨k,rfl⟩:∃ y,y=x1:=⟨_,rfl⟩
 refine sS H fun K15 k15=>sr 1 rfl<|sE ?_;clear H a;intro a H
 refine k15 _ ?_;clear k15 K15
 refine wp_seq_k fun K16 k16=>?_
 refine condL H rfl (fun hc4=>?_) (fun hc4=>?_)
 ·skip
  refine wp_skip ?_
  refine k16 _ _ ?_
  refine wp_seq_k fun K17 k17=>?_
  refine wp_block ?_
  refine seq_list fun K18 k18=>?_
  refine ls 2 H<|si oF oD G G (hl.adr (by omega)) (by omega)<|sd ((aU Bq oD rfl S hl (by omega) (by omega)))<|sE ?_;clear H a;intro a H
  refine aI H rfl S Ka ?_;clear H a S;intro b11 _ a hb11 hbw11 S H
  refine aB H S (i:=0) G G G G oD G G ?_
  clear H a S;intro _ a S H
  refine k18 _ _ ?_;clear k18 K18
  replace H:=H.keep [1,2,3,11,28,29,30] rfl
  refine seq_list fun K19 k19=>?_
  refine ls 5 H<|sd ((aE eR gY rfl S (i:=1) G G))<|sf wS rfl<|sl S 0 aD G G G<|sf wT rfl<|sl S 0 aD G G G<|sE ?_;clear H a;intro a H
  refine bB H rfl S aW bC fG G G G G G G G G G ?_;clear H a S;intro A1 _ a hA1 S H
  refine aA H G G Tryz.func106 G G (Cq P ps PA pc xs XA xc [(l.getD k Prm.zero).fr,(l.getD k Prm.zero).to] _ _ _ ((ownM.inS S (i:=0) rfl).congr (fun k j hk hj=>Gk k j hk hj)) (show 2≤9223372036854775807 by omega) (by omega)) ?_;clear H a
  rintro _ _ a ⟨rfl,S2⟩ H
  replace S:=S.call S2;clear S2
  refine ls 18 H<|sr 2 rfl<|sg 3 8 42 45 false G G (fun hg9=>by
      have hq9:=hg9;try simp only [o1,o2,o3,o4,o5,o6,o7,o8,o9,oa] at hq9
      exact sy hg9<|sf rH rfl<|sy hg9<|sl S 1 aD G G G<|sy hg9<|sr 1 rfl<|sz 3 G G G)<|so G G G<|sr 1 rfl<|sg 5 13 47 52 false G G (fun hg14=>by
      have hq14:=hg14;try simp only [o1,o2,o3,o4,o5,o6,o7,o8,o9,oa] at hq14
      exact sy hg14<|sf oJ rfl<|sy hg14<|sl S 1 aD G G G<|sy hg14<|sf rH rfl<|sy hg14<|sl S 1 aD G G G<|sy hg14<|sr 1 rfl<|sz 5 G G G)<|so G G G<|sr 1 rfl<|sg 3 20 54 57 false G G (fun hg21=>by
      have hq21:=hg21;try simp only [o1,o2,o3,o4,o5,o6,o7,o8,o9,oa] at hq21
      exact sy hg21<|sf oJ rfl<|sy hg21<|sl S 1 aD G G G<|sy hg21<|sr 1 rfl<|sz 3 G G G)<|so G G G<|sE ?_;clear H a;intro a H
  refine k19 _ _ ?_;clear k19 K19
  refine cond_ H rfl (fun hc5=>?_) (fun hc5=>?_)
  ·skip
   try simp only [o1,o2,o3,o4,o5,o6,o7,o8,o9,oa] at hc5
   replace H:=H.keep [] rfl
   refine sS H fun K20 k20=>sr 4 rfl<|sE ?_;clear H a;intro a H
   refine k20 _ ?_;clear k20 K20
   refine wp_ret ?_
   refine ret4 (fn:=Tryz.f70) rfl H G G G G ?_
   have e9:=mP hdE (Eu (l:=l) (k:=k) (by omega) (Nd (by rcases hc5 with ((h|h)|h)|h;(have:=Cs h;omega);omega;omega;omega)))
   rw [oU (by rw [e9];decide),e9]
   exact ⟨rfl,(S.sel [] G G)⟩
  try simp only [o1,o2,o3,o4,o5,o6,o7,o8,o9,oa] at hc5
  refine wp_skip ?_
  refine k17 _ _ ?_
  refine sO H<|sd (aK G G (by unfold i64ok;omega))<|sr 1 rfl<|sE ?_;clear H a;intro a H
  exact k14 (g1-1) (k+1) a _ (by omega) (⟨by omega,by omega,cN hp.2.2 (qB.2 (by have h9:=Ai.1 hc5.1.1.1;omega))⟩) (S.sel [2] G G) (H.keep [30,1,2,3,28,29] rfl)
 refine wp_exit ?_
 refine k12 _ _ ?_
 refine wp_seq_k fun K22 k22=>?_
 refine sS H fun K23 k23=>sr 1 rfl<|sL jW rfl<|sr 1 rfl<|sE ?_;clear H a;intro a H
 refine k23 _ ?_;clear k23 K23
 refine wp_block ?_
 have hpr:allN (fun k=>prmOk P (l.getD k Prm.zero)) l.length=true:=by rw [show l.length=k by omega];exact hp.2.2
 have hkE:=tX hdE (Ev hpr (by omega))
 refine loop_st (X:=Nat) (R0:=_) [2,3,60,61] H rfl (fun h=>[(62,.int .i64 (h:Int))]) (fun h=>[]) (fun g h=>h≤day.length∧g+h=day.length∧∀ q,q<h→∀ j,j<l.length→fH P ps (day.getD q Hq.zero) q (l.getD j Prm.zero)=false) (day.length) 0 ?_ (S.sel [0] G G) (H.keep [62,2,3,60,61] rfl) ?_
 · exact ⟨by omega,by omega,fun q hq=>absurd hq (Nat.not_lt_zero q)⟩
 clear H S a
 intro g2 x2 a w2 hp S H K24 k24
 obtain ⟨h,rfl⟩:∃ y,y=x2:=⟨_,rfl⟩
 obtain ⟨hhl,hgh,hB⟩:=hp
 refine sS H fun K25 k25=>sr 1 rfl<|sE ?_;clear H a;intro a H
 refine k25 _ ?_;clear k25 K25
 refine wp_seq_k fun K26 k26=>?_
 refine condL H rfl (fun hc6=>?_) (fun hc6=>?_)
 ·skip
  have hdo:=hdk.2 h (by omega)
  refine wp_skip ?_
  refine k26 _ _ ?_
  refine wp_seq_k fun K27 k27=>?_
  refine wp_block ?_
  refine seq_list fun K28 k28=>?_
  refine ls 3 H<|sr 1 rfl<|si jW kX G G (hday.adr (by omega)) (by omega)<|sd ((aU Dp kX rfl S hday (by omega) (by omega)))<|sE ?_;clear H a;intro a H
  refine aI H rfl S Kd ?_;clear H a S;intro b13 _ a hb13 hbw13 S H
  refine ls 1 H<|sr 1 rfl<|sE ?_;clear H a;intro a H
  refine aB H S (i:=0) G G G G kX G G ?_
  clear H a S;intro _ a S H
  refine k28 _ _ ?_;clear k28 K28
  replace H:=H.keep [2,3,12,13,60,61,62] rfl
  refine sS H fun K29 k29=>sr 1 rfl<|sL oF rfl<|sr 1 rfl<|sE ?_;clear H a;intro a H
  refine k29 _ ?_;clear k29 K29
  refine wp_block ?_
  refine loop_st (X:=Nat) (R0:=_) [2,3,12,13,60,61,62,67,68] H rfl (fun i=>[(69,.int .i64 (i:Int))]) (fun i=>[]) (fun g i=>i≤l.length∧g+i=l.length∧∀ j,j<i→fH P ps (day.getD h Hq.zero) h (l.getD j Prm.zero)=false) (l.length) 0 ?_ (S.sel [0,1] G G) (H.keep [69,2,3,12,13,60,61,62,67,68] rfl) ?_
  · exact ⟨by omega,by omega,fun q hq=>absurd hq (Nat.not_lt_zero q)⟩
  clear H S a
  intro g3 x3 a w3 hp S H K30 k30
  obtain ⟨i,rfl⟩:∃ y,y=x3:=⟨_,rfl⟩
  refine sS H fun K31 k31=>sr 1 rfl<|sE ?_;clear H a;intro a H
  refine k31 _ ?_;clear k31 K31
  refine wp_seq_k fun K32 k32=>?_
  refine condL H rfl (fun hc7=>?_) (fun hc7=>?_)
  ·skip
   have hpi:=qB.1 (cC.1 hpr i (by omega))
   refine wp_skip ?_
   refine k32 _ _ ?_
   refine wp_seq_k fun K33 k33=>?_
   refine wp_block ?_
   refine seq_list fun K34 k34=>?_
   refine ls 3 H<|sr 1 rfl<|si oF oD G G (hl.adr (by omega)) (by omega)<|sd ((aU Bq oD rfl S hl (by omega) (by omega)))<|sE ?_;clear H a;intro a H
   refine aI H rfl S Ka ?_;clear H a S;intro b15 _ a hb15 hbw15 S H
   refine ls 1 H<|sr 1 rfl<|sE ?_;clear H a;intro a H
   refine aB H S (i:=0) G G G G oD G G ?_
   clear H a S;intro _ a S H
   refine k34 _ _ ?_;clear k34 K34
   replace H:=H.keep [2,3,12,13,14,15,60,61,62,67,68,69] rfl
   refine seq_list fun K35 k35=>?_
   refine ls 5 H<|sr 1 rfl<|sf rH rfl<|sl S 0 aD G G G<|sf oJ rfl<|sl S 0 aD G G G<|sE ?_;clear H a;intro a H
   refine aA H G G Tryz.func104 G G (cT _ _ _ _) ?_;clear H a
   rintro _ _ a ⟨rfl,rfl⟩ H
   refine ls 1 H<|sr 1 rfl<|sE ?_;clear H a;intro a H
   apply cI (i:=6) (g:=80) (t:=96) (b:=true) 16 H S G G (by kernel_rfl) (by kernel_rfl) G G
   case h1=>
    intro hg7
    have hq7:=hg7;try simp only [o1,o2,o3,o4,o5,o6,o7,o8,o9,oa] at hq7
    refine ls 14 H<|sy hg7<|sd ((aE eR gY rfl S (i:=2) G G))<|sy hg7<|sf oL rfl<|sy hg7<|sl S 1 aD G G G<|sy hg7<|sf Jq rfl<|sy hg7<|sl S 1 iL G G G<|sy hg7<|sr 1 rfl<|sg 2 12 86 88 true G G (fun hg13=>by
        have hq13:=hg13;try simp only [o1,o2,o3,o4,o5,o6,o7,o8,o9,oa] at hq13
        exact sy hg13<|sf Po rfl<|sy hg13<|sl S 0 iL G G G<|sz 2 G G G)<|sy hg7<|sa G G G<|sy hg7<|sd (aR Vc G G)<|sy hg7<|sf wS rfl<|sy hg7<|sl S 0 aD G G G<|sy hg7<|sf wT rfl<|sy hg7<|sl S 0 aD G G G<|sE ?_;intro a H
    refine dB H G G (by assumption) ?_
    refine aA H G G Tryz.func107 G G (xO P ps PA pc xs XA xc (day.getD h Hq.zero).out ((day.getD h Hq.zero).help&&(l.getD i Prm.zero).helped) (l.getD i Prm.zero).fr (l.getD i Prm.zero).to _ (hps.now S) hpn (hxs.now S) hxn hV hdo.1.1 (by omega) (by omega)) ?_
    rintro _ _ a ⟨rfl,hdj,S2⟩ H
    replace S:=S.call S2;clear S2
    refine ls 1 H<|sy hg7<|sr 1 rfl<|sE ?_;intro a H
    exact wpList_nil ⟨H.strip 15 G G,(S.sel [0,1,2] G G)⟩
   clear H a S;intro a _ H S
   refine ls 1 H<|sa G G G<|sE ?_;clear H a;intro a H
   refine k35 _ _ ?_;clear k35 K35
   refine cond_ H rfl (fun hc8=>?_) (fun hc8=>?_)
   ·skip
    try simp only [o1,o2,o3,o4,o5,o6,o7,o8,o9,oa] at hc8
    replace H:=H.keep [12,14] rfl
    refine sS H fun K36 k36=>sr 6 rfl<|sE ?_;clear H a;intro a H
    refine k36 _ ?_;clear k36 K36
    refine wp_ret ?_
    refine ret4 (fn:=Tryz.f70) rfl H G G G G ?_
    rw [Pv hkE (by omega) (by omega) hB hp.2.2 (Ne hc8.1 (by omega))]
    exact ⟨rfl,(S.sel [] G G)⟩
   try simp only [o1,o2,o3,o4,o5,o6,o7,o8,o9,oa] at hc8
   refine wp_skip ?_
   refine k33 _ _ ?_
   refine sO H<|sd (aK G G (by unfold i64ok;omega))<|sr 1 rfl<|sE ?_;clear H a;intro a H
   exact k30 (g3-1) (i+1) a _ (by omega) (⟨by omega,by omega,Pw hp.2.2 (by rcases hc8 with h9|h9;exact Hn (by omega);exact Ho (by omega))⟩) (S.sel [1,2] rfl rfl) (H.keep [69,2,3,12,13,60,61,62,67,68] rfl)
  refine wp_exit ?_
  refine k27 _ _ ?_
  replace H:=H.keep [2,3,60,61,62] rfl
  refine sO H<|sd (aK G G (by unfold i64ok;omega))<|sr 1 rfl<|sE ?_;clear H a;intro a H
  exact k24 (g2-1) (h+1) a _ (by omega) (⟨by omega,by omega,Gn hB hp.2.2 (by omega)⟩) (S.sel [1] G G) (H.keep [62,2,3,60,61] rfl)
 refine wp_exit ?_
 refine k22 _ _ ?_
 refine sS H fun K39 k39=>sr 4 rfl<|sE ?_;clear H a;intro a H
 refine k39 _ ?_;clear k39 K39
 refine wp_ret ?_
 refine ret4 (fn:=Tryz.f70) rfl H G G G G ?_
 obtain rfl:h=day.length:=by omega
 rw [La hkE hB]
 exact ⟨rfl,(S.sel [] G G)⟩
end
section
theorem tY {k sz:Nat} {cell:Nat→Nat→Value} {vs:List Value} (h:∀ j,j<sz→vs.getD j undef=cell k j):∀ q j,q<k+1→j<sz→capp k cell (fun k' j=>([vs].getD k' []).getD j undef) q j=cell q j:=by
  intro q j hq hj
  unfold capp
  by_cases h1:q<k
  · rw [if_pos h1]
  · rw [if_neg h1]
    have e:q=k:=by omega
    subst e
    rw [Nat.sub_self]
    exact h j hj
theorem jL {sz:Nat} {vs:List Value} (h:∀ j,j<sz→(vs.getD j undef).oneCell'=true):∀ k j,k<1→j<sz→(([vs].getD k []).getD j undef).oneCell'=true:=by
  intro k j hk hj
  have e:k=0:=by omega
  subst e
  exact h j hj
theorem two {p:Nat→Prop} (h0:p 0) (h1:p 1):∀ j,j<2→p j:=by
  intro j hj
  have:j=0∨j=1:=by omega
  rcases this with rfl|rfl
  · exact h0
  · exact h1
theorem one {p:Nat→Prop} (h0:p 0):∀ j,j<1→p j:=by
  intro j hj
  have:j=0:=by omega
  subst this
  exact h0
theorem fQ {P:Program} {f:Nat} {vs:Array Value} {w:World} {R R':Value→World→Prop} (h:Calls P f vs w (Ret R)) (k:∀ v w',R v w'→R' v w'):Calls P f vs w (Ret R'):=Calls.mono h fun e w' he=>by
  cases e with
  | returned v=>exact k v w' he
  | _=>exact he
theorem eL (n lo hi:Int) (w:World) :
    Calls Tryz.prog 190 [.int .i64 n,.int .i64 lo,.int .i64 hi].toArray w (Ret (fun v w'=>v = .bool (decide (lo≤n)&&decide (n≤hi))∧w'=w)):=by
 refine enter Tryz.func190 rfl Tryz.ntmps190 rfl (fun a H=>?_)
 have S:=St.start w
 refine sS H fun K1 k1=>sr 1 rfl<|sE ?_;clear H a;intro a H
 refine k1 _ ?_;clear k1 K1
 replace H:=H.keep [0,1,2] rfl
 refine sS H fun K2 k2=>sr 4 rfl<|sg 3 3 10 13 true G G (fun hg4=>sy hg4<|sr 1 rfl<|sy hg4<|sr 1 rfl<|sy hg4<|sr 1 rfl<|sz 3 G G G)<|sa G G G<|sr 1 rfl<|sE ?_;clear H a;intro a H
 refine k2 _ ?_;clear k2 K2
 refine wp_ret ?_
 refine ret1 (fn:=Tryz.f190) rfl H rfl ?_
 exact ⟨rfl,rfl⟩
theorem gS (n lo hi:Int) (w:World) :
    Calls Tryz.prog 158 [.int .i64 n,.int .i64 lo,.int .i64 hi].toArray w (Ret (fun v w'=>v = .bool (decide (lo≤n)&&decide (n≤hi))∧w'=w)):=by
 refine enter Tryz.func158 rfl Tryz.ntmps158 rfl (fun a H=>?_)
 have S:=St.start w
 refine sS H fun K1 k1=>sr 1 rfl<|sE ?_;clear H a;intro a H
 refine k1 _ ?_;clear k1 K1
 replace H:=H.keep [0,1,2] rfl
 refine sS H fun K2 k2=>sr 4 rfl<|sg 3 3 10 13 true G G (fun hg4=>sy hg4<|sr 1 rfl<|sy hg4<|sr 1 rfl<|sy hg4<|sr 1 rfl<|sz 3 G G G)<|sa G G G<|sr 1 rfl<|sE ?_;clear H a;intro a H
 refine k2 _ ?_;clear k2 K2
 refine wp_ret ?_
 refine ret1 (fn:=Tryz.f158) rfl H rfl ?_
 exact ⟨rfl,rfl⟩
set_option maxRecDepth 100000 in
theorem Ew (a b c d:Int) (w:World):(Op.equalIn 10000 88 (.agg #[.int .i64 a,.int .i64 b]) (.agg #[.int .i64 c,.int .i64 d])).run Tryz.prog w = .ok (a == c&&b == d) w:=by
  have u3:=Tryz.underlying3
  have a3:=Tryz.isAgg3
  have z3:=Tryz.sizeOf3
  have hS:Tryz.prog.underlying 88=some (.struct (Tryz.prog.fieldsOf 88)):=by kernel_rfl
  have hp:Tryz.prog.stoodInHeld 88=false:=by kernel_rfl
  rw [show (10000:Nat)=9999+1 from rfl,run_equalIn_agg w 9999 88 _ _ hS hp]
  simp only [Program.fieldsOf,Tryz.underlying88]
  go_simp
  by_cases h1:a=c <;> by_cases h2:b=d <;> simp [h1,h2]
set_option maxRecDepth 100000 in
theorem tZ (op:BinOp) (x y:Operand) (a b c d:Int) (w:World):(eqGuard op 88 x y (.agg #[.int .i64 a,.int .i64 b]) (.agg #[.int .i64 c,.int .i64 d])).run Tryz.prog w = .ok () w:=by
  have h:Tryz.prog.eqGuardType Tryz.prog.depth 88=false:=by kernel_rfl
  have hpg:∀ w,(program:Sem Program).run Tryz.prog w = .ok Tryz.prog w:=fun _=>rfl
  cases op <;> simp [eqGuard,h,hpg]
section
variable {P:Program} {w:World} {L:List (Nat×Value)} {ty:TypeId} {pos:String} {af:Array Edge} {dd:Option Nat} {g:Option (Nat×Bool)}
set_option maxRecDepth 100000 in
theorem mX {x y:Operand} {yt:TypeId} {a b c d:Int} (hx:ev L x=some (.agg [.int .i64 a,.int .i64 b].toArray)) (hy:ev L y=some (.agg [.int .i64 c,.int .i64 d].toArray)) :
    Does Tryz.prog L ⟨dd,.binOp .neq 88 x y yt,ty,pos,af,g⟩ w (.bool (!(decide (a=c)&&decide (b=d)))):=fun ρ hρ=>by
  have e:(binOp .neq 88 (.agg #[.int .i64 a,.int .i64 b]) (.agg #[.int .i64 c,.int .i64 d])).run Tryz.prog w = .ok (.bool (!(decide (a=c)&&decide (b=d)))) w:=by
    simp only [binOp]
    simp [Op.equal,Op.maxDepth,Ew]
    by_cases h1:a=c <;> by_cases h2:b=d <;> simp [h1,h2]
  simp only [execOp,hρ _ _ hx,hρ _ _ hy]
  simp [tZ,e]
end
end
section
theorem qY (rates:List (Int×Int)) (pwn ptn pag:Int) (RA:Option Addr) (rcp:Nat) (l:List Use) (A:Option Addr) (cp:Nat) (w:World) (hr:InS w noF 2 RA rates.length (scell rates)) (hrn:rates.length≤9223372036854775807) (hl:InS w noF 6 A l.length (ucell l)) (hn:l.length≤9223372036854775807) :
    Calls Tryz.prog 181 [.agg [.slice RA rates.length rcp,.int .i64 pwn,.int .i64 ptn,.int .i64 pag].toArray,.slice A l.length cp].toArray w (Ret (fun v w'=>v = .int .i64 (cE (⟨rates,pwn,ptn,pag⟩:Part) l)∧St w noF [] w')):=by
 refine enter Tryz.func181 rfl Tryz.ntmps181 rfl (fun a H=>?_)
 have S:=St.start w
 refine seq_list fun K1 k1=>?_
 refine aO H rfl S G G ?_;clear H a S;intro b2 _ a hb2 hbw2 S H
 refine ls 1 H<|sr 1 rfl<|sE ?_;clear H a;intro a H
 refine k1 _ _ ?_;clear k1 K1
 refine wp_seq_k fun K2 k2=>?_
 replace H:=H.keep [1,2] rfl
 refine sS H fun K3 k3=>sf fB rfl<|sl S 0 hY G G G<|sL dG rfl<|sc rfl Tryz.func190 G G (eL _ _ _ _)<|sr 2 rfl<|sg 4 5 15 19 false G G (fun hg6=>sy hg6<|sf wN rfl<|sy hg6<|sl S 0 aD G G G<|sy hg6<|sc rfl Tryz.func190 G G (eL _ _ _ _)<|sy hg6<|sr 1 rfl<|sz 4 G G G)<|so G G G<|sr 1 rfl<|sg 4 11 21 25 false G G (fun hg12=>sy hg12<|sf oI rfl<|sy hg12<|sl S 0 aD G G G<|sy hg12<|sc rfl Tryz.func190 G G (eL _ _ _ _)<|sy hg12<|sr 1 rfl<|sz 4 G G G)<|so G G G<|sr 1 rfl<|sg 4 17 27 31 false G G (fun hg18=>sy hg18<|sf rB rfl<|sy hg18<|sl S 0 aD G G G<|sy hg18<|sc rfl Tryz.func190 G G (eL _ _ _ _)<|sy hg18<|sr 1 rfl<|sz 4 G G G)<|so G G G<|sE ?_;clear H a;intro a H
 refine k3 _ ?_;clear k3 K3
 refine cond_ H rfl (fun hc1=>?_) (fun hc1=>?_)
 ·skip
  try simp only [o1,o2,o3,o4,o5,o6,o7,o8,o9,oa] at hc1
  replace H:=H.keep [] rfl
  refine sS H fun K4 k4=>sr 1 rfl<|sE ?_;clear H a;intro a H
  refine k4 _ ?_;clear k4 K4
  refine wp_ret ?_
  refine ret1 (fn:=Tryz.f181) rfl H rfl ?_
  refine ⟨?_,(S.sel [] G G)⟩;unfold cE;rw [if_neg (by unfold iE;simp only [decide_eq_true_eq];omega)]
 try simp only [o1,o2,o3,o4,o5,o6,o7,o8,o9,oa] at hc1
 refine wp_skip ?_
 refine k2 _ _ ?_
 refine wp_seq_k fun K5 k5=>?_
 have hhd:iE (⟨rates,pwn,ptn,pag⟩:Part)=true:=by unfold iE;simp only [decide_eq_true_eq];omega
 refine sS H fun K6 k6=>sf fB rfl<|sl S 0 hY G G G<|sL dG rfl<|sr 1 rfl<|sE ?_;clear H a;intro a H
 refine k6 _ ?_;clear k6 K6
 refine wp_block ?_
 refine loop_st (X:=Nat) (R0:=_) [1,2,34,35] H rfl (fun k=>[(36,.int .i64 (k:Int))]) (fun k=>[]) (fun g k=>k≤rates.length∧g+k=rates.length∧(rates.take k).all gR=true) (rates.length) 0 ?_ (S.sel [0] G G) (H.keep [36,1,2,34,35] rfl) ?_
 · exact ⟨by omega,by omega,by simp⟩
 clear H S a
 intro g1 x1 a w1 hp S H K7 k7
 obtain ⟨k,rfl⟩:∃ y,y=x1:=⟨_,rfl⟩
 refine sS H fun K8 k8=>sr 1 rfl<|sE ?_;clear H a;intro a H
 refine k8 _ ?_;clear k8 K8
 refine wp_seq_k fun K9 k9=>?_
 refine condL H rfl (fun hc2=>?_) (fun hc2=>?_)
 ·skip
  refine wp_skip ?_
  refine k9 _ _ ?_
  refine wp_seq_k fun K10 k10=>?_
  refine wp_block ?_
  refine seq_list fun K11 k11=>?_
  refine ls 2 H<|si dG aP G G (hr.adr (by omega)) (by omega)<|sd ((aU bD aP rfl S hr (by omega) (by omega)))<|sE ?_;clear H a;intro a H
  refine aI H rfl S bZ ?_;clear H a S;intro b6 _ a hb6 hbw6 S H
  refine aB H S (i:=0) G G G G aP G G ?_
  clear H a S;intro _ a S H
  refine k11 _ _ ?_;clear k11 K11
  replace H:=H.keep [1,2,6,34,35,36] rfl
  refine sS H fun K12 k12=>sf bG rfl<|sl S 0 aD G G G<|sr 2 rfl<|sg 5 3 43 48 false G G (fun hg4=>sy hg4<|sf bF rfl<|sy hg4<|sl S 0 aD G G G<|sy hg4<|sf bG rfl<|sy hg4<|sl S 0 aD G G G<|sy hg4<|sr 1 rfl<|sz 5 G G G)<|so G G G<|sr 1 rfl<|sg 3 10 50 53 false G G (fun hg11=>sy hg11<|sf bF rfl<|sy hg11<|sl S 0 aD G G G<|sy hg11<|sr 1 rfl<|sz 3 G G G)<|so G G G<|sE ?_;clear H a;intro a H
  refine k12 _ ?_;clear k12 K12
  refine cond_ H rfl (fun hc3=>?_) (fun hc3=>?_)
  ·skip
   try simp only [o1,o2,o3,o4,o5,o6,o7,o8,o9,oa] at hc3
   replace H:=H.keep [] rfl
   refine sS H fun K13 k13=>sr 1 rfl<|sE ?_;clear H a;intro a H
   refine k13 _ ?_;clear k13 K13
   refine wp_ret ?_
   refine ret1 (fn:=Tryz.f181) rfl H rfl ?_
   refine ⟨?_,(S.sel [] G G)⟩;unfold cE;rw [if_pos hhd];(try dsimp only);rw [qA (k:=k) (d:=(0,0)) (by omega) (by unfold gR;simp only [decide_eq_false_iff_not];omega)];rfl
  try simp only [o1,o2,o3,o4,o5,o6,o7,o8,o9,oa] at hc3
  refine wp_skip ?_
  refine k10 _ _ ?_
  refine sO H<|sd (aK G G (by unfold i64ok;omega))<|sr 1 rfl<|sE ?_;clear H a;intro a H
  exact k7 (g1-1) (k+1) a _ (by omega) (⟨by omega,by omega,sZ (d:=(0,0)) (by omega) hp.2.2 (by unfold gR;simp only [decide_eq_true_eq];omega)⟩) (S.sel [1] G G) (H.keep [36,1,2,34,35] rfl)
 refine wp_exit ?_
 refine k5 _ _ ?_
 refine wp_seq_k fun K15 k15=>?_
 have hrt:rates.all gR=true:=by have h9:=hp.2.2;rw [List.take_of_length_le (by omega)] at h9;exact h9
 refine sS H fun K16 k16=>sr 1 rfl<|sL dF rfl<|sr 1 rfl<|sE ?_;clear H a;intro a H
 refine k16 _ ?_;clear k16 K16
 refine condL H rfl (fun hc4=>?_) (fun hc4=>?_)
 ·skip
  refine sS H fun K17 k17=>sr 1 rfl<|sE ?_;clear H a;intro a H
  refine k17 _ ?_;clear k17 K17
  refine wp_ret ?_
  refine ret1 (fn:=Tryz.f181) rfl H rfl ?_
  refine ⟨?_,(S.sel [] G G)⟩;unfold cE;rw [if_pos hhd,if_pos hrt,if_neg (by omega)]
 refine wp_skip ?_
 refine k15 _ _ ?_
 refine sS H fun K18 k18=>sr 1 rfl<|sE ?_;clear H a;intro a H
 refine k18 _ ?_;clear k18 K18
 refine wp_seq_k fun K19 k19=>?_
 replace H:=H.keep [1,2,7] rfl
 refine sS H fun K20 k20=>sr 1 rfl<|sL dF rfl<|sr 1 rfl<|sE ?_;clear H a;intro a H
 refine k20 _ ?_;clear k20 K20
 refine wp_block ?_
 refine loop_st (X:=Nat) (R0:=_) [2,59,60] H rfl (fun j=>[(7,.int .i64 (prevD l j)),(61,.int .i64 (j:Int))]) (fun j=>[]) (fun g j=>j≤l.length∧g+j=l.length∧dU rates.length l j=true) (l.length) 0 ?_ (S.sel [0] G G) (H.keep [7,61,2,59,60] rfl) ?_
 · exact ⟨by omega,by omega,rfl⟩
 clear H S a
 intro g2 x2 a w2 hp S H K21 k21
 obtain ⟨j,rfl⟩:∃ y,y=x2:=⟨_,rfl⟩
 refine sS H fun K22 k22=>sr 1 rfl<|sE ?_;clear H a;intro a H
 refine k22 _ ?_;clear k22 K22
 refine wp_seq_k fun K23 k23=>?_
 refine condL H rfl (fun hc5=>?_) (fun hc5=>?_)
 ·skip
  refine wp_skip ?_
  refine k23 _ _ ?_
  refine wp_seq_k fun K24 k24=>?_
  refine wp_block ?_
  refine seq_list fun K25 k25=>?_
  refine ls 2 H<|si dF dA G G (hl.adr (by omega)) (by omega)<|sd ((aU jR dA rfl S hl (by omega) (by omega)))<|sE ?_;clear H a;intro a H
  refine aI H rfl S jX ?_;clear H a S;intro b9 _ a hb9 hbw9 S H
  refine aB H S (i:=0) G G G G dA G G ?_
  clear H a S;intro _ a S H
  refine k25 _ _ ?_;clear k25 K25
  refine wp_seq_k fun K26 k26=>?_
  replace H:=H.keep [2,7,9,59,60,61] rfl
  refine sS H fun K27 k27=>sf gN rfl<|sl S 0 aD G G G<|sr 1 rfl<|sc rfl Tryz.func190 G G (eL _ _ _ _)<|sr 2 rfl<|sg 4 5 70 74 false G G (fun hg6=>sy hg6<|sf jI rfl<|sy hg6<|sl S 0 aD G G G<|sy hg6<|sc rfl Tryz.func190 G G (eL _ _ _ _)<|sy hg6<|sr 1 rfl<|sz 4 G G G)<|so G G G<|sr 1 rfl<|sg 8 11 76 84 false G G (fun hg12=>sy hg12<|sf oN rfl<|sy hg12<|sl S 0 aD G G G<|sy hg12<|sf fB rfl<|sy hg12<|sl S 1 hY G G G<|sy hg12<|sL dG rfl<|sy hg12<|sd (aS G G (by unfold i64ok;omega))<|sy hg12<|sc rfl Tryz.func190 G G (eL _ _ _ _)<|sy hg12<|sr 1 rfl<|sz 8 G G G)<|so G G G<|sE ?_;clear H a;intro a H
  refine k27 _ ?_;clear k27 K27
  refine cond_ H rfl (fun hc6=>?_) (fun hc6=>?_)
  ·skip
   try simp only [o1,o2,o3,o4,o5,o6,o7,o8,o9,oa] at hc6
   replace H:=H.keep [] rfl
   refine sS H fun K28 k28=>sr 1 rfl<|sE ?_;clear H a;intro a H
   refine k28 _ ?_;clear k28 K28
   refine wp_ret ?_
   refine ret1 (fn:=Tryz.f181) rfl H rfl ?_
   refine ⟨?_,(S.sel [] G G)⟩;unfold cE;rw [if_pos hhd,if_pos hrt,if_pos (by omega)];unfold dU;rw [fO (k:=j) (by omega) (by unfold useOk;simp only [decide_eq_false_iff_not];omega)];rfl
  try simp only [o1,o2,o3,o4,o5,o6,o7,o8,o9,oa] at hc6
  refine wp_skip ?_
  refine k26 _ _ ?_
  refine wp_seq_k fun K29 k29=>?_
  replace H:=H.keep [2,9,59,60,61] rfl
  refine sS H fun K30 k30=>sf eN rfl<|sf bG rfl<|sl S 0 aD G G G<|sr 2 rfl<|sg 7 4 90 97 false G G (fun hg5=>sy hg5<|sf eN rfl<|sy hg5<|sf bF rfl<|sy hg5<|sl S 0 aD G G G<|sy hg5<|sf eN rfl<|sy hg5<|sf bG rfl<|sy hg5<|sl S 0 aD G G G<|sy hg5<|sr 1 rfl<|sz 7 G G G)<|so G G G<|sr 1 rfl<|sg 4 13 99 103 false G G (fun hg14=>sy hg14<|sf eN rfl<|sy hg14<|sf bF rfl<|sy hg14<|sl S 0 aD G G G<|sy hg14<|sr 1 rfl<|sz 4 G G G)<|so G G G<|sr 1 rfl<|sg 9 19 105 114 false G G (fun hg20=>sy hg20<|sf lS rfl<|sy hg20<|sl S 0 iL G G G<|sy hg20<|sr 1 rfl<|sy hg20<|sr 1 rfl<|sg 4 23 109 113 true G G (fun hg24=>sy hg24<|sf eN rfl<|sy hg24<|sd ((aE bD aP rfl S (i:=0) G G))<|sy hg24<|sd (aR dT G G)<|sy hg24<|sd (mX G G)<|sz 4 G G G)<|sy hg20<|sa G G G<|sz 6 G G G)<|so G G G<|sE ?_;clear H a;intro a H
  refine k30 _ ?_;clear k30 K30
  refine cond_ H rfl (fun hc7=>?_) (fun hc7=>?_)
  ·skip
   try simp only [o1,o2,o3,o4,o5,o6,o7,o8,o9,oa] at hc7
   replace H:=H.keep [] rfl
   refine sS H fun K31 k31=>sr 1 rfl<|sE ?_;clear H a;intro a H
   refine k31 _ ?_;clear k31 K31
   refine wp_ret ?_
   refine ret1 (fn:=Tryz.f181) rfl H rfl ?_
   refine ⟨?_,(S.sel [] rfl rfl)⟩;unfold cE;rw [if_pos hhd,if_pos hrt,if_pos (by omega)];unfold dU;rw [fO (k:=j) (by omega) (by unfold useOk;simp only [decide_eq_false_iff_not];generalize l.getD j Use.zero=u at hc6 hc7 ⊢;rintro ⟨_,_,_,_,hm⟩;cases hq:u.meas <;> simp [hq] at hc7 hm <;> omega)];rfl
  try simp only [o1,o2,o3,o4,o5,o6,o7,o8,o9,oa] at hc7
  refine wp_skip ?_
  refine k29 _ _ ?_
  refine sO H<|sf gN rfl<|sl S 0 aD G G G<|sr 1 rfl<|sE ?_;clear H a;intro a H
  refine k24 _ _ ?_
  refine sO H<|sd (aK G G (by unfold i64ok;omega))<|sr 1 rfl<|sE ?_;clear H a;intro a H
  exact k21 (g2-1) (j+1) a _ (by omega) (⟨by omega,by omega,by unfold dU;rw [gQ (n:=0)];have h9:=hp.2.2;unfold dU at h9;rw [h9];simp only [Bool.true_and];unfold useOk;simp only [decide_eq_true_eq];generalize l.getD j Use.zero=u at hc6 hc7 ⊢;refine ⟨by omega,by omega,by omega,by omega,fun hm=>?_⟩;simp [hm] at hc7;omega⟩) (S.sel [1] G G) (H.keep [7,61,2,59,60] rfl)
 refine wp_exit ?_
 refine k19 _ _ ?_
 refine sS H fun K34 k34=>sr 1 rfl<|sE ?_;clear H a;intro a H
 refine k34 _ ?_;clear k34 K34
 refine wp_ret ?_
 refine ret1 (fn:=Tryz.f181) rfl H rfl ?_
 refine ⟨?_,(S.sel [] G G)⟩;have hj9:j=l.length:=by omega
 unfold cE;rw [if_pos hhd,if_pos hrt,if_pos (by omega)];rw [hj9] at hp;dsimp only;rw [if_pos hp.2.2]
theorem gB (rates:List (Int×Int)) (pwn ptn pag:Int) (RA:Option Addr) (rcp:Nat) (u:Use) (w:World) (hr:InS w noF 2 RA rates.length (scell rates)) (hrn:rates.length≤9223372036854775807) (hcl:0≤u.cls∧u.cls<rates.length) (hg1:i64ok (cV (⟨rates,pwn,ptn,pag⟩:Part) u).1) (hg2:i64ok (cV (⟨rates,pwn,ptn,pag⟩:Part) u).2) :
    Calls Tryz.prog 192 [.agg [.slice RA rates.length rcp,.int .i64 pwn,.int .i64 ptn,.int .i64 pag].toArray,.agg [.int .i64 u.day,.int .i64 u.turns,.int .i64 u.cls,.bool u.meas,.int .i64 u.lo,.int .i64 u.hi].toArray].toArray w (Ret (fun v w'=>v = .agg [.int .i64 (cV (⟨rates,pwn,ptn,pag⟩:Part) u).1,.int .i64 (cV (⟨rates,pwn,ptn,pag⟩:Part) u).2].toArray∧St w noF [] w')):=by
 refine enter Tryz.func192 rfl Tryz.ntmps192 rfl (fun a H=>?_)
 have S:=St.start w
 refine seq_list fun K1 k1=>?_
 refine aO H rfl S G G ?_;clear H a S;intro b2 _ a hb2 hbw2 S H
 refine aO H rfl S G G ?_;clear H a S;intro b3 _ a hb3 hbw3 S H
 refine aI H rfl S bZ ?_;clear H a S;intro b4 _ a hb4 hbw4 S H
 refine k1 _ _ ?_;clear k1 K1
 replace H:=H.keep [2,3,4] rfl
 refine seq_list fun K2 k2=>?_
 refine ls 6 H<|sf fB rfl<|sl S 2 hY G G G<|sf oN rfl<|sl S 1 aD G G G<|sI dG aP G G (hr.adr (by omega)) (by omega) (by omega)<|sd ((aU bD aP rfl S hr (by omega) (by omega)))<|sE ?_;clear H a;intro a H
 refine aI H rfl S bZ ?_;clear H a S;intro b5 _ a hb5 hbw5 S H
 refine aB H S (i:=0) G G G G aP G G ?_
 clear H a S;intro _ a S H
 refine k2 _ _ ?_;clear k2 K2
 replace H:=H.keep [3,4,5] rfl
 refine seq_list fun K3 k3=>?_
 refine ls 11 H<|sf jI rfl<|sl S 2 aD G G G<|sf bG rfl<|sl S 0 aD G G G<|sd (jZ G G (by exact hg1))<|sf jI rfl<|sl S 2 aD G G G<|sf bF rfl<|sl S 0 aD G G G<|sd (jZ G G (by exact hg2))<|sd (aR dT G G)<|sE ?_;clear H a;intro a H
 refine aB H S (i:=1) G G G G aP G G ?_
 clear H a S;intro _ a S H
 refine k3 _ _ ?_;clear k3 K3
 refine wp_ret ?_
 refine retA (fn:=Tryz.f192) rfl H rfl bD (by exact aP) (dL S (i:=1) rfl) ?_
 exact ⟨rfl,(S.sel [] G G)⟩
theorem fX (a1 a2 b1 b2:Int) (w:World) :
    Calls Tryz.prog 193 [.agg [.int .i64 a1,.int .i64 a2].toArray,.agg [.int .i64 b1,.int .i64 b2].toArray].toArray w (Ret (fun v w'=>v = .tuple #[.agg [.int .i64 (meetS (a1,a2) (b1,b2)).1,.int .i64 (meetS (a1,a2) (b1,b2)).2].toArray,.bool (decide ((meetS (a1,a2) (b1,b2)).1≤(meetS (a1,a2) (b1,b2)).2))]∧St w noF [] w')):=by
 refine enter Tryz.func193 rfl Tryz.ntmps193 rfl (fun a H=>?_)
 have S:=St.start w
 refine seq_list fun K1 k1=>?_
 refine aO H rfl S G G ?_;clear H a S;intro b2 _ a hb2 hbw2 S H
 refine aO H rfl S G G ?_;clear H a S;intro b3 _ a hb3 hbw3 S H
 refine aI H rfl S bZ ?_;clear H a S;intro b4 _ a hb4 hbw4 S H
 refine ls 1 H<|sr 1 rfl<|sE ?_;clear H a;intro a H
 refine k1 _ _ ?_;clear k1 K1
 replace H:=H.keep [2,3,4] rfl
 refine seq_list fun K2 k2=>?_
 refine ls 11 H<|sf bG rfl<|sl S 2 aD G G G<|sf bG rfl<|sl S 1 aD G G G<|sd (iY G G)<|sf bF rfl<|sl S 2 aD G G G<|sf bF rfl<|sl S 1 aD G G G<|sd (yH G G)<|sd (aR dT G G)<|sE ?_;clear H a;intro a H
 refine aI H rfl S bZ ?_;clear H a S;intro b6 _ a hb6 hbw6 S H
 refine aB H S (i:=0) G G G G aP G G ?_
 clear H a S;intro _ a S H
 refine k2 _ _ ?_;clear k2 K2
 replace H:=H.keep [4,6] rfl
 replace S:=S.drew
 refine seq_wq [(0,true),(1,true),(2,true),(3,true),(4,true),(5,true),(6,false),(7,true)] (by kernel_rfl) (by kernel_rfl) (S.sel [0,2,3] G G) fun K3 k3=>?_
 refine qF H<|qd rfl (fun _ S=>(aE bD aP rfl S (i:=0) G G))<|qd rfl (fun _ S=>(aC bG rfl))<|qd rfl (fun _ S=>aG aD rfl (boxM.rd S (i:=0) G G))<|qd rfl (fun _ S=>(aC bF rfl))<|qd rfl (fun _ S=>aG aD rfl (boxM.rd S (i:=0) G G))<|qr 1 rfl<|qK ?_;clear H a;intro a H
 refine aV rfl ?_
 refine aB H S (i:=1) G G G G aP G G ?_
 clear H a S;intro _ a S H
 refine wpList_nil (And.intro (S.sel [0,2,3] G G) ?_)
 refine qF H<|qr 1 rfl<|qK ?_;clear H a;intro a H
 refine bO ?_
 refine k3 _ _ ?_
 clear k3 K3
 refine wp_ret ?_
 refine retA1 (fn:=Tryz.f193) rfl H rfl bD (by exact aP) (dL S (i:=1) rfl) rfl ?_
 exact ⟨rfl,(S.sel [] G G)⟩
end
section
theorem qT (rates:List (Int×Int)) (pwn ptn pag:Int) (RA:Option Addr) (rcp:Nat) (l:List Use) (A:Option Addr) (cp:Nat) (w:World) (hr:InS w noF 2 RA rates.length (scell rates)) (hrn:rates.length≤9223372036854775807) (hl:InS w noF 6 A l.length (ucell l)) (hn:l.length≤9223372036854775807) (hok:PartOk (⟨rates,pwn,ptn,pag⟩:Part) l) :
    Calls Tryz.prog 191 [.agg [.slice RA rates.length rcp,.int .i64 pwn,.int .i64 ptn,.int .i64 pag].toArray,.slice A l.length cp].toArray w (Ret (fun v w'=>∃ n A' c',IsAt (⟨rates,pwn,ptn,pag⟩:Part) l n∧v = .tuple #[.slice A' n c',.int .i64 (n:Int)]∧St w noF [ownM 88 2 A' n c' (fcell (fun q=>fwd (⟨rates,pwn,ptn,pag⟩:Part) l (q+1)))] w')):=by
 refine enter Tryz.func191 rfl Tryz.ntmps191 rfl (fun a H=>?_)
 have S:=St.start w
 refine seq_list fun K1 k1=>?_
 refine aO H rfl S G G ?_;clear H a S;intro b2 _ a hb2 hbw2 S H
 refine ls 2 H<|sr 2 rfl<|sE ?_;clear H a;intro a H
 refine k1 _ _ ?_;clear k1 K1
 refine seq_list fun K2 k2=>?_
 refine aI H rfl S bZ ?_;clear H a S;intro b6 _ a hb6 hbw6 S H
 refine k2 _ _ ?_;clear k2 K2
 refine wp_seq_k fun K3 k3=>?_
 refine sS H fun K4 k4=>sr 1 rfl<|sL dF rfl<|sr 1 rfl<|sE ?_;clear H a;intro a H
 refine k4 _ ?_;clear k4 K4
 refine wp_block ?_
 replace S:=S.newNil 88 2 (fcell (fun q=>fwd (⟨rates,pwn,ptn,pag⟩:Part) l (q+1)))
 refine loop_st (X:=Nat×Option Addr×Nat) (R0:=_) [1,2,6,11,12] H rfl (fun ⟨k,A',c'⟩=>[(4,.slice A' k c'),(13,.int .i64 (k:Int))]) (fun ⟨k,A',c'⟩=>[boxM b6 88 [.int .i64 (fwd (⟨rates,pwn,ptn,pag⟩:Part) l k).1,.int .i64 (fwd (⟨rates,pwn,ptn,pag⟩:Part) l k).2],ownM 88 2 A' k c' (fcell (fun q=>fwd (⟨rates,pwn,ptn,pag⟩:Part) l (q+1)))]) (fun g ⟨k,A',c'⟩=>k≤l.length∧g+k=l.length∧∀ q,q<k→fits (⟨rates,pwn,ptn,pag⟩:Part) l q) (l.length) (0,none,0) ?_ (S.sel [1,0,2] G G) (H.keep [4,13,1,2,6,11,12] rfl) ?_
 · exact ⟨by omega,by omega,fun q hq=>by omega⟩
 clear H S a
 intro g1 x1 a w1 hp S H K5 k5
 obtain ⟨k,A',c'⟩:=x1
 dsimp only at hp S H
 refine sS H fun K6 k6=>sr 1 rfl<|sE ?_;clear H a;intro a H
 refine k6 _ ?_;clear k6 K6
 refine wp_seq_k fun K7 k7=>?_
 refine condL H rfl (fun hc1=>?_) (fun hc1=>?_)
 ·skip
  refine wp_skip ?_
  refine k7 _ _ ?_
  refine wp_seq_k fun K8 k8=>?_
  refine wp_block ?_
  have hu:=hok.use (k:=k) (by omega);unfold useOk at hu;simp only [decide_eq_true_eq] at hu
  have hgb:=kK hok (k:=k) (by omega)
  have hcls:0≤(l.getD k Use.zero).cls∧(l.getD k Use.zero).cls<rates.length:=by
    have:((⟨rates,pwn,ptn,pag⟩:Part).rates.length:Int)=rates.length:=rfl
    omega
  have hll:=hok.len
  have hfb:=wY hok k (by omega)
  refine seq_list fun K9 k9=>?_
  refine ls 3 H<|sr 1 rfl<|si dF dA G G (hl.adr (by omega)) (by omega)<|sd ((aU jR dA rfl S hl (by omega) (by omega)))<|sE ?_;clear H a;intro a H
  refine aI H rfl S jX ?_;clear H a S;intro b8 _ a hb8 hbw8 S H
  refine ls 1 H<|sr 1 rfl<|sE ?_;clear H a;intro a H
  refine aB H S (i:=0) G G G G dA G G ?_
  clear H a S;intro _ a S H
  refine k9 _ _ ?_;clear k9 K9
  replace H:=H.keep [1,2,4,6,7,8,11,12,13] rfl
  refine seq_list fun K10 k10=>?_
  refine ls 2 H<|sd ((aE eS gZ rfl S (i:=3) G G))<|sd ((aE jR dA rfl S (i:=0) G G))<|sE ?_;clear H a;intro a H
  refine aA H G G Tryz.func192 G G (gB rates pwn ptn pag RA rcp (l.getD k Use.zero) _ (hr.now S) hrn hcls (by unfold i64ok;omega) (by unfold i64ok;omega)) ?_;clear H a
  rintro _ _ a ⟨rfl,S2⟩ H
  replace S:=S.call S2;clear S2
  refine aI H rfl S bZ ?_;clear H a S;intro b9 _ a hb9 hbw9 S H
  refine aB H S (i:=0) G G G G aP G G ?_
  clear H a S;intro _ a S H
  refine k10 _ _ ?_;clear k10 K10
  replace H:=H.keep [1,2,4,6,7,8,9,11,12,13] rfl
  refine seq_list fun K11 k11=>?_
  refine ls 11 H<|sf bG rfl<|sl S 2 aD G G G<|sf bG rfl<|sl S 0 aD G G G<|sd (aK G G (by unfold i64ok;omega))<|sf bF rfl<|sl S 2 aD G G G<|sf bF rfl<|sl S 0 aD G G G<|sd (aK G G (by unfold i64ok;omega))<|sd (aR dT G G)<|sE ?_;clear H a;intro a H
  refine aB H S (i:=2) G G G G aP G G ?_
  clear H a S;intro _ a S H
  refine k11 _ _ ?_;clear k11 K11
  refine wp_seq_k fun K12 k12=>?_
  replace H:=H.keep [1,2,4,6,7,8,11,12,13] rfl
  refine sS H fun K13 k13=>sf lS rfl<|sl S 1 iL G G G<|sE ?_;clear H a;intro a H
  refine k13 _ ?_;clear k13 K13
  refine cond_ H rfl (fun hc2=>?_) (fun hc2=>?_)
  ·skip
   try simp only [o1,o2,o3,o4,o5,o6,o7,o8,o9,oa] at hc2
   refine sS H fun K14 k14=>sr 1 rfl<|sE ?_;clear H a;intro a H
   refine k14 _ ?_;clear k14 K14
   replace H:=H.keep [1,2,4,6,7,8,11,12,13] rfl
   refine seq_list fun K15 k15=>?_
   refine ls 3 H<|sd ((aE bD aP rfl S (i:=2) G G))<|sf eN rfl<|sd ((aE bD aP rfl S (i:=1) G G))<|sE ?_;clear H a;intro a H
   refine aA H G G Tryz.func193 G G (fX _ _ _ _ _) ?_;clear H a
   rintro _ _ a ⟨rfl,S2⟩ H
   replace S:=S.call S2;clear S2
   refine ls 3 H<|sr 3 rfl<|sE ?_;clear H a;intro a H
   refine aB H S (i:=2) G G G G aP G G ?_
   clear H a S;intro _ a S H
   refine ls 1 H<|sr 1 rfl<|sE ?_;clear H a;intro a H
   refine k15 _ _ ?_;clear k15 K15
   replace H:=H.keep [1,2,4,6,7,10,11,12,13] rfl
   refine sS H fun K16 k16=>sr 2 rfl<|sE ?_;clear H a;intro a H
   refine k16 _ ?_;clear k16 K16
   refine cond_ H rfl (fun hc3=>?_) (fun hc3=>?_)
   ·skip
    try simp only [o1,o2,o3,o4,o5,o6,o7,o8,o9,oa] at hc3
    refine sS H fun K17 k17=>sr 4 rfl<|sE ?_;clear H a;intro a H
    refine k17 _ ?_;clear k17 K17
    refine wp_ret ?_
    refine ret2 (fn:=Tryz.f191) rfl H G G ?_
    refine ⟨k,A',c',⟨by omega,hp.2.2,fun _ hf=>?_⟩,rfl,(S.sel [3] G G)⟩
    have h9:=hf hc2
    rw [tA hc2] at h9
    exact absurd h9 (Int.not_le.2 hc3)
   try simp only [o1,o2,o3,o4,o5,o6,o7,o8,o9,oa] at hc3
   refine wp_skip ?_
   refine k12 _ _ ?_
   have e9:=(by first|exact tA (p:=(⟨rates,pwn,ptn,pag⟩:Part)) hc2|exact rJ (p:=(⟨rates,pwn,ptn,pag⟩:Part)) hc2:fwd (⟨rates,pwn,ptn,pag⟩:Part) l (k+1)=_)
   replace H:=H.keep [1,2,4,6,11,12,13] rfl
   refine one_list ?_
   refine ls 2 H<|sr 1 rfl<|sd ((aE bD aP rfl S (i:=2) G G))<|sE ?_;clear H a;intro a H
   refine bB H rfl S dG aP bZ G G G G G G G G G ?_;clear H a S;intro A1 _ a hA1 S H
   refine cB H rfl S dG aP bZ Jy G G (i:=4) G G G (ownM.inS S (i:=0) rfl) (jL (two G G)) (by omega) (by omega) ?_;clear H a S;intro A2 c2 _ a S H
   replace S:=S.recell (i:=4) rfl (cell':=fcell (fun q=>fwd (⟨rates,pwn,ptn,pag⟩:Part) l (q+1))) (tY (two (by show _=Value.int .i64 (fwd (⟨rates,pwn,ptn,pag⟩:Part) l (k+1)).1;rw [e9];rfl) (by show _=Value.int .i64 (fwd (⟨rates,pwn,ptn,pag⟩:Part) l (k+1)).2;rw [e9];rfl)))
   refine ls 1 H<|sr 1 rfl<|sE ?_;clear H a;intro a H
   refine k8 _ _ ?_
   refine sO H<|sd (aK G G (by unfold i64ok;omega))<|sr 1 rfl<|sE ?_;clear H a;intro a H
   replace S:=boxM.same S (i:=3) (cs':=[.int .i64 (fwd (⟨rates,pwn,ptn,pag⟩:Part) l (k+1)).1,.int .i64 (fwd (⟨rates,pwn,ptn,pag⟩:Part) l (k+1)).2]) rfl (by rw [e9];rfl)
   exact k5 (g1-1) (k+1,_,_) a _ (by omega) (⟨by omega,by omega,fun q hq=>by
     by_cases h:q=k
     · subst h;first|exact oQ hc2|(intro _;rw [e9];exact hc3)
     · exact hp.2.2 q (by omega)⟩) (S.sel [3,4,5] G G) (H.keep [4,13,1,2,6,11,12] rfl)
  try simp only [o1,o2,o3,o4,o5,o6,o7,o8,o9,oa] at hc2
  refine wp_skip ?_
  refine k12 _ _ ?_
  have e9:=(by first|exact tA (p:=(⟨rates,pwn,ptn,pag⟩:Part)) hc2|exact rJ (p:=(⟨rates,pwn,ptn,pag⟩:Part)) hc2:fwd (⟨rates,pwn,ptn,pag⟩:Part) l (k+1)=_)
  replace H:=H.keep [1,2,4,6,11,12,13] rfl
  refine one_list ?_
  refine ls 2 H<|sr 1 rfl<|sd ((aE bD aP rfl S (i:=2) G G))<|sE ?_;clear H a;intro a H
  refine bB H rfl S dG aP bZ G G G G G G G G G ?_;clear H a S;intro A3 _ a hA3 S H
  refine cB H rfl S dG aP bZ Jy G G (i:=4) G G G (ownM.inS S (i:=0) rfl) (jL (two G G)) (by omega) (by omega) ?_;clear H a S;intro A4 c4 _ a S H
  replace S:=S.recell (i:=4) rfl (cell':=fcell (fun q=>fwd (⟨rates,pwn,ptn,pag⟩:Part) l (q+1))) (tY (two (by show _=Value.int .i64 (fwd (⟨rates,pwn,ptn,pag⟩:Part) l (k+1)).1;rw [e9];rfl) (by show _=Value.int .i64 (fwd (⟨rates,pwn,ptn,pag⟩:Part) l (k+1)).2;rw [e9];rfl)))
  refine ls 1 H<|sr 1 rfl<|sE ?_;clear H a;intro a H
  refine k8 _ _ ?_
  refine sO H<|sd (aK G G (by unfold i64ok;omega))<|sr 1 rfl<|sE ?_;clear H a;intro a H
  replace S:=boxM.same S (i:=3) (cs':=[.int .i64 (fwd (⟨rates,pwn,ptn,pag⟩:Part) l (k+1)).1,.int .i64 (fwd (⟨rates,pwn,ptn,pag⟩:Part) l (k+1)).2]) rfl (by rw [e9];rfl)
  exact k5 (g1-1) (k+1,_,_) a _ (by omega) (⟨by omega,by omega,fun q hq=>by
    by_cases h:q=k
    · subst h;first|exact oQ hc2|(intro _;rw [e9];exact hc3)
    · exact hp.2.2 q (by omega)⟩) (S.sel [3,4,5] G G) (H.keep [4,13,1,2,6,11,12] rfl)
 refine wp_exit ?_
 refine k3 _ _ ?_
 replace H:=H.keep [1,4] rfl
 refine sS H fun K22 k22=>sr 2 rfl<|sL dF rfl<|sr 2 rfl<|sE ?_;clear H a;intro a H
 refine k22 _ ?_;clear k22 K22
 refine wp_ret ?_
 refine ret2 (fn:=Tryz.f191) rfl H G G ?_
 have hk9:k=l.length:=by omega
 subst hk9
 exact ⟨_,A',c',⟨Nat.le_refl _,hp.2.2,fun h=>absurd h (Nat.lt_irrefl _)⟩,rfl,(S.sel [1] G G)⟩
end
section
def Worn (w:World) (p:Part) (l:List Use) (v:Value) (w':World):Prop:=
  (IsAt p l l.length∧∃ A' c',v = .tuple #[.slice A' l.length c',.bool true]∧St w noF [ownM 88 2 A' l.length c' (fcell (bP p l))] w')∨(¬ IsAt p l l.length∧v = .tuple #[.slice none 0 0,.bool false]∧St w noF [] w')
theorem uA (rates:List (Int×Int)) (pwn ptn pag:Int) (RA:Option Addr) (rcp:Nat) (l:List Use) (A:Option Addr) (cp:Nat) (w:World) (hr:InS w noF 2 RA rates.length (scell rates)) (hrn:rates.length≤9223372036854775807) (hl:InS w noF 6 A l.length (ucell l)) (hn:l.length≤9223372036854775807) (hok:PartOk (⟨rates,pwn,ptn,pag⟩:Part) l) :
    Calls Tryz.prog 182 [.agg [.slice RA rates.length rcp,.int .i64 pwn,.int .i64 ptn,.int .i64 pag].toArray,.slice A l.length cp].toArray w (Ret (Worn w (⟨rates,pwn,ptn,pag⟩:Part) l)):=by
 refine enter Tryz.func182 rfl Tryz.ntmps182 rfl (fun a H=>?_)
 have S:=St.start w
 refine seq_list fun K1 k1=>?_
 refine aO H rfl S G G ?_;clear H a S;intro b2 _ a hb2 hbw2 S H
 refine ls 2 H<|sr 2 rfl<|sE ?_;clear H a;intro a H
 refine k1 _ _ ?_;clear k1 K1
 by_cases hA:IsAt (⟨rates,pwn,ptn,pag⟩:Part) l l.length
 ·skip
  replace H:=H.keep [1,2] rfl
  refine seq_list fun K2 k2=>?_
  refine ls 2 H<|sd ((aE eS gZ rfl S (i:=0) G G))<|sr 1 rfl<|sE ?_;clear H a;intro a H
  refine aA H G G Tryz.func191 G G (fQ (qT rates pwn ptn pag RA rcp l A cp _ (hr.now S) hrn (hl.now S) hn hok) (fun _ _ ⟨n,A',c',h1,h2,h3⟩=>(⟨A',c',by rw [h1.same hA] at h2;exact h2,by rw [h1.same hA] at h3;exact h3⟩:∃ A' c',_∧_))) ?_;clear H a
  rintro _ _ a ⟨A',c',rfl,S2⟩ H
  replace S:=S.call S2;clear S2
  refine ls 5 H<|sr 5 rfl<|sE ?_;clear H a;intro a H
  refine k2 _ _ ?_;clear k2 K2
  refine wp_seq_k fun K3 k3=>?_
  try have hnl:=hn1.le
  replace H:=H.keep [1,2,6,7] rfl
  refine sS H fun K4 k4=>sr 2 rfl<|sL dF rfl<|sr 1 rfl<|sE ?_;clear H a;intro a H
  refine k4 _ ?_;clear k4 K4
  refine condL H rfl (fun hc1=>?_) (fun hc1=>?_)
  ·skip
   all_goals (exfalso;omega)
  refine wp_skip ?_
  refine k3 _ _ ?_
  refine wp_seq_k fun K5 k5=>?_
  refine sS H fun K6 k6=>sr 1 rfl<|sL dF rfl<|sd (aS G G (by unfold i64ok;omega))<|sr 1 rfl<|sE ?_;clear H a;intro a H
  refine k6 _ ?_;clear k6 K6
  refine wp_block ?_
  have hll:=hok.len
  replace S:=S.recell (i:=0) rfl (cell':=fcell (fun q=>if (l.length:Int)-2<((q:Nat):Int) then bP (⟨rates,pwn,ptn,pag⟩:Part) l q else fwd (⟨rates,pwn,ptn,pag⟩:Part) l (q+1))) (fun q j hq hj=>by
    unfold fcell;congr 1;(try dsimp only);by_cases h1:(l.length:Int)-2<((q:Nat):Int)
    · rw [if_pos h1,lT (show q+1=l.length by omega),show q+1=l.length by omega]
    · rw [if_neg h1])
  refine loop_st (X:=Int) (R0:=_) [1,2,6] H rfl (fun i=>[(8,.int .i64 i)]) (fun i=>[ownM 88 2 A' l.length c' (fcell (fun q=>if i<((q:Nat):Int) then bP (⟨rates,pwn,ptn,pag⟩:Part) l q else fwd (⟨rates,pwn,ptn,pag⟩:Part) l (q+1)))]) (fun g i => -2≤i∧i≤(l.length:Int)-2∧g=(i+2).toNat) (l.length) ((l.length:Int)-2) ?_ (S.sel [0,1] G G) (H.keep [8,1,2,6] rfl) ?_
  · exact ⟨by omega,by omega,by omega⟩
  clear H S a
  intro g1 x1 a w1 hp S H K7 k7
  obtain ⟨i,rfl⟩:∃ y,y=x1:=⟨_,rfl⟩
  refine wp_seq_k fun K8 k8=>?_
  refine sS H fun K9 k9=>sr 2 rfl<|sE ?_;clear H a;intro a H
  refine k9 _ ?_;clear k9 K9
  refine condG H rfl (fun hc2=>?_) (fun hc2=>?_)
  ·skip
   refine wp_skip ?_
   refine k8 _ _ ?_
   refine wp_seq_k fun K10 k10=>?_
   refine wp_block ?_
   have hu:=hok.use (k:=(i+1).toNat) (by omega);unfold useOk at hu;simp only [decide_eq_true_eq] at hu
   have hgb:=kK hok (k:=(i+1).toNat) (by omega)
   have hcls:0≤(l.getD (i+1).toNat Use.zero).cls∧(l.getD (i+1).toNat Use.zero).cls<rates.length:=by
     have:((⟨rates,pwn,ptn,pag⟩:Part).rates.length:Int)=rates.length:=rfl
     omega
   have hll:=hok.len
   replace H:=H.keep [1,2,6,8] rfl
   replace S:=S.drew
   refine seq_wt 999999 (.q 0 (.q 1 (.q 2 (.q 3 (.q 4 (.q 5 (.q 7 (.q 8 (.q 9 (.q 10 (.q 11 (.b3 6 (.b2 12 (.e 13 (.e 14 (.e 15 .nil))) 13 (.e 12 (.e 14 (.e 15 .nil)))) 12 (.b2 6 (.e 13 (.e 14 (.e 15 .nil))) 13 (.e 6 (.e 14 (.e 15 .nil)))) 13 (.b2 6 (.e 12 (.e 14 (.e 15 .nil))) 12 (.e 6 (.e 14 (.e 15 .nil)))))))))))))))) (by kernel_rfl) (by kernel_rfl) (S.sel [0,1] G G) fun K11 k11=>?_
   refine aH H G G (fun _ S=>(aE eS gZ rfl S (i:=1) G G)) ?_;clear H a;intro a H
   refine aH H G G (fun _ S=>aL rfl) ?_;clear H a;intro a H
   refine aH H G G (fun _ S=>aL rfl) ?_;clear H a;intro a H
   refine aH H G G (fun _ S=>aK G G (by unfold i64ok;omega)) ?_;clear H a;intro a H
   refine aH H G G (fun _ S=>bK dF dA G G (hl.adr (by omega)) (by omega) (by omega)) ?_;clear H a;intro a H
   refine aH H G G (fun _ S=>(aU jR dA rfl S hl (by omega) (by omega))) ?_;clear H a;intro a H
   refine aH H G G (fun _ S=>aL rfl) ?_;clear H a;intro a H
   refine aH H G G (fun _ S=>aL rfl) ?_;clear H a;intro a H
   refine aH H G G (fun _ S=>aK G G (by unfold i64ok;omega)) ?_;clear H a;intro a H
   refine aH H G G (fun _ S=>bK dG aP G G (ownM.adr S (i:=0) rfl (by omega)) (by omega) (by omega)) ?_;clear H a;intro a H
   refine aH H G G (fun _ S=>dC (vs:=[.int .i64 (bP (⟨rates,pwn,ptn,pag⟩:Part) l (i+1).toNat).1,.int .i64 (bP (⟨rates,pwn,ptn,pag⟩:Part) l (i+1).toNat).2]) bD aP rfl (lC S (i:=0) rfl (by omega) (if_pos (by omega)))) ?_;clear H a;intro a H
   refine uU G G G ?_ ?_ ?_
   ·skip
    refine aA H G G Tryz.func192 G G (gB rates pwn ptn pag RA rcp (l.getD (i+1).toNat Use.zero) _ (hr.now S) hrn hcls (by unfold i64ok;omega) (by unfold i64ok;omega)) ?_;clear H a
    rintro _ _ a ⟨rfl,S2⟩ H
    replace S:=S.call S2;clear S2
    refine wpList_nil (And.intro (Or.inr (S.sel [0,1] G G)) ?_)
    refine eG G G ?_ ?_
    ·skip
     refine aI H rfl S bZ ?_;clear H a S;intro b9 _ a hb9 hbw9 S H
     refine wpList_nil (And.intro (Or.inr (S.sel [1,2] G G)) ?_)
     refine aM rfl ?_
     refine aI H rfl S bZ ?_;clear H a S;intro b10 _ a hb10 hbw10 S H
     refine wpList_nil (And.intro (Or.inr (S.sel [2,3] G G)) ?_)
     refine aM rfl ?_
     refine aB H S (i:=1) G G G G aP G G ?_
     clear H a S;intro _ a S H
     refine wpList_nil (And.intro (Or.inr (S.sel [2,3] G G)) ?_)
     refine aM rfl ?_
     refine aB H S (i:=0) G G G G aP G G ?_
     clear H a S;intro _ a S H
     refine wpList_nil (And.intro (Or.inr (S.sel [2,3] G G)) ?_)
     refine bH ?_
     refine k11 _ _ ?_
     clear k11 K11
     have hbw:=iX hok (k:=(i+1).toNat) (by omega)
     replace H:=H.keep [1,2,6,8,9,10] rfl
     replace S:=S.drew
     refine one_wt 22 (.q 0 (.q 1 (.q 2 (.q 3 (.q 4 (.q 5 (.q 6 (.q 7 (.q 8 (.q 9 (.q 10 (.q 11 (.q 12 (.q 13 (.q 14 (.q 15 (.q 16 (.e 17 (.q 18 (.q 19 (.p 20 (.q 21 (.e 22 .nil))))))))))))))))))))))) (by kernel_rfl) (by kernel_rfl) (S.sel [0,1,2,3] G G) ?_
     refine aH H G G (fun _ S=>aL rfl) ?_;clear H a;intro a H
     refine aH H G G (fun _ S=>aL rfl) ?_;clear H a;intro a H
     refine aH H G G (fun _ S=>aL rfl) ?_;clear H a;intro a H
     refine aH H G G (fun _ S=>aL rfl) ?_;clear H a;intro a H
     refine aH H G G (fun _ S=>bK dG aP G G (ownM.adr S (i:=2) rfl (by omega)) (by omega) (by omega)) ?_;clear H a;intro a H
     refine aH H G G (fun _ S=>dC (vs:=[.int .i64 (fwd (⟨rates,pwn,ptn,pag⟩:Part) l (i.toNat+1)).1,.int .i64 (fwd (⟨rates,pwn,ptn,pag⟩:Part) l (i.toNat+1)).2]) bD aP rfl (lC S (i:=2) rfl (by omega) (if_neg (by omega)))) ?_;clear H a;intro a H
     refine aH H G G (fun _ S=>(aC bG rfl)) ?_;clear H a;intro a H
     refine aH H G G (fun _ S=>aG aD rfl (boxM.rd S (i:=0) G G)) ?_;clear H a;intro a H
     refine aH H G G (fun _ S=>(aC bF rfl)) ?_;clear H a;intro a H
     refine aH H G G (fun _ S=>aG aD rfl (boxM.rd S (i:=1) G G)) ?_;clear H a;intro a H
     refine aH H G G (fun _ S=>aS G G (by unfold i64ok;omega)) ?_;clear H a;intro a H
     refine aH H G G (fun _ S=>(aC bF rfl)) ?_;clear H a;intro a H
     refine aH H G G (fun _ S=>aG aD rfl (boxM.rd S (i:=0) G G)) ?_;clear H a;intro a H
     refine aH H G G (fun _ S=>(aC bG rfl)) ?_;clear H a;intro a H
     refine aH H G G (fun _ S=>aG aD rfl (boxM.rd S (i:=1) G G)) ?_;clear H a;intro a H
     refine aH H G G (fun _ S=>aS G G (by unfold i64ok;omega)) ?_;clear H a;intro a H
     refine aH H G G (fun _ S=>aR dT G G) ?_;clear H a;intro a H
     refine aM rfl ?_
     refine aA H G G Tryz.func193 G G (fX (fwd (⟨rates,pwn,ptn,pag⟩:Part) l (i.toNat+1)).1 (fwd (⟨rates,pwn,ptn,pag⟩:Part) l (i.toNat+1)).2 _ _ _) ?_;clear H a
     rintro _ _ a ⟨rfl,S2⟩ H
     replace S:=S.call S2;clear S2
     refine wpList_nil (And.intro (Or.inr (S.sel [0,1,2,3] G G)) ?_)
     refine aH H G G (fun _ S=>aL rfl) ?_;clear H a;intro a H
     refine aH H G G (fun _ S=>aN G G) ?_;clear H a;intro a H
     refine bM H G G (fun _=>aN G G) ?_;clear H a;intro a H
     refine aH H G G (fun _ S=>bK dG aP G G (ownM.adr S (i:=2) rfl (by omega)) (by omega) (by omega)) ?_;clear H a;intro a H
     refine aM rfl ?_
     refine dW H S (i:=2) (kk:=i.toNat) G G G (by omega) aP ?_
     clear H a S;intro _ a S H
     have e9:=eC (p:=(⟨rates,pwn,ptn,pag⟩:Part)) (l:=l) (k:=i.toNat) (by omega)
     have e8:i.toNat+1=(i+1).toNat:=by omega
     rw [e8] at e9
     replace S:=S.recell (i:=2) rfl (cell':=fcell (fun q=>if i-1<((q:Nat):Int) then bP (⟨rates,pwn,ptn,pag⟩:Part) l q else fwd (⟨rates,pwn,ptn,pag⟩:Part) l (q+1))) (fun q j hq hj=>by
       unfold fcell;congr 1;(try dsimp only);by_cases h1:q=i.toNat
       · subst h1;rw [if_pos rfl,if_pos (by omega),e9,e8]
       · rw [if_neg h1];by_cases h2:i<(q:Int)
         · rw [if_pos h2,if_pos (by omega)]
         · rw [if_neg h2,if_neg (by omega)])
     refine wpList_nil (And.intro (Or.inl rfl) ?_)
     refine bH ?_
     refine k10 _ _ ?_
     replace H:=H.keep [1,2,6,8] rfl
     refine sO H<|sr 1 rfl<|sd (aS G G (by unfold i64ok;omega))<|sr 1 rfl<|sE ?_;clear H a;intro a H
     exact k7 (g1-1) (i-1) a _ (by omega) (⟨by omega,by omega,by omega⟩) (S.sel [2,3] G G) (H.keep [8,1,2,6] rfl)
    ·skip
     refine aI H rfl S bZ ?_;clear H a S;intro b10 _ a hb10 hbw10 S H
     refine wpList_nil (And.intro (Or.inr (S.sel [1,2] G G)) ?_)
     refine aM rfl ?_
     refine aI H rfl S bZ ?_;clear H a S;intro b9 _ a hb9 hbw9 S H
     refine wpList_nil (And.intro (Or.inr (S.sel [2,3] G G)) ?_)
     refine aM rfl ?_
     refine aB H S (i:=0) G G G G aP G G ?_
     clear H a S;intro _ a S H
     refine wpList_nil (And.intro (Or.inr (S.sel [2,3] G G)) ?_)
     refine aM rfl ?_
     refine aB H S (i:=1) G G G G aP G G ?_
     clear H a S;intro _ a S H
     refine wpList_nil (And.intro (Or.inr (S.sel [2,3] G G)) ?_)
     refine bH ?_
     refine k11 _ _ ?_
     clear k11 K11
     have hbw:=iX hok (k:=(i+1).toNat) (by omega)
     replace H:=H.keep [1,2,6,8,9,10] rfl
     replace S:=S.drew
     refine one_wt 22 (.q 0 (.q 1 (.q 2 (.q 3 (.q 4 (.q 5 (.q 6 (.q 7 (.q 8 (.q 9 (.q 10 (.q 11 (.q 12 (.q 13 (.q 14 (.q 15 (.q 16 (.e 17 (.q 18 (.q 19 (.p 20 (.q 21 (.e 22 .nil))))))))))))))))))))))) (by kernel_rfl) (by kernel_rfl) (S.sel [0,1,2,3] G G) ?_
     refine aH H G G (fun _ S=>aL rfl) ?_;clear H a;intro a H
     refine aH H G G (fun _ S=>aL rfl) ?_;clear H a;intro a H
     refine aH H G G (fun _ S=>aL rfl) ?_;clear H a;intro a H
     refine aH H G G (fun _ S=>aL rfl) ?_;clear H a;intro a H
     refine aH H G G (fun _ S=>bK dG aP G G (ownM.adr S (i:=2) rfl (by omega)) (by omega) (by omega)) ?_;clear H a;intro a H
     refine aH H G G (fun _ S=>dC (vs:=[.int .i64 (fwd (⟨rates,pwn,ptn,pag⟩:Part) l (i.toNat+1)).1,.int .i64 (fwd (⟨rates,pwn,ptn,pag⟩:Part) l (i.toNat+1)).2]) bD aP rfl (lC S (i:=2) rfl (by omega) (if_neg (by omega)))) ?_;clear H a;intro a H
     refine aH H G G (fun _ S=>(aC bG rfl)) ?_;clear H a;intro a H
     refine aH H G G (fun _ S=>aG aD rfl (boxM.rd S (i:=1) G G)) ?_;clear H a;intro a H
     refine aH H G G (fun _ S=>(aC bF rfl)) ?_;clear H a;intro a H
     refine aH H G G (fun _ S=>aG aD rfl (boxM.rd S (i:=0) G G)) ?_;clear H a;intro a H
     refine aH H G G (fun _ S=>aS G G (by unfold i64ok;omega)) ?_;clear H a;intro a H
     refine aH H G G (fun _ S=>(aC bF rfl)) ?_;clear H a;intro a H
     refine aH H G G (fun _ S=>aG aD rfl (boxM.rd S (i:=1) G G)) ?_;clear H a;intro a H
     refine aH H G G (fun _ S=>(aC bG rfl)) ?_;clear H a;intro a H
     refine aH H G G (fun _ S=>aG aD rfl (boxM.rd S (i:=0) G G)) ?_;clear H a;intro a H
     refine aH H G G (fun _ S=>aS G G (by unfold i64ok;omega)) ?_;clear H a;intro a H
     refine aH H G G (fun _ S=>aR dT G G) ?_;clear H a;intro a H
     refine aM rfl ?_
     refine aA H G G Tryz.func193 G G (fX (fwd (⟨rates,pwn,ptn,pag⟩:Part) l (i.toNat+1)).1 (fwd (⟨rates,pwn,ptn,pag⟩:Part) l (i.toNat+1)).2 _ _ _) ?_;clear H a
     rintro _ _ a ⟨rfl,S2⟩ H
     replace S:=S.call S2;clear S2
     refine wpList_nil (And.intro (Or.inr (S.sel [0,1,2,3] G G)) ?_)
     refine aH H G G (fun _ S=>aL rfl) ?_;clear H a;intro a H
     refine aH H G G (fun _ S=>aN G G) ?_;clear H a;intro a H
     refine bM H G G (fun _=>aN G G) ?_;clear H a;intro a H
     refine aH H G G (fun _ S=>bK dG aP G G (ownM.adr S (i:=2) rfl (by omega)) (by omega) (by omega)) ?_;clear H a;intro a H
     refine aM rfl ?_
     refine dW H S (i:=2) (kk:=i.toNat) G G G (by omega) aP ?_
     clear H a S;intro _ a S H
     have e9:=eC (p:=(⟨rates,pwn,ptn,pag⟩:Part)) (l:=l) (k:=i.toNat) (by omega)
     have e8:i.toNat+1=(i+1).toNat:=by omega
     rw [e8] at e9
     replace S:=S.recell (i:=2) rfl (cell':=fcell (fun q=>if i-1<((q:Nat):Int) then bP (⟨rates,pwn,ptn,pag⟩:Part) l q else fwd (⟨rates,pwn,ptn,pag⟩:Part) l (q+1))) (fun q j hq hj=>by
       unfold fcell;congr 1;(try dsimp only);by_cases h1:q=i.toNat
       · subst h1;rw [if_pos rfl,if_pos (by omega),e9,e8]
       · rw [if_neg h1];by_cases h2:i<(q:Int)
         · rw [if_pos h2,if_pos (by omega)]
         · rw [if_neg h2,if_neg (by omega)])
     refine wpList_nil (And.intro (Or.inl rfl) ?_)
     refine bH ?_
     refine k10 _ _ ?_
     replace H:=H.keep [1,2,6,8] rfl
     refine sO H<|sr 1 rfl<|sd (aS G G (by unfold i64ok;omega))<|sr 1 rfl<|sE ?_;clear H a;intro a H
     exact k7 (g1-1) (i-1) a _ (by omega) (⟨by omega,by omega,by omega⟩) (S.sel [2,3] G G) (H.keep [8,1,2,6] rfl)
   ·skip
    refine aI H rfl S bZ ?_;clear H a S;intro b9 _ a hb9 hbw9 S H
    refine wpList_nil (And.intro (Or.inr (S.sel [1,2] G G)) ?_)
    refine eG G G ?_ ?_
    ·skip
     refine aA H G G Tryz.func192 G G (gB rates pwn ptn pag RA rcp (l.getD (i+1).toNat Use.zero) _ (hr.now S) hrn hcls (by unfold i64ok;omega) (by unfold i64ok;omega)) ?_;clear H a
     rintro _ _ a ⟨rfl,S2⟩ H
     replace S:=S.call S2;clear S2
     refine wpList_nil (And.intro (Or.inr (S.sel [1,2] G G)) ?_)
     refine aM rfl ?_
     refine aI H rfl S bZ ?_;clear H a S;intro b10 _ a hb10 hbw10 S H
     refine wpList_nil (And.intro (Or.inr (S.sel [2,3] G G)) ?_)
     refine aM rfl ?_
     refine aB H S (i:=1) G G G G aP G G ?_
     clear H a S;intro _ a S H
     refine wpList_nil (And.intro (Or.inr (S.sel [2,3] G G)) ?_)
     refine aM rfl ?_
     refine aB H S (i:=0) G G G G aP G G ?_
     clear H a S;intro _ a S H
     refine wpList_nil (And.intro (Or.inr (S.sel [2,3] G G)) ?_)
     refine bH ?_
     refine k11 _ _ ?_
     clear k11 K11
     have hbw:=iX hok (k:=(i+1).toNat) (by omega)
     replace H:=H.keep [1,2,6,8,9,10] rfl
     replace S:=S.drew
     refine one_wt 22 (.q 0 (.q 1 (.q 2 (.q 3 (.q 4 (.q 5 (.q 6 (.q 7 (.q 8 (.q 9 (.q 10 (.q 11 (.q 12 (.q 13 (.q 14 (.q 15 (.q 16 (.e 17 (.q 18 (.q 19 (.p 20 (.q 21 (.e 22 .nil))))))))))))))))))))))) (by kernel_rfl) (by kernel_rfl) (S.sel [0,1,2,3] G G) ?_
     refine aH H G G (fun _ S=>aL rfl) ?_;clear H a;intro a H
     refine aH H G G (fun _ S=>aL rfl) ?_;clear H a;intro a H
     refine aH H G G (fun _ S=>aL rfl) ?_;clear H a;intro a H
     refine aH H G G (fun _ S=>aL rfl) ?_;clear H a;intro a H
     refine aH H G G (fun _ S=>bK dG aP G G (ownM.adr S (i:=2) rfl (by omega)) (by omega) (by omega)) ?_;clear H a;intro a H
     refine aH H G G (fun _ S=>dC (vs:=[.int .i64 (fwd (⟨rates,pwn,ptn,pag⟩:Part) l (i.toNat+1)).1,.int .i64 (fwd (⟨rates,pwn,ptn,pag⟩:Part) l (i.toNat+1)).2]) bD aP rfl (lC S (i:=2) rfl (by omega) (if_neg (by omega)))) ?_;clear H a;intro a H
     refine aH H G G (fun _ S=>(aC bG rfl)) ?_;clear H a;intro a H
     refine aH H G G (fun _ S=>aG aD rfl (boxM.rd S (i:=0) G G)) ?_;clear H a;intro a H
     refine aH H G G (fun _ S=>(aC bF rfl)) ?_;clear H a;intro a H
     refine aH H G G (fun _ S=>aG aD rfl (boxM.rd S (i:=1) G G)) ?_;clear H a;intro a H
     refine aH H G G (fun _ S=>aS G G (by unfold i64ok;omega)) ?_;clear H a;intro a H
     refine aH H G G (fun _ S=>(aC bF rfl)) ?_;clear H a;intro a H
     refine aH H G G (fun _ S=>aG aD rfl (boxM.rd S (i:=0) G G)) ?_;clear H a;intro a H
     refine aH H G G (fun _ S=>(aC bG rfl)) ?_;clear H a;intro a H
     refine aH H G G (fun _ S=>aG aD rfl (boxM.rd S (i:=1) G G)) ?_;clear H a;intro a H
     refine aH H G G (fun _ S=>aS G G (by unfold i64ok;omega)) ?_;clear H a;intro a H
     refine aH H G G (fun _ S=>aR dT G G) ?_;clear H a;intro a H
     refine aM rfl ?_
     refine aA H G G Tryz.func193 G G (fX (fwd (⟨rates,pwn,ptn,pag⟩:Part) l (i.toNat+1)).1 (fwd (⟨rates,pwn,ptn,pag⟩:Part) l (i.toNat+1)).2 _ _ _) ?_;clear H a
     rintro _ _ a ⟨rfl,S2⟩ H
     replace S:=S.call S2;clear S2
     refine wpList_nil (And.intro (Or.inr (S.sel [0,1,2,3] G G)) ?_)
     refine aH H G G (fun _ S=>aL rfl) ?_;clear H a;intro a H
     refine aH H G G (fun _ S=>aN G G) ?_;clear H a;intro a H
     refine bM H G G (fun _=>aN G G) ?_;clear H a;intro a H
     refine aH H G G (fun _ S=>bK dG aP G G (ownM.adr S (i:=2) rfl (by omega)) (by omega) (by omega)) ?_;clear H a;intro a H
     refine aM rfl ?_
     refine dW H S (i:=2) (kk:=i.toNat) G G G (by omega) aP ?_
     clear H a S;intro _ a S H
     have e9:=eC (p:=(⟨rates,pwn,ptn,pag⟩:Part)) (l:=l) (k:=i.toNat) (by omega)
     have e8:i.toNat+1=(i+1).toNat:=by omega
     rw [e8] at e9
     replace S:=S.recell (i:=2) rfl (cell':=fcell (fun q=>if i-1<((q:Nat):Int) then bP (⟨rates,pwn,ptn,pag⟩:Part) l q else fwd (⟨rates,pwn,ptn,pag⟩:Part) l (q+1))) (fun q j hq hj=>by
       unfold fcell;congr 1;(try dsimp only);by_cases h1:q=i.toNat
       · subst h1;rw [if_pos rfl,if_pos (by omega),e9,e8]
       · rw [if_neg h1];by_cases h2:i<(q:Int)
         · rw [if_pos h2,if_pos (by omega)]
         · rw [if_neg h2,if_neg (by omega)])
     refine wpList_nil (And.intro (Or.inl rfl) ?_)
     refine bH ?_
     refine k10 _ _ ?_
     replace H:=H.keep [1,2,6,8] rfl
     refine sO H<|sr 1 rfl<|sd (aS G G (by unfold i64ok;omega))<|sr 1 rfl<|sE ?_;clear H a;intro a H
     exact k7 (g1-1) (i-1) a _ (by omega) (⟨by omega,by omega,by omega⟩) (S.sel [2,3] G G) (H.keep [8,1,2,6] rfl)
    ·skip
     refine aI H rfl S bZ ?_;clear H a S;intro b10 _ a hb10 hbw10 S H
     refine wpList_nil (And.intro (Or.inr (S.sel [2,3] G G)) ?_)
     refine aM rfl ?_
     refine aA H G G Tryz.func192 G G (gB rates pwn ptn pag RA rcp (l.getD (i+1).toNat Use.zero) _ (hr.now S) hrn hcls (by unfold i64ok;omega) (by unfold i64ok;omega)) ?_;clear H a
     rintro _ _ a ⟨rfl,S2⟩ H
     replace S:=S.call S2;clear S2
     refine wpList_nil (And.intro (Or.inr (S.sel [2,3] G G)) ?_)
     refine aM rfl ?_
     refine aB H S (i:=1) G G G G aP G G ?_
     clear H a S;intro _ a S H
     refine wpList_nil (And.intro (Or.inr (S.sel [2,3] G G)) ?_)
     refine aM rfl ?_
     refine aB H S (i:=0) G G G G aP G G ?_
     clear H a S;intro _ a S H
     refine wpList_nil (And.intro (Or.inr (S.sel [2,3] G G)) ?_)
     refine bH ?_
     refine k11 _ _ ?_
     clear k11 K11
     have hbw:=iX hok (k:=(i+1).toNat) (by omega)
     replace H:=H.keep [1,2,6,8,9,10] rfl
     replace S:=S.drew
     refine one_wt 22 (.q 0 (.q 1 (.q 2 (.q 3 (.q 4 (.q 5 (.q 6 (.q 7 (.q 8 (.q 9 (.q 10 (.q 11 (.q 12 (.q 13 (.q 14 (.q 15 (.q 16 (.e 17 (.q 18 (.q 19 (.p 20 (.q 21 (.e 22 .nil))))))))))))))))))))))) (by kernel_rfl) (by kernel_rfl) (S.sel [0,1,2,3] G G) ?_
     refine aH H G G (fun _ S=>aL rfl) ?_;clear H a;intro a H
     refine aH H G G (fun _ S=>aL rfl) ?_;clear H a;intro a H
     refine aH H G G (fun _ S=>aL rfl) ?_;clear H a;intro a H
     refine aH H G G (fun _ S=>aL rfl) ?_;clear H a;intro a H
     refine aH H G G (fun _ S=>bK dG aP G G (ownM.adr S (i:=2) rfl (by omega)) (by omega) (by omega)) ?_;clear H a;intro a H
     refine aH H G G (fun _ S=>dC (vs:=[.int .i64 (fwd (⟨rates,pwn,ptn,pag⟩:Part) l (i.toNat+1)).1,.int .i64 (fwd (⟨rates,pwn,ptn,pag⟩:Part) l (i.toNat+1)).2]) bD aP rfl (lC S (i:=2) rfl (by omega) (if_neg (by omega)))) ?_;clear H a;intro a H
     refine aH H G G (fun _ S=>(aC bG rfl)) ?_;clear H a;intro a H
     refine aH H G G (fun _ S=>aG aD rfl (boxM.rd S (i:=0) G G)) ?_;clear H a;intro a H
     refine aH H G G (fun _ S=>(aC bF rfl)) ?_;clear H a;intro a H
     refine aH H G G (fun _ S=>aG aD rfl (boxM.rd S (i:=1) G G)) ?_;clear H a;intro a H
     refine aH H G G (fun _ S=>aS G G (by unfold i64ok;omega)) ?_;clear H a;intro a H
     refine aH H G G (fun _ S=>(aC bF rfl)) ?_;clear H a;intro a H
     refine aH H G G (fun _ S=>aG aD rfl (boxM.rd S (i:=0) G G)) ?_;clear H a;intro a H
     refine aH H G G (fun _ S=>(aC bG rfl)) ?_;clear H a;intro a H
     refine aH H G G (fun _ S=>aG aD rfl (boxM.rd S (i:=1) G G)) ?_;clear H a;intro a H
     refine aH H G G (fun _ S=>aS G G (by unfold i64ok;omega)) ?_;clear H a;intro a H
     refine aH H G G (fun _ S=>aR dT G G) ?_;clear H a;intro a H
     refine aM rfl ?_
     refine aA H G G Tryz.func193 G G (fX (fwd (⟨rates,pwn,ptn,pag⟩:Part) l (i.toNat+1)).1 (fwd (⟨rates,pwn,ptn,pag⟩:Part) l (i.toNat+1)).2 _ _ _) ?_;clear H a
     rintro _ _ a ⟨rfl,S2⟩ H
     replace S:=S.call S2;clear S2
     refine wpList_nil (And.intro (Or.inr (S.sel [0,1,2,3] G G)) ?_)
     refine aH H G G (fun _ S=>aL rfl) ?_;clear H a;intro a H
     refine aH H G G (fun _ S=>aN G G) ?_;clear H a;intro a H
     refine bM H G G (fun _=>aN G G) ?_;clear H a;intro a H
     refine aH H G G (fun _ S=>bK dG aP G G (ownM.adr S (i:=2) rfl (by omega)) (by omega) (by omega)) ?_;clear H a;intro a H
     refine aM rfl ?_
     refine dW H S (i:=2) (kk:=i.toNat) G G G (by omega) aP ?_
     clear H a S;intro _ a S H
     have e9:=eC (p:=(⟨rates,pwn,ptn,pag⟩:Part)) (l:=l) (k:=i.toNat) (by omega)
     have e8:i.toNat+1=(i+1).toNat:=by omega
     rw [e8] at e9
     replace S:=S.recell (i:=2) rfl (cell':=fcell (fun q=>if i-1<((q:Nat):Int) then bP (⟨rates,pwn,ptn,pag⟩:Part) l q else fwd (⟨rates,pwn,ptn,pag⟩:Part) l (q+1))) (fun q j hq hj=>by
       unfold fcell;congr 1;(try dsimp only);by_cases h1:q=i.toNat
       · subst h1;rw [if_pos rfl,if_pos (by omega),e9,e8]
       · rw [if_neg h1];by_cases h2:i<(q:Int)
         · rw [if_pos h2,if_pos (by omega)]
         · rw [if_neg h2,if_neg (by omega)])
     refine wpList_nil (And.intro (Or.inl rfl) ?_)
     refine bH ?_
     refine k10 _ _ ?_
     replace H:=H.keep [1,2,6,8] rfl
     refine sO H<|sr 1 rfl<|sd (aS G G (by unfold i64ok;omega))<|sr 1 rfl<|sE ?_;clear H a;intro a H
     exact k7 (g1-1) (i-1) a _ (by omega) (⟨by omega,by omega,by omega⟩) (S.sel [2,3] G G) (H.keep [8,1,2,6] rfl)
   ·skip
    refine aI H rfl S bZ ?_;clear H a S;intro b10 _ a hb10 hbw10 S H
    refine wpList_nil (And.intro (Or.inr (S.sel [1,2] G G)) ?_)
    refine eG G G ?_ ?_
    ·skip
     refine aA H G G Tryz.func192 G G (gB rates pwn ptn pag RA rcp (l.getD (i+1).toNat Use.zero) _ (hr.now S) hrn hcls (by unfold i64ok;omega) (by unfold i64ok;omega)) ?_;clear H a
     rintro _ _ a ⟨rfl,S2⟩ H
     replace S:=S.call S2;clear S2
     refine wpList_nil (And.intro (Or.inr (S.sel [1,2] G G)) ?_)
     refine aM rfl ?_
     refine aI H rfl S bZ ?_;clear H a S;intro b9 _ a hb9 hbw9 S H
     refine wpList_nil (And.intro (Or.inr (S.sel [2,3] G G)) ?_)
     refine aM rfl ?_
     refine aB H S (i:=0) G G G G aP G G ?_
     clear H a S;intro _ a S H
     refine wpList_nil (And.intro (Or.inr (S.sel [2,3] G G)) ?_)
     refine aM rfl ?_
     refine aB H S (i:=1) G G G G aP G G ?_
     clear H a S;intro _ a S H
     refine wpList_nil (And.intro (Or.inr (S.sel [2,3] G G)) ?_)
     refine bH ?_
     refine k11 _ _ ?_
     clear k11 K11
     have hbw:=iX hok (k:=(i+1).toNat) (by omega)
     replace H:=H.keep [1,2,6,8,9,10] rfl
     replace S:=S.drew
     refine one_wt 22 (.q 0 (.q 1 (.q 2 (.q 3 (.q 4 (.q 5 (.q 6 (.q 7 (.q 8 (.q 9 (.q 10 (.q 11 (.q 12 (.q 13 (.q 14 (.q 15 (.q 16 (.e 17 (.q 18 (.q 19 (.p 20 (.q 21 (.e 22 .nil))))))))))))))))))))))) (by kernel_rfl) (by kernel_rfl) (S.sel [0,1,2,3] G G) ?_
     refine aH H G G (fun _ S=>aL rfl) ?_;clear H a;intro a H
     refine aH H G G (fun _ S=>aL rfl) ?_;clear H a;intro a H
     refine aH H G G (fun _ S=>aL rfl) ?_;clear H a;intro a H
     refine aH H G G (fun _ S=>aL rfl) ?_;clear H a;intro a H
     refine aH H G G (fun _ S=>bK dG aP G G (ownM.adr S (i:=2) rfl (by omega)) (by omega) (by omega)) ?_;clear H a;intro a H
     refine aH H G G (fun _ S=>dC (vs:=[.int .i64 (fwd (⟨rates,pwn,ptn,pag⟩:Part) l (i.toNat+1)).1,.int .i64 (fwd (⟨rates,pwn,ptn,pag⟩:Part) l (i.toNat+1)).2]) bD aP rfl (lC S (i:=2) rfl (by omega) (if_neg (by omega)))) ?_;clear H a;intro a H
     refine aH H G G (fun _ S=>(aC bG rfl)) ?_;clear H a;intro a H
     refine aH H G G (fun _ S=>aG aD rfl (boxM.rd S (i:=1) G G)) ?_;clear H a;intro a H
     refine aH H G G (fun _ S=>(aC bF rfl)) ?_;clear H a;intro a H
     refine aH H G G (fun _ S=>aG aD rfl (boxM.rd S (i:=0) G G)) ?_;clear H a;intro a H
     refine aH H G G (fun _ S=>aS G G (by unfold i64ok;omega)) ?_;clear H a;intro a H
     refine aH H G G (fun _ S=>(aC bF rfl)) ?_;clear H a;intro a H
     refine aH H G G (fun _ S=>aG aD rfl (boxM.rd S (i:=1) G G)) ?_;clear H a;intro a H
     refine aH H G G (fun _ S=>(aC bG rfl)) ?_;clear H a;intro a H
     refine aH H G G (fun _ S=>aG aD rfl (boxM.rd S (i:=0) G G)) ?_;clear H a;intro a H
     refine aH H G G (fun _ S=>aS G G (by unfold i64ok;omega)) ?_;clear H a;intro a H
     refine aH H G G (fun _ S=>aR dT G G) ?_;clear H a;intro a H
     refine aM rfl ?_
     refine aA H G G Tryz.func193 G G (fX (fwd (⟨rates,pwn,ptn,pag⟩:Part) l (i.toNat+1)).1 (fwd (⟨rates,pwn,ptn,pag⟩:Part) l (i.toNat+1)).2 _ _ _) ?_;clear H a
     rintro _ _ a ⟨rfl,S2⟩ H
     replace S:=S.call S2;clear S2
     refine wpList_nil (And.intro (Or.inr (S.sel [0,1,2,3] G G)) ?_)
     refine aH H G G (fun _ S=>aL rfl) ?_;clear H a;intro a H
     refine aH H G G (fun _ S=>aN G G) ?_;clear H a;intro a H
     refine bM H G G (fun _=>aN G G) ?_;clear H a;intro a H
     refine aH H G G (fun _ S=>bK dG aP G G (ownM.adr S (i:=2) rfl (by omega)) (by omega) (by omega)) ?_;clear H a;intro a H
     refine aM rfl ?_
     refine dW H S (i:=2) (kk:=i.toNat) G G G (by omega) aP ?_
     clear H a S;intro _ a S H
     have e9:=eC (p:=(⟨rates,pwn,ptn,pag⟩:Part)) (l:=l) (k:=i.toNat) (by omega)
     have e8:i.toNat+1=(i+1).toNat:=by omega
     rw [e8] at e9
     replace S:=S.recell (i:=2) rfl (cell':=fcell (fun q=>if i-1<((q:Nat):Int) then bP (⟨rates,pwn,ptn,pag⟩:Part) l q else fwd (⟨rates,pwn,ptn,pag⟩:Part) l (q+1))) (fun q j hq hj=>by
       unfold fcell;congr 1;(try dsimp only);by_cases h1:q=i.toNat
       · subst h1;rw [if_pos rfl,if_pos (by omega),e9,e8]
       · rw [if_neg h1];by_cases h2:i<(q:Int)
         · rw [if_pos h2,if_pos (by omega)]
         · rw [if_neg h2,if_neg (by omega)])
     refine wpList_nil (And.intro (Or.inl rfl) ?_)
     refine bH ?_
     refine k10 _ _ ?_
     replace H:=H.keep [1,2,6,8] rfl
     refine sO H<|sr 1 rfl<|sd (aS G G (by unfold i64ok;omega))<|sr 1 rfl<|sE ?_;clear H a;intro a H
     exact k7 (g1-1) (i-1) a _ (by omega) (⟨by omega,by omega,by omega⟩) (S.sel [2,3] G G) (H.keep [8,1,2,6] rfl)
    ·skip
     refine aI H rfl S bZ ?_;clear H a S;intro b9 _ a hb9 hbw9 S H
     refine wpList_nil (And.intro (Or.inr (S.sel [2,3] G G)) ?_)
     refine aM rfl ?_
     refine aA H G G Tryz.func192 G G (gB rates pwn ptn pag RA rcp (l.getD (i+1).toNat Use.zero) _ (hr.now S) hrn hcls (by unfold i64ok;omega) (by unfold i64ok;omega)) ?_;clear H a
     rintro _ _ a ⟨rfl,S2⟩ H
     replace S:=S.call S2;clear S2
     refine wpList_nil (And.intro (Or.inr (S.sel [2,3] G G)) ?_)
     refine aM rfl ?_
     refine aB H S (i:=0) G G G G aP G G ?_
     clear H a S;intro _ a S H
     refine wpList_nil (And.intro (Or.inr (S.sel [2,3] G G)) ?_)
     refine aM rfl ?_
     refine aB H S (i:=1) G G G G aP G G ?_
     clear H a S;intro _ a S H
     refine wpList_nil (And.intro (Or.inr (S.sel [2,3] G G)) ?_)
     refine bH ?_
     refine k11 _ _ ?_
     clear k11 K11
     have hbw:=iX hok (k:=(i+1).toNat) (by omega)
     replace H:=H.keep [1,2,6,8,9,10] rfl
     replace S:=S.drew
     refine one_wt 22 (.q 0 (.q 1 (.q 2 (.q 3 (.q 4 (.q 5 (.q 6 (.q 7 (.q 8 (.q 9 (.q 10 (.q 11 (.q 12 (.q 13 (.q 14 (.q 15 (.q 16 (.e 17 (.q 18 (.q 19 (.p 20 (.q 21 (.e 22 .nil))))))))))))))))))))))) (by kernel_rfl) (by kernel_rfl) (S.sel [0,1,2,3] G G) ?_
     refine aH H G G (fun _ S=>aL rfl) ?_;clear H a;intro a H
     refine aH H G G (fun _ S=>aL rfl) ?_;clear H a;intro a H
     refine aH H G G (fun _ S=>aL rfl) ?_;clear H a;intro a H
     refine aH H G G (fun _ S=>aL rfl) ?_;clear H a;intro a H
     refine aH H G G (fun _ S=>bK dG aP G G (ownM.adr S (i:=2) rfl (by omega)) (by omega) (by omega)) ?_;clear H a;intro a H
     refine aH H G G (fun _ S=>dC (vs:=[.int .i64 (fwd (⟨rates,pwn,ptn,pag⟩:Part) l (i.toNat+1)).1,.int .i64 (fwd (⟨rates,pwn,ptn,pag⟩:Part) l (i.toNat+1)).2]) bD aP rfl (lC S (i:=2) rfl (by omega) (if_neg (by omega)))) ?_;clear H a;intro a H
     refine aH H G G (fun _ S=>(aC bG rfl)) ?_;clear H a;intro a H
     refine aH H G G (fun _ S=>aG aD rfl (boxM.rd S (i:=1) G G)) ?_;clear H a;intro a H
     refine aH H G G (fun _ S=>(aC bF rfl)) ?_;clear H a;intro a H
     refine aH H G G (fun _ S=>aG aD rfl (boxM.rd S (i:=0) G G)) ?_;clear H a;intro a H
     refine aH H G G (fun _ S=>aS G G (by unfold i64ok;omega)) ?_;clear H a;intro a H
     refine aH H G G (fun _ S=>(aC bF rfl)) ?_;clear H a;intro a H
     refine aH H G G (fun _ S=>aG aD rfl (boxM.rd S (i:=1) G G)) ?_;clear H a;intro a H
     refine aH H G G (fun _ S=>(aC bG rfl)) ?_;clear H a;intro a H
     refine aH H G G (fun _ S=>aG aD rfl (boxM.rd S (i:=0) G G)) ?_;clear H a;intro a H
     refine aH H G G (fun _ S=>aS G G (by unfold i64ok;omega)) ?_;clear H a;intro a H
     refine aH H G G (fun _ S=>aR dT G G) ?_;clear H a;intro a H
     refine aM rfl ?_
     refine aA H G G Tryz.func193 G G (fX (fwd (⟨rates,pwn,ptn,pag⟩:Part) l (i.toNat+1)).1 (fwd (⟨rates,pwn,ptn,pag⟩:Part) l (i.toNat+1)).2 _ _ _) ?_;clear H a
     rintro _ _ a ⟨rfl,S2⟩ H
     replace S:=S.call S2;clear S2
     refine wpList_nil (And.intro (Or.inr (S.sel [0,1,2,3] G G)) ?_)
     refine aH H G G (fun _ S=>aL rfl) ?_;clear H a;intro a H
     refine aH H G G (fun _ S=>aN G G) ?_;clear H a;intro a H
     refine bM H G G (fun _=>aN G G) ?_;clear H a;intro a H
     refine aH H G G (fun _ S=>bK dG aP G G (ownM.adr S (i:=2) rfl (by omega)) (by omega) (by omega)) ?_;clear H a;intro a H
     refine aM rfl ?_
     refine dW H S (i:=2) (kk:=i.toNat) G G G (by omega) aP ?_
     clear H a S;intro _ a S H
     have e9:=eC (p:=(⟨rates,pwn,ptn,pag⟩:Part)) (l:=l) (k:=i.toNat) (by omega)
     have e8:i.toNat+1=(i+1).toNat:=by omega
     rw [e8] at e9
     replace S:=S.recell (i:=2) rfl (cell':=fcell (fun q=>if i-1<((q:Nat):Int) then bP (⟨rates,pwn,ptn,pag⟩:Part) l q else fwd (⟨rates,pwn,ptn,pag⟩:Part) l (q+1))) (fun q j hq hj=>by
       unfold fcell;congr 1;(try dsimp only);by_cases h1:q=i.toNat
       · subst h1;rw [if_pos rfl,if_pos (by omega),e9,e8]
       · rw [if_neg h1];by_cases h2:i<(q:Int)
         · rw [if_pos h2,if_pos (by omega)]
         · rw [if_neg h2,if_neg (by omega)])
     refine wpList_nil (And.intro (Or.inl rfl) ?_)
     refine bH ?_
     refine k10 _ _ ?_
     replace H:=H.keep [1,2,6,8] rfl
     refine sO H<|sr 1 rfl<|sd (aS G G (by unfold i64ok;omega))<|sr 1 rfl<|sE ?_;clear H a;intro a H
     exact k7 (g1-1) (i-1) a _ (by omega) (⟨by omega,by omega,by omega⟩) (S.sel [2,3] G G) (H.keep [8,1,2,6] rfl)
  refine wp_exit ?_
  refine k5 _ _ ?_
  refine sS H fun K24 k24=>sr 3 rfl<|sE ?_;clear H a;intro a H
  refine k24 _ ?_;clear k24 K24
  refine wp_ret ?_
  refine ret2 (fn:=Tryz.f182) rfl H G G ?_
  refine .inl ⟨hA,A',c',rfl,?_⟩
  replace S:=S.recell (i:=0) rfl (cell':=fcell (bP (⟨rates,pwn,ptn,pag⟩:Part) l)) (fun q j hq hj=>by unfold fcell;congr 1;exact if_pos (by omega))
  exact (S.sel [0] G G)
 replace H:=H.keep [1,2] rfl
 refine seq_list fun K25 k25=>?_
 refine ls 2 H<|sd ((aE eS gZ rfl S (i:=0) G G))<|sr 1 rfl<|sE ?_;clear H a;intro a H
 refine aA H G G Tryz.func191 G G (qT rates pwn ptn pag RA rcp l A cp _ (hr.now S) hrn (hl.now S) hn hok) ?_;clear H a
 rintro _ _ a ⟨n,A',c',hn1,rfl,S2⟩ H
 replace S:=S.call S2;clear S2
 refine ls 5 H<|sr 5 rfl<|sE ?_;clear H a;intro a H
 refine k25 _ _ ?_;clear k25 K25
 refine wp_seq_k fun K26 k26=>?_
 try have hnl:=hn1.le
 replace H:=H.keep [1,2,6,7] rfl
 refine sS H fun K27 k27=>sr 2 rfl<|sL dF rfl<|sr 1 rfl<|sE ?_;clear H a;intro a H
 refine k27 _ ?_;clear k27 K27
 refine condL H rfl (fun hc3=>?_) (fun hc3=>?_)
 ·skip
  refine sS H fun K28 k28=>sr 2 rfl<|sE ?_;clear H a;intro a H
  refine k28 _ ?_;clear k28 K28
  refine wp_ret ?_
  refine ret2 (fn:=Tryz.f182) rfl H G G ?_
  exact .inr ⟨hA,rfl,(S.sel [] G G)⟩
 exfalso
 have hnn:n=l.length:=by omega
 exact hA (hnn ▸ hn1)
end
section
theorem Nf {w:World} {p:Part} {l:List Use} {v:Value} {w':World} (hA:IsAt p l l.length) (h:Worn w p l v w'):∃ A' c',v = .tuple #[.slice A' l.length c',.bool true]∧St w noF [ownM 88 2 A' l.length c' (fcell (bP p l))] w':=by
  rcases h with ⟨_,h⟩|⟨h,_⟩
  · exact h
  · exact absurd hA h
theorem Rv {w:World} {p:Part} {l:List Use} {v:Value} {w':World} (hA:¬ IsAt p l l.length) (h:Worn w p l v w'):v = .tuple #[.slice none 0 0,.bool false]∧St w noF [] w':=by
  rcases h with ⟨h,_⟩|⟨_,h⟩
  · exact absurd h hA
  · exact h
end
section
theorem pD {n:Nat} {l:List Use}:∀ {k:Nat},dU n l k=true→0≤prevD l k:=by
  intro k
  induction k with
  | zero=>intro _;exact Int.le_refl _
  | succ k ih=>
    intro h
    unfold dU at h
    rw [gQ (n:=0),Bool.and_eq_true] at h
    have h1:=ih h.1
    have h2:=h.2
    unfold useOk at h2
    simp only [decide_eq_true_eq] at h2
    show 0≤(l.getD k Use.zero).day
    omega
def FwdR (w:World) (p:Part) (l:List Use) (v:Value) (w':World):Prop:=
  (atN p l=l.length∧∃ A' c',v = .tuple #[.slice A' l.length c',.int .i64 (-1)]∧St w noF [ownM 88 2 A' l.length c' (fcell fun q=>fwd p l (q+1))] w')∨(atN p l<l.length∧v = .tuple #[.slice none 0 0,.int .i64 (atN p l:Int)]∧St w noF [] w')
theorem Ng {w:World} {p:Part} {l:List Use} {v:Value} {w':World} (hA:atN p l=l.length) (h:FwdR w p l v w'):∃ A' c',v = .tuple #[.slice A' l.length c',.int .i64 (-1)]∧St w noF [ownM 88 2 A' l.length c' (fcell fun q=>fwd p l (q+1))] w':=by
  rcases h with ⟨_,h⟩|⟨h,_⟩
  · exact h
  · omega
theorem Rw {w:World} {p:Part} {l:List Use} {v:Value} {w':World} (hA:atN p l<l.length) (h:FwdR w p l v w'):v = .tuple #[.slice none 0 0,.int .i64 (atN p l:Int)]∧St w noF [] w':=by
  rcases h with ⟨h,_⟩|⟨_,h⟩
  · omega
  · exact h
def WearR (w:World) (p:Part) (l:List Use) (v:Value) (w':World):Prop:=
  (wearE p l=0∧∃ A' c',v = .tuple #[.slice A' l.length c',.int .i64 0]∧St w noF [ownM 88 2 A' l.length c' (fcell (bP p l))] w')∨(wearE p l≠0∧v = .tuple #[.slice none 0 0,.int .i64 (wearE p l)]∧St w noF [] w')
theorem Hs {w:World} {p:Part} {l:List Use} {v:Value} {w':World} (hA:wearE p l=0) (h:WearR w p l v w'):∃ A' c',v = .tuple #[.slice A' l.length c',.int .i64 0]∧St w noF [ownM 88 2 A' l.length c' (fcell (bP p l))] w':=by
  rcases h with ⟨_,h⟩|⟨h,_⟩
  · exact h
  · exact absurd hA h
theorem Nh {w:World} {p:Part} {l:List Use} {v:Value} {w':World} (hA:wearE p l≠0) (h:WearR w p l v w'):v = .tuple #[.slice none 0 0,.int .i64 (wearE p l)]∧St w noF [] w':=by
  rcases h with ⟨h,_⟩|⟨_,h⟩
  · exact absurd h hA
  · exact h
theorem mY (rates:List (Int×Int)) (pwn ptn pag:Int) (RA:Option Addr) (rcp:Nat) (l:List Use) (A:Option Addr) (cp:Nat) (w:World) (hr:InS w noF 2 RA rates.length (scell rates)) (hrn:rates.length≤9223372036854775807) (hl:InS w noF 6 A l.length (ucell l)) (hn:l.length≤9223372036854775807) :
    Calls Tryz.prog 126 [.agg [.slice RA rates.length rcp,.int .i64 pwn,.int .i64 ptn,.int .i64 pag].toArray,.slice A l.length cp].toArray w (Ret (fun v w'=>v = .int .i64 (cE (⟨rates,pwn,ptn,pag⟩:Part) l)∧St w noF [] w')):=by
 refine enter Tryz.func126 rfl Tryz.ntmps126 rfl (fun a H=>?_)
 have S:=St.start w
 refine seq_list fun K1 k1=>?_
 refine aO H rfl S G G ?_;clear H a S;intro b2 _ a hb2 hbw2 S H
 refine ls 1 H<|sr 1 rfl<|sE ?_;clear H a;intro a H
 refine k1 _ _ ?_;clear k1 K1
 refine wp_seq_k fun K2 k2=>?_
 replace H:=H.keep [1,2] rfl
 refine sS H fun K3 k3=>sf fB rfl<|sl S 0 hY G G G<|sL dG rfl<|sc rfl Tryz.func158 G G (gS _ _ _ _)<|sr 2 rfl<|sg 4 5 13 17 false G G (fun hg6=>by
     have hq6:=hg6;try simp only [o1,o2,o3,o4,o5,o6,o7,o8,o9,oa] at hq6
     exact sy hg6<|sf wN rfl<|sy hg6<|sl S 0 aD G G G<|sy hg6<|sc rfl Tryz.func158 G G (gS _ _ _ _)<|sy hg6<|sr 1 rfl<|sz 4 G G G)<|so G G G<|sr 1 rfl<|sg 4 11 19 23 false G G (fun hg12=>by
     have hq12:=hg12;try simp only [o1,o2,o3,o4,o5,o6,o7,o8,o9,oa] at hq12
     exact sy hg12<|sf oI rfl<|sy hg12<|sl S 0 aD G G G<|sy hg12<|sc rfl Tryz.func158 G G (gS _ _ _ _)<|sy hg12<|sr 1 rfl<|sz 4 G G G)<|so G G G<|sr 1 rfl<|sg 4 17 25 29 false G G (fun hg18=>by
     have hq18:=hg18;try simp only [o1,o2,o3,o4,o5,o6,o7,o8,o9,oa] at hq18
     exact sy hg18<|sf rB rfl<|sy hg18<|sl S 0 aD G G G<|sy hg18<|sc rfl Tryz.func158 G G (gS _ _ _ _)<|sy hg18<|sr 1 rfl<|sz 4 G G G)<|so G G G<|sE ?_;clear H a;intro a H
 refine k3 _ ?_;clear k3 K3
 refine cond_ H rfl (fun hc1=>?_) (fun hc1=>?_)
 ·skip
  try simp only [o1,o2,o3,o4,o5,o6,o7,o8,o9,oa] at hc1
  replace H:=H.keep [] rfl
  refine sS H fun K4 k4=>sr 1 rfl<|sE ?_;clear H a;intro a H
  refine k4 _ ?_;clear k4 K4
  refine wp_ret ?_
  refine ret1 (fn:=Tryz.f126) rfl H rfl ?_
  refine ⟨?_,(S.sel [] G G)⟩;unfold cE;rw [if_neg (by unfold iE;simp only [decide_eq_true_eq];omega)]
 try simp only [o1,o2,o3,o4,o5,o6,o7,o8,o9,oa] at hc1
 refine wp_skip ?_
 refine k2 _ _ ?_
 refine wp_seq_k fun K5 k5=>?_
 have hhd:iE (⟨rates,pwn,ptn,pag⟩:Part)=true:=by unfold iE;simp only [decide_eq_true_eq];omega
 refine sS H fun K6 k6=>sr 1 rfl<|sE ?_;clear H a;intro a H
 refine k6 _ ?_;clear k6 K6
 refine wp_block ?_
 refine loop_st (X:=Nat) (R0:=_) [1,2] H rfl (fun k=>[(5,.int .i64 (k:Int))]) (fun k=>[]) (fun g k=>k≤rates.length∧g+k=rates.length∧(rates.take k).all gR=true) (rates.length) 0 ?_ (S.sel [0] G G) (H.keep [5,1,2] rfl) ?_
 · exact ⟨by omega,by omega,by simp⟩
 clear H S a
 intro g1 x1 a w1 hp S H K7 k7
 obtain ⟨k,rfl⟩:∃ y,y=x1:=⟨_,rfl⟩
 refine wp_seq_k fun K8 k8=>?_
 refine sS H fun K9 k9=>sr 1 rfl<|sf fB rfl<|sl S 0 hY G G G<|sL dG rfl<|sr 1 rfl<|sE ?_;clear H a;intro a H
 refine k9 _ ?_;clear k9 K9
 refine condL H rfl (fun hc2=>?_) (fun hc2=>?_)
 ·skip
  refine wp_skip ?_
  refine k8 _ _ ?_
  refine wp_seq_k fun K10 k10=>?_
  refine wp_block ?_
  replace H:=H.keep [1,2,5] rfl
  replace S:=S.drew
  refine sD H fun K11 k11=>sf fB rfl<|sl S 0 hY G G G<|sr 1 rfl<|si dG aP G G (hr.adr (by omega)) (by omega)<|sp bG rfl<|slm aD rfl (hr.rd S (by omega) (by omega))<|sf fB rfl<|sl S 0 hY G G G<|sr 1 rfl<|si dG aP G G (hr.adr (by omega)) (by omega)<|sp bF rfl<|slm aD rfl (hr.rd S (by omega) (by omega))<|sc rfl Tryz.func158 G G (gS _ _ _ _)<|sr 2 rfl<|sg 7 14 52 59 false G G (fun hg15=>by
      have hq15:=hg15;try simp only [o1,o2,o3,o4,o5,o6,o7,o8,o9,oa] at hq15
      exact sy hg15<|sf fB rfl<|sy hg15<|sl S 0 hY G G G<|sy hg15<|sr 1 rfl<|sy hg15<|si dG aP G G (hr.adr (by omega)) (by omega)<|sy hg15<|sp bF rfl<|sy hg15<|slm aD rfl (hr.rd S (by omega) (by omega))<|sy hg15<|sr 1 rfl<|sz 7 G G G)<|so G G G<|sE ?_;clear H a;intro a H
  refine k11 _ ?_;clear k11 K11
  refine cond_ H rfl (fun hc3=>?_) (fun hc3=>?_)
  ·skip
   try simp only [o1,o2,o3,o4,o5,o6,o7,o8,o9,oa] at hc3
   replace H:=H.keep [] rfl
   refine sS H fun K12 k12=>sr 1 rfl<|sE ?_;clear H a;intro a H
   refine k12 _ ?_;clear k12 K12
   refine wp_ret ?_
   refine ret1 (fn:=Tryz.f126) rfl H rfl ?_
   refine ⟨?_,(S.sel [] G G)⟩;unfold cE;rw [if_pos hhd];(try dsimp only);rw [qA (k:=k) (d:=(0,0)) (by omega) (by unfold gR;simp only [decide_eq_false_iff_not];omega)];rfl
  try simp only [o1,o2,o3,o4,o5,o6,o7,o8,o9,oa] at hc3
  refine wp_skip ?_
  refine k10 _ _ ?_
  refine sO H<|sr 1 rfl<|sd (aK G G (by unfold i64ok;omega))<|sr 1 rfl<|sE ?_;clear H a;intro a H
  exact k7 (g1-1) (k+1) a _ (by omega) (⟨by omega,by omega,sZ (d:=(0,0)) (by omega) hp.2.2 (by unfold gR;simp only [decide_eq_true_eq];omega)⟩) (S.sel [0] G G) (H.keep [5,1,2] rfl)
 refine wp_exit ?_
 refine k5 _ _ ?_
 refine wp_seq_k fun K14 k14=>?_
 have hrt:rates.all gR=true:=by have h9:=hp.2.2;rw [List.take_of_length_le (by omega)] at h9;exact h9
 refine sS H fun K15 k15=>sr 1 rfl<|sL dF rfl<|sr 1 rfl<|sE ?_;clear H a;intro a H
 refine k15 _ ?_;clear k15 K15
 refine condL H rfl (fun hc4=>?_) (fun hc4=>?_)
 ·skip
  refine sS H fun K16 k16=>sr 1 rfl<|sE ?_;clear H a;intro a H
  refine k16 _ ?_;clear k16 K16
  refine wp_ret ?_
  refine ret1 (fn:=Tryz.f126) rfl H rfl ?_
  refine ⟨?_,(S.sel [] G G)⟩;unfold cE;rw [if_pos hhd,if_pos hrt,if_neg (by omega)]
 refine wp_skip ?_
 refine k14 _ _ ?_
 refine wp_seq_k fun K17 k17=>?_
 refine sS H fun K18 k18=>sr 1 rfl<|sE ?_;clear H a;intro a H
 refine k18 _ ?_;clear k18 K18
 refine wp_block ?_
 refine loop_st (X:=Nat) (R0:=_) [1,2] H rfl (fun j=>[(6,.int .i64 (j:Int))]) (fun j=>[]) (fun g j=>j≤l.length∧g+j=l.length∧dU rates.length l j=true) (l.length) 0 ?_ (S.sel [0] G G) (H.keep [6,1,2] rfl) ?_
 · exact ⟨by omega,by omega,rfl⟩
 clear H S a
 intro g2 x2 a w2 hp S H K19 k19
 obtain ⟨j,rfl⟩:∃ y,y=x2:=⟨_,rfl⟩
 refine wp_seq_k fun K20 k20=>?_
 refine sS H fun K21 k21=>sr 2 rfl<|sL dF rfl<|sr 1 rfl<|sE ?_;clear H a;intro a H
 refine k21 _ ?_;clear k21 K21
 refine condL H rfl (fun hc5=>?_) (fun hc5=>?_)
 ·skip
  refine wp_skip ?_
  refine k20 _ _ ?_
  refine wp_seq_k fun K22 k22=>?_
  refine wp_block ?_
  replace H:=H.keep [1,2,6] rfl
  refine seq_list fun K23 k23=>?_
  refine ls 4 H<|sr 2 rfl<|si dF dA G G (hl.adr (by omega)) (by omega)<|sd ((aU jR dA rfl S hl (by omega) (by omega)))<|sE ?_;clear H a;intro a H
  refine aI H rfl S jX ?_;clear H a S;intro b7 _ a hb7 hbw7 S H
  refine aB H S (i:=0) G G G G dA G G ?_
  clear H a S;intro _ a S H
  refine k23 _ _ ?_;clear k23 K23
  refine wp_seq_k fun K24 k24=>?_
  have hpd:prevD l j=if 0<j then (l.getD (j-1) Use.zero).day else 0:=by cases j with|zero=>rfl|succ q=>rfl
  have hj9:((j:Int)-1).toNat=j-1:=by omega
  have hpn:=pD hp.2.2
  replace H:=H.keep [1,2,6,7] rfl
  replace S:=S.drew
  refine sD H fun K25 k25=>sf gN rfl<|sl S 0 aD G G G<|sc rfl Tryz.func158 G G (gS _ _ _ _)<|sr 2 rfl<|sg 13 4 78 91 false G G (fun hg5=>by
      have hq5:=hg5;try simp only [o1,o2,o3,o4,o5,o6,o7,o8,o9,oa] at hq5
      exact sy hg5<|sr 1 rfl<|sy hg5<|sr 1 rfl<|sy hg5<|sr 1 rfl<|sg 9 7 81 90 true G G (fun hg8=>by
           have hq8:=hg8;try simp only [o1,o2,o3,o4,o5,o6,o7,o8,o9,oa] at hq8
           exact sy hg8<|sf gN rfl<|sy hg8<|sl S 0 aD G G G<|sy hg8<|sr 1 rfl<|sy hg8<|sr 1 rfl<|sy hg8<|sd (aS G G (by unfold i64ok;omega))<|sy hg8<|sI dF dA G G (hl.adr (by omega)) (by omega) (by omega)<|sy hg8<|sp gN rfl<|sy hg8<|slm aD rfl (hl.rd S (by omega) (by omega))<|sy hg8<|sr 1 rfl<|sz 9 G G G)<|sy hg5<|sa G G G<|sz 5 G G G)<|so G G G<|sr 1 rfl<|sg 4 19 93 97 false G G (fun hg20=>by
      have hq20:=hg20;try simp only [o1,o2,o3,o4,o5,o6,o7,o8,o9,oa] at hq20
      exact sy hg20<|sf jI rfl<|sy hg20<|sl S 0 aD G G G<|sy hg20<|sc rfl Tryz.func158 G G (gS _ _ _ _)<|sy hg20<|sr 1 rfl<|sz 4 G G G)<|so G G G<|sr 1 rfl<|sg 8 25 99 107 false G G (fun hg26=>by
      have hq26:=hg26;try simp only [o1,o2,o3,o4,o5,o6,o7,o8,o9,oa] at hq26
      exact sy hg26<|sf oN rfl<|sy hg26<|sl S 0 aD G G G<|sy hg26<|sf fB rfl<|sy hg26<|sl S 1 hY G G G<|sy hg26<|sL dG rfl<|sy hg26<|sd (aS G G (by unfold i64ok;omega))<|sy hg26<|sc rfl Tryz.func158 G G (gS _ _ _ _)<|sy hg26<|sr 1 rfl<|sz 8 G G G)<|so G G G<|sE ?_;clear H a;intro a H
  refine k25 _ ?_;clear k25 K25
  refine cond_ H rfl (fun hc6=>?_) (fun hc6=>?_)
  ·skip
   try simp only [o1,o2,o3,o4,o5,o6,o7,o8,o9,oa] at hc6
   rw [hj9] at hc6
   replace H:=H.keep [] rfl
   refine sS H fun K26 k26=>sr 1 rfl<|sE ?_;clear H a;intro a H
   refine k26 _ ?_;clear k26 K26
   refine wp_ret ?_
   refine ret1 (fn:=Tryz.f126) rfl H rfl ?_
   refine ⟨?_,(S.sel [] G G)⟩;unfold cE;rw [if_pos hhd,if_pos hrt,if_pos (by omega)];unfold dU;rw [fO (k:=j) (by omega) (by unfold useOk;simp only [decide_eq_false_iff_not];rw [hpd];omega)];rfl
  try simp only [o1,o2,o3,o4,o5,o6,o7,o8,o9,oa] at hc6
  rw [hj9] at hc6
  refine wp_skip ?_
  refine k24 _ _ ?_
  replace H:=H.keep [1,2,6,7] rfl
  refine sS H fun K27 k27=>sf lS rfl<|sl S 0 iL G G G<|sr 1 rfl<|sg 14 2 111 125 true G G (fun hg3=>by
      have hq3:=hg3;try simp only [o1,o2,o3,o4,o5,o6,o7,o8,o9,oa] at hq3
      exact sy hg3<|sf eN rfl<|sy hg3<|sf bG rfl<|sy hg3<|sl S 0 aD G G G<|sy hg3<|sf eN rfl<|sy hg3<|sf bF rfl<|sy hg3<|sl S 0 aD G G G<|sy hg3<|sc rfl Tryz.func158 G G (gS _ _ _ _)<|sy hg3<|sr 1 rfl<|sy hg3<|sr 1 rfl<|sg 4 11 120 124 false G G (fun hg12=>by
           have hq12:=hg12;try simp only [o1,o2,o3,o4,o5,o6,o7,o8,o9,oa] at hq12
           exact sy hg12<|sf eN rfl<|sy hg12<|sf bF rfl<|sy hg12<|sl S 0 aD G G G<|sy hg12<|sr 1 rfl<|sz 4 G G G)<|sy hg3<|so G G G<|sz 11 G G G)<|sa G G G<|sr 1 rfl<|sg 9 18 127 136 false G G (fun hg19=>by
      have hq19:=hg19;try simp only [o1,o2,o3,o4,o5,o6,o7,o8,o9,oa] at hq19
      exact sy hg19<|sf lS rfl<|sy hg19<|sl S 0 iL G G G<|sy hg19<|sr 1 rfl<|sy hg19<|sr 1 rfl<|sg 4 22 131 135 true G G (fun hg23=>by
           have hq23:=hg23;try simp only [o1,o2,o3,o4,o5,o6,o7,o8,o9,oa] at hq23
           exact sy hg23<|sf eN rfl<|sy hg23<|sd ((aE bD aP rfl S (i:=0) G G))<|sy hg23<|sd (aR dT G G)<|sy hg23<|sd (mX G G)<|sz 4 G G G)<|sy hg19<|sa G G G<|sz 6 G G G)<|so G G G<|sE ?_;clear H a;intro a H
  refine k27 _ ?_;clear k27 K27
  refine cond_ H rfl (fun hc7=>?_) (fun hc7=>?_)
  ·skip
   try simp only [o1,o2,o3,o4,o5,o6,o7,o8,o9,oa] at hc7
   replace H:=H.keep [] rfl
   refine sS H fun K28 k28=>sr 1 rfl<|sE ?_;clear H a;intro a H
   refine k28 _ ?_;clear k28 K28
   refine wp_ret ?_
   refine ret1 (fn:=Tryz.f126) rfl H rfl ?_
   refine ⟨?_,(S.sel [] rfl rfl)⟩;unfold cE;rw [if_pos hhd,if_pos hrt,if_pos (by omega)];unfold dU;rw [fO (k:=j) (by omega) (by unfold useOk;simp only [decide_eq_false_iff_not];generalize l.getD j Use.zero=u at hc6 hc7 ⊢;rintro ⟨_,_,_,_,hm⟩;cases hq:u.meas <;> simp [hq] at hc7 hm <;> omega)];rfl
  try simp only [o1,o2,o3,o4,o5,o6,o7,o8,o9,oa] at hc7
  refine wp_skip ?_
  refine k22 _ _ ?_
  refine sO H<|sr 1 rfl<|sd (aK G G (by unfold i64ok;omega))<|sr 1 rfl<|sE ?_;clear H a;intro a H
  exact k19 (g2-1) (j+1) a _ (by omega) (⟨by omega,by omega,by unfold dU;rw [gQ (n:=0)];have h9:=hp.2.2;unfold dU at h9;rw [h9];simp only [Bool.true_and];unfold useOk;simp only [decide_eq_true_eq];rw [hpd] at hpn ⊢;generalize (l.getD (j-1) Use.zero).day=pd at hc6 hpn ⊢;generalize l.getD j Use.zero=u at hc6 hc7 ⊢;cases hq:u.meas <;> simp [hq] at hc7 ⊢ <;> omega⟩) (S.sel [1] G G) (H.keep [6,1,2] rfl)
 refine wp_exit ?_
 refine k17 _ _ ?_
 refine sS H fun K30 k30=>sr 1 rfl<|sE ?_;clear H a;intro a H
 refine k30 _ ?_;clear k30 K30
 refine wp_ret ?_
 refine ret1 (fn:=Tryz.f126) rfl H rfl ?_
 refine ⟨?_,(S.sel [] G G)⟩;have hj9:j=l.length:=by omega
 unfold cE;rw [if_pos hhd,if_pos hrt,if_pos (by omega)];rw [hj9] at hp;dsimp only;rw [if_pos hp.2.2]
theorem Ht (rates:List (Int×Int)) (pwn ptn pag:Int) (RA:Option Addr) (rcp:Nat) (s1 s2:Int) (u:Use) (w:World) (hr:InS w noF 2 RA rates.length (scell rates)) (hrn:rates.length≤9223372036854775807) (hcl:0≤u.cls∧u.cls<rates.length) (hg1:i64ok (cV (⟨rates,pwn,ptn,pag⟩:Part) u).1) (hg2:i64ok (cV (⟨rates,pwn,ptn,pag⟩:Part) u).2) (hg3:i64ok (s1+(cV (⟨rates,pwn,ptn,pag⟩:Part) u).1)) (hg4:i64ok (s2+(cV (⟨rates,pwn,ptn,pag⟩:Part) u).2)) :
    Calls Tryz.prog 184 [.agg [.slice RA rates.length rcp,.int .i64 pwn,.int .i64 ptn,.int .i64 pag].toArray,.agg [.int .i64 s1,.int .i64 s2].toArray,.agg [.int .i64 u.day,.int .i64 u.turns,.int .i64 u.cls,.bool u.meas,.int .i64 u.lo,.int .i64 u.hi].toArray].toArray w (Ret (fun v w'=>v = .agg [.int .i64 (fstep (⟨rates,pwn,ptn,pag⟩:Part) (s1,s2) u).1,.int .i64 (fstep (⟨rates,pwn,ptn,pag⟩:Part) (s1,s2) u).2].toArray∧St w noF [] w')):=by
 refine enter Tryz.func184 rfl Tryz.ntmps184 rfl (fun a H=>?_)
 have S:=St.start w
 refine seq_list fun K1 k1=>?_
 refine aO H rfl S G G ?_;clear H a S;intro b3 _ a hb3 hbw3 S H
 refine aO H rfl S G G ?_;clear H a S;intro b4 _ a hb4 hbw4 S H
 refine aO H rfl S G G ?_;clear H a S;intro b5 _ a hb5 hbw5 S H
 refine aI H rfl S bZ ?_;clear H a S;intro b6 _ a hb6 hbw6 S H
 refine k1 _ _ ?_;clear k1 K1
 replace H:=H.keep [3,4,5,6] rfl
 refine seq_list fun K2 k2=>?_
 refine ls 6 H<|sf fB rfl<|sl S 3 hY G G G<|sf oN rfl<|sl S 1 aD G G G<|sI dG aP G G (hr.adr (by omega)) (by omega) (by omega)<|sd ((aU bD aP rfl S hr (by omega) (by omega)))<|sE ?_;clear H a;intro a H
 refine aI H rfl S bZ ?_;clear H a S;intro b7 _ a hb7 hbw7 S H
 refine aB H S (i:=0) G G G G aP G G ?_
 clear H a S;intro _ a S H
 refine k2 _ _ ?_;clear k2 K2
 replace H:=H.keep [4,5,6,7] rfl
 refine seq_list fun K3 k3=>?_
 refine ls 17 H<|sf bG rfl<|sl S 3 aD G G G<|sf jI rfl<|sl S 2 aD G G G<|sf bG rfl<|sl S 0 aD G G G<|sd (jZ G G (by exact hg1))<|sd (aK G G (by exact hg3))<|sf bF rfl<|sl S 3 aD G G G<|sf jI rfl<|sl S 2 aD G G G<|sf bF rfl<|sl S 0 aD G G G<|sd (jZ G G (by exact hg2))<|sd (aK G G (by exact hg4))<|sd (aR dT G G)<|sE ?_;clear H a;intro a H
 refine aI H rfl S bZ ?_;clear H a S;intro b8 _ a hb8 hbw8 S H
 refine aB H S (i:=0) G G G G aP G G ?_
 clear H a S;intro _ a S H
 refine k3 _ _ ?_;clear k3 K3
 have SR:=(S.sel [1,2,3,4,5] G G)
 refine meet_sr (X:=Unit) [6,8] H rfl (fun x=>[]) (fun x=>[boxM b8 88 [.int .i64 (fstep (⟨rates,pwn,ptn,pag⟩:Part) (s1,s2) u).1,.int .i64 (fstep (⟨rates,pwn,ptn,pag⟩:Part) (s1,s2) u).2]]) (fun x=>True) SR (fun K5 k5=>?_) ?_
 ·skip
  replace H:=H.keep [5,6,8] rfl
  refine sS H fun K6 k6=>sf lS rfl<|sl S 3 iL G G G<|sE ?_;clear H a;intro a H
  refine k6 _ ?_;clear k6 K6
  refine cond_ H rfl (fun hc1=>?_) (fun hc1=>?_)
  ·skip
   try simp only [o1,o2,o3,o4,o5,o6,o7,o8,o9,oa] at hc1
   replace H:=H.keep [5,6,8] rfl
   refine one_list ?_
   refine ls 13 H<|sf bG rfl<|sl S 0 aD G G G<|sf eN rfl<|sf bG rfl<|sl S 3 aD G G G<|sd (iY G G)<|sf bF rfl<|sl S 0 aD G G G<|sf eN rfl<|sf bF rfl<|sl S 3 aD G G G<|sd (yH G G)<|sd (aR dT G G)<|sE ?_;clear H a;intro a H
   refine aB H S (i:=0) G G G G aP G G ?_
   clear H a S;intro _ a S H
   have e9:fstep (⟨rates,pwn,ptn,pag⟩:Part) (s1,s2) u=meetS (addS (s1,s2) (cV (⟨rates,pwn,ptn,pag⟩:Part) u)) (u.lo,u.hi):=by unfold fstep;rw [if_pos hc1]
   replace S:=boxM.same S (i:=0) (cs':=[.int .i64 (fstep (⟨rates,pwn,ptn,pag⟩:Part) (s1,s2) u).1,.int .i64 (fstep (⟨rates,pwn,ptn,pag⟩:Part) (s1,s2) u).2]) rfl (by rw [e9];rfl)
   exact k5 () a _ (trivial) (S.sel [0,1,2,3,4,5] G G) (H.keep [6,8] rfl)
  try simp only [o1,o2,o3,o4,o5,o6,o7,o8,o9,oa] at hc1
  refine wp_skip ?_
  have e9:fstep (⟨rates,pwn,ptn,pag⟩:Part) (s1,s2) u=addS (s1,s2) (cV (⟨rates,pwn,ptn,pag⟩:Part) u):=by unfold fstep;rw [if_neg (by rw [hc1];simp)]
  replace S:=boxM.same S (i:=0) (cs':=[.int .i64 (fstep (⟨rates,pwn,ptn,pag⟩:Part) (s1,s2) u).1,.int .i64 (fstep (⟨rates,pwn,ptn,pag⟩:Part) (s1,s2) u).2]) rfl (by rw [e9];rfl)
  exact k5 () a _ (trivial) (S.sel [0,1,2,3,4,5] G G) (H.keep [6,8] rfl)
 clear SR H S a
 intro xm a wm hp S H
 obtain ⟨x,rfl⟩:∃ y,y=xm:=⟨_,rfl⟩
 replace H:=H.keep [6,8] rfl
 refine seq_list fun K8 k8=>?_
 refine ls 1 H<|sd ((aE bD aP rfl S (i:=0) G G))<|sE ?_;clear H a;intro a H
 refine aB H S (i:=2) G G G G aP G G ?_
 clear H a S;intro _ a S H
 refine k8 _ _ ?_;clear k8 K8
 refine wp_ret ?_
 refine retA (fn:=Tryz.f184) rfl H rfl bD (by exact aP) (dL S (i:=2) rfl) ?_
 exact ⟨rfl,(S.sel [] G G)⟩
theorem qU (rates:List (Int×Int)) (pwn ptn pag:Int) (RA:Option Addr) (rcp:Nat) (l:List Use) (A:Option Addr) (cp:Nat) (w:World) (hr:InS w noF 2 RA rates.length (scell rates)) (hrn:rates.length≤9223372036854775807) (hl:InS w noF 6 A l.length (ucell l)) (hn:l.length≤9223372036854775807) (hok:PartOk (⟨rates,pwn,ptn,pag⟩:Part) l) :
    Calls Tryz.prog 159 [.agg [.slice RA rates.length rcp,.int .i64 pwn,.int .i64 ptn,.int .i64 pag].toArray,.slice A l.length cp].toArray w (Ret (FwdR w (⟨rates,pwn,ptn,pag⟩:Part) l)):=by
 refine enter Tryz.func159 rfl Tryz.ntmps159 rfl (fun a H=>?_)
 have S:=St.start w
 refine seq_list fun K1 k1=>?_
 refine aO H rfl S G G ?_;clear H a S;intro b2 _ a hb2 hbw2 S H
 refine ls 2 H<|sr 2 rfl<|sE ?_;clear H a;intro a H
 refine k1 _ _ ?_;clear k1 K1
 refine sS H fun K2 k2=>sr 1 rfl<|sE ?_;clear H a;intro a H
 refine k2 _ ?_;clear k2 K2
 refine seq_list fun K3 k3=>?_
 refine ls 1 H<|sd (aR dT G G)<|sE ?_;clear H a;intro a H
 refine aI H rfl S bZ ?_;clear H a S;intro b7 _ a hb7 hbw7 S H
 refine aB H S (i:=0) G G G G aP G G ?_
 clear H a S;intro _ a S H
 refine k3 _ _ ?_;clear k3 K3
 refine wp_seq_k fun K4 k4=>?_
 refine sS H fun K5 k5=>sr 1 rfl<|sE ?_;clear H a;intro a H
 refine k5 _ ?_;clear k5 K5
 refine wp_block ?_
 replace S:=S.newNil 88 2 (fcell (fun q=>fwd (⟨rates,pwn,ptn,pag⟩:Part) l (q+1)))
 refine loop_st (X:=Nat×Option Addr×Nat) (R0:=_) [1,2,7] H rfl (fun ⟨k,A',c'⟩=>[(6,.slice A' k c'),(8,.int .i64 (k:Int))]) (fun ⟨k,A',c'⟩=>[boxM b7 88 [.int .i64 (fwd (⟨rates,pwn,ptn,pag⟩:Part) l k).1,.int .i64 (fwd (⟨rates,pwn,ptn,pag⟩:Part) l k).2],ownM 88 2 A' k c' (fcell (fun q=>fwd (⟨rates,pwn,ptn,pag⟩:Part) l (q+1)))]) (fun g ⟨k,A',c'⟩=>k≤l.length∧g+k=l.length∧∀ q,q<k→fits (⟨rates,pwn,ptn,pag⟩:Part) l q) (l.length) (0,none,0) ?_ (S.sel [1,0,2] G G) (H.keep [6,8,1,2,7] rfl) ?_
 · exact ⟨by omega,by omega,fun q hq=>by omega⟩
 clear H S a
 intro g1 x1 a w1 hp S H K6 k6
 obtain ⟨k,A',c'⟩:=x1
 dsimp only at hp S H
 refine wp_seq_k fun K7 k7=>?_
 refine sS H fun K8 k8=>sr 2 rfl<|sL dF rfl<|sr 1 rfl<|sE ?_;clear H a;intro a H
 refine k8 _ ?_;clear k8 K8
 refine condL H rfl (fun hc1=>?_) (fun hc1=>?_)
 ·skip
  refine wp_skip ?_
  refine k7 _ _ ?_
  refine wp_seq_k fun K9 k9=>?_
  refine wp_block ?_
  have hu:=hok.use (k:=k) (by omega);unfold useOk at hu;simp only [decide_eq_true_eq] at hu
  have hgb:=kK hok (k:=k) (by omega)
  have hcls:0≤(l.getD k Use.zero).cls∧(l.getD k Use.zero).cls<rates.length:=by
    have:((⟨rates,pwn,ptn,pag⟩:Part).rates.length:Int)=rates.length:=rfl
    omega
  have hll:=hok.len
  have hfb:=wY hok k (by omega)
  replace H:=H.keep [1,2,6,7,8] rfl
  refine rW 6 (by kernel_rfl) (by kernel_rfl) fun K10 k10=>?_
  replace S:=S.drew
  refine sF H<|sd ((aE eS gZ rfl S (i:=2) G G))<|sd ((aE bD aP rfl S (i:=0) G G))<|sr 2 rfl<|si dF dA G G (hl.adr (by omega)) (by omega)<|sd ((aU jR dA rfl S hl (by omega) (by omega)))<|sE ?_;clear H a;intro a H
  refine aA H G G Tryz.func184 G G (Ht rates pwn ptn pag RA rcp (fwd (⟨rates,pwn,ptn,pag⟩:Part) l k).1 (fwd (⟨rates,pwn,ptn,pag⟩:Part) l k).2 (l.getD k Use.zero) _ (hr.now S) hrn hcls (by unfold i64ok;omega) (by unfold i64ok;omega) (by unfold i64ok;omega) (by unfold i64ok;omega)) ?_;clear H a
  rintro _ _ a ⟨rfl,S2⟩ H
  replace S:=S.call S2;clear S2
  refine aB H S (i:=0) G G G G aP G G ?_
  clear H a S;intro _ a S H
  refine k10 _ _ ?_;clear k10 K10
  refine wp_seq_k fun K11 k11=>?_
  replace H:=H.keep [1,2,6,7,8] rfl
  refine sS H fun K12 k12=>sf bG rfl<|sl S 0 aD G G G<|sf bF rfl<|sl S 0 aD G G G<|sr 1 rfl<|sE ?_;clear H a;intro a H
  refine k12 _ ?_;clear k12 K12
  refine condL H rfl (fun hc2=>?_) (fun hc2=>?_)
  ·skip
   replace hc2:(fwd (⟨rates,pwn,ptn,pag⟩:Part) l (k+1)).2<(fwd (⟨rates,pwn,ptn,pag⟩:Part) l (k+1)).1:=hc2
   refine sS H fun K13 k13=>sr 3 rfl<|sE ?_;clear H a;intro a H
   refine k13 _ ?_;clear k13 K13
   refine wp_ret ?_
   refine ret2 (fn:=Tryz.f159) rfl H G G ?_
   have e9:atN (⟨rates,pwn,ptn,pag⟩:Part) l=k:=xF ⟨by omega,hp.2.2,fun _ hf=>absurd ((zM hok (by omega) hp.2.2).1 hf) (Int.not_le.2 hc2)⟩
   exact .inr ⟨by omega,by rw [e9],(S.sel [] G G)⟩
  replace hc2:(fwd (⟨rates,pwn,ptn,pag⟩:Part) l (k+1)).1≤(fwd (⟨rates,pwn,ptn,pag⟩:Part) l (k+1)).2:=hc2
  refine wp_skip ?_
  refine k11 _ _ ?_
  replace H:=H.keep [1,2,6,7,8] rfl
  refine one_list ?_
  refine ls 2 H<|sr 1 rfl<|sd ((aE bD aP rfl S (i:=0) G G))<|sE ?_;clear H a;intro a H
  refine bB H rfl S dG aP bZ G G G G G G G G G ?_;clear H a S;intro A1 _ a hA1 S H
  refine cB H rfl S dG aP bZ Jy G G (i:=2) G G G (ownM.inS S (i:=0) rfl) (jL (two G G)) (by omega) (by omega) ?_;clear H a S;intro A2 c2 _ a S H
  replace S:=S.recell (i:=2) rfl (cell':=fcell (fun q=>fwd (⟨rates,pwn,ptn,pag⟩:Part) l (q+1))) (tY (two G G))
  refine ls 1 H<|sr 1 rfl<|sE ?_;clear H a;intro a H
  refine k9 _ _ ?_
  refine sO H<|sr 1 rfl<|sd (aK G G (by unfold i64ok;omega))<|sr 1 rfl<|sE ?_;clear H a;intro a H
  exact k6 (g1-1) (k+1,_,_) a _ (by omega) (⟨by omega,by omega,fun q hq=>by
    by_cases h:q=k
    · subst h;exact (zM hok (by omega) hp.2.2).2 hc2
    · exact hp.2.2 q (by omega)⟩) (S.sel [1,2,3] G G) (H.keep [6,8,1,2,7] rfl)
 refine wp_exit ?_
 refine k4 _ _ ?_
 replace H:=H.keep [6] rfl
 refine sS H fun K16 k16=>sr 3 rfl<|sE ?_;clear H a;intro a H
 refine k16 _ ?_;clear k16 K16
 refine wp_ret ?_
 refine ret2 (fn:=Tryz.f159) rfl H G G ?_
 have hk9:k=l.length:=by omega
 subst hk9
 exact .inl ⟨xF ⟨Nat.le_refl _,hp.2.2,fun h=>absurd h (Nat.lt_irrefl _)⟩,A',c',rfl,(S.sel [1] G G)⟩
end
section
theorem nK (rates:List (Int×Int)) (pwn ptn pag:Int) (RA:Option Addr) (rcp:Nat) (l:List Use) (A:Option Addr) (cp:Nat) (w:World) (hr:InS w noF 2 RA rates.length (scell rates)) (hrn:rates.length≤9223372036854775807) (hl:InS w noF 6 A l.length (ucell l)) (hn:l.length≤9223372036854775807) :
    Calls Tryz.prog 156 [.agg [.slice RA rates.length rcp,.int .i64 pwn,.int .i64 ptn,.int .i64 pag].toArray,.slice A l.length cp].toArray w (Ret (WearR w (⟨rates,pwn,ptn,pag⟩:Part) l)):=by
 refine enter Tryz.func156 rfl Tryz.ntmps156 rfl (fun a H=>?_)
 have S:=St.start w
 refine seq_list fun K1 k1=>?_
 refine aO H rfl S G G ?_;clear H a S;intro b2 _ a hb2 hbw2 S H
 refine ls 2 H<|sr 2 rfl<|sE ?_;clear H a;intro a H
 refine k1 _ _ ?_;clear k1 K1
 refine wp_seq_k fun K2 k2=>?_
 refine seq_list fun K3 k3=>?_
 refine ls 2 H<|sd ((aE eS gZ rfl S (i:=0) G G))<|sr 1 rfl<|sE ?_;clear H a;intro a H
 refine aA H G G Tryz.func181 G G (qY rates pwn ptn pag RA rcp l A cp _ (hr.now S) hrn (hl.now S) hn) ?_;clear H a
 rintro _ _ a ⟨rfl,S2⟩ H
 replace S:=S.call S2;clear S2
 refine ls 1 H<|sr 1 rfl<|sE ?_;clear H a;intro a H
 refine k3 _ _ ?_;clear k3 K3
 refine sS H fun K4 k4=>sr 2 rfl<|sE ?_;clear H a;intro a H
 refine k4 _ ?_;clear k4 K4
 refine condN H rfl (fun hc1=>?_) (fun hc1=>?_)
 ·skip
  replace H:=H.keep [6] rfl
  refine sS H fun K5 k5=>sr 3 rfl<|sE ?_;clear H a;intro a H
  refine k5 _ ?_;clear k5 K5
  refine wp_ret ?_
  refine ret2 (fn:=Tryz.f156) rfl H G G ?_
  have e9:=Gq (p:=(⟨rates,pwn,ptn,pag⟩:Part)) (l:=l) (by omega)
  exact .inr ⟨by omega,by rw [e9],(S.sel [] G G)⟩
 refine wp_skip ?_
 refine k2 _ _ ?_
 have h0:cE (⟨rates,pwn,ptn,pag⟩:Part) l=0:=by omega
 have hok:=kJ h0
 by_cases hA:IsAt (⟨rates,pwn,ptn,pag⟩:Part) l l.length
 ·skip
  replace H:=H.keep [1,2] rfl
  refine seq_list fun K6 k6=>?_
  refine ls 2 H<|sd ((aE eS gZ rfl S (i:=0) G G))<|sr 1 rfl<|sE ?_;clear H a;intro a H
  refine aA H G G Tryz.func182 G G (fQ (uA rates pwn ptn pag RA rcp l A cp _ (hr.now S) hrn (hl.now S) hn hok) (fun _ _=>Nf hA)) ?_;clear H a
  rintro _ _ a ⟨A',c',rfl,S2⟩ H
  replace S:=S.call S2;clear S2
  refine ls 5 H<|sr 5 rfl<|sE ?_;clear H a;intro a H
  refine k6 _ _ ?_;clear k6 K6
  refine wp_seq_k fun K7 k7=>?_
  replace H:=H.keep [7,8] rfl
  refine sS H fun K8 k8=>sr 2 rfl<|sE ?_;clear H a;intro a H
  refine k8 _ ?_;clear k8 K8
  refine cond_ H rfl (fun hc2=>?_) (fun hc2=>?_)
  ·skip
   skip
   cases hc2
  skip
  refine wp_skip ?_
  refine k7 _ _ ?_
  refine sS H fun K9 k9=>sr 3 rfl<|sE ?_;clear H a;intro a H
  refine k9 _ ?_;clear k9 K9
  refine wp_ret ?_
  refine ret2 (fn:=Tryz.f156) rfl H G G ?_
  exact .inl ⟨tG h0 hA,A',c',rfl,(S.sel [0] G G)⟩
 replace H:=H.keep [1,2] rfl
 refine seq_list fun K10 k10=>?_
 refine ls 2 H<|sd ((aE eS gZ rfl S (i:=0) G G))<|sr 1 rfl<|sE ?_;clear H a;intro a H
 refine aA H G G Tryz.func182 G G (fQ (uA rates pwn ptn pag RA rcp l A cp _ (hr.now S) hrn (hl.now S) hn hok) (fun _ _=>Rv hA)) ?_;clear H a
 rintro _ _ a ⟨rfl,S2⟩ H
 replace S:=S.call S2;clear S2
 refine ls 5 H<|sr 5 rfl<|sE ?_;clear H a;intro a H
 refine k10 _ _ ?_;clear k10 K10
 refine wp_seq_k fun K11 k11=>?_
 replace H:=H.keep [7,8] rfl
 refine sS H fun K12 k12=>sr 2 rfl<|sE ?_;clear H a;intro a H
 refine k12 _ ?_;clear k12 K12
 refine cond_ H rfl (fun hc3=>?_) (fun hc3=>?_)
 ·skip
  skip
  refine sS H fun K13 k13=>sr 2 rfl<|sE ?_;clear H a;intro a H
  refine k13 _ ?_;clear k13 K13
  refine wp_ret ?_
  refine ret2 (fn:=Tryz.f156) rfl H G G ?_
  have e9:=Ca h0 hA
  exact .inr ⟨by omega,by rw [e9],(S.sel [] G G)⟩
 skip
 cases hc3
theorem Ak (rates:List (Int×Int)) (pwn ptn pag:Int) (RA:Option Addr) (rcp:Nat) (l:List Use) (A:Option Addr) (cp:Nat) (w:World) (hr:InS w noF 2 RA rates.length (scell rates)) (hrn:rates.length≤9223372036854775807) (hl:InS w noF 6 A l.length (ucell l)) (hn:l.length≤9223372036854775807) :
    Calls Tryz.prog 127 [.agg [.slice RA rates.length rcp,.int .i64 pwn,.int .i64 ptn,.int .i64 pag].toArray,.slice A l.length cp].toArray w (Ret (fun v w'=>v = .tuple #[.int .i64 (refO (⟨rates,pwn,ptn,pag⟩:Part) l).1,.bool (refO (⟨rates,pwn,ptn,pag⟩:Part) l).2.1,.int .i64 (refO (⟨rates,pwn,ptn,pag⟩:Part) l).2.2]∧St w noF [] w')):=by
 refine enter Tryz.func127 rfl Tryz.ntmps127 rfl (fun a H=>?_)
 have S:=St.start w
 refine seq_list fun K1 k1=>?_
 refine aO H rfl S G G ?_;clear H a S;intro b2 _ a hb2 hbw2 S H
 refine ls 3 H<|sr 3 rfl<|sE ?_;clear H a;intro a H
 refine k1 _ _ ?_;clear k1 K1
 refine seq_list fun K2 k2=>?_
 refine ls 2 H<|sd ((aE eS gZ rfl S (i:=0) G G))<|sr 1 rfl<|sE ?_;clear H a;intro a H
 refine aA H G G Tryz.func126 G G (mY rates pwn ptn pag RA rcp l A cp _ (hr.now S) hrn (hl.now S) hn) ?_;clear H a
 rintro _ _ a ⟨rfl,S2⟩ H
 replace S:=S.call S2;clear S2
 refine ls 1 H<|sr 1 rfl<|sE ?_;clear H a;intro a H
 refine k2 _ _ ?_;clear k2 K2
 refine wp_seq_k fun K3 k3=>?_
 replace H:=H.keep [1,2,7] rfl
 refine sS H fun K4 k4=>sr 2 rfl<|sE ?_;clear H a;intro a H
 refine k4 _ ?_;clear k4 K4
 refine condN H rfl (fun hc1=>?_) (fun hc1=>?_)
 ·skip
  refine sS H fun K5 k5=>sr 4 rfl<|sE ?_;clear H a;intro a H
  refine k5 _ ?_;clear k5 K5
  refine wp_ret ?_
  refine ret3 (fn:=Tryz.f127) rfl H G G G ?_
  unfold refO;rw [if_pos (by omega)];exact ⟨rfl,(S.sel [] G G)⟩
 refine wp_skip ?_
 refine k3 _ _ ?_
 have h0:cE (⟨rates,pwn,ptn,pag⟩:Part) l=0:=by omega
 have hok:=kJ h0
 rcases (show atN (⟨rates,pwn,ptn,pag⟩:Part) l=l.length∨atN (⟨rates,pwn,ptn,pag⟩:Part) l<l.length from by have:=(xE (⟨rates,pwn,ptn,pag⟩:Part) l).le;omega) with hA|hA
 ·skip
  replace H:=H.keep [1,2] rfl
  refine seq_list fun K6 k6=>?_
  refine ls 2 H<|sd ((aE eS gZ rfl S (i:=0) G G))<|sr 1 rfl<|sE ?_;clear H a;intro a H
  refine aA H G G Tryz.func159 G G (fQ (qU rates pwn ptn pag RA rcp l A cp _ (hr.now S) hrn (hl.now S) hn hok) (fun _ _=>Ng hA)) ?_;clear H a
  rintro _ _ a ⟨A',c',rfl,S2⟩ H
  replace S:=S.call S2;clear S2
  refine ls 5 H<|sr 5 rfl<|sE ?_;clear H a;intro a H
  refine k6 _ _ ?_;clear k6 K6
  replace H:=H.keep [9] rfl
  refine sS H fun K7 k7=>sr 1 rfl<|sd (iY G G)<|sr 5 rfl<|sE ?_;clear H a;intro a H
  refine k7 _ ?_;clear k7 K7
  refine wp_ret ?_
  refine ret3 (fn:=Tryz.f127) rfl H G G G ?_
  unfold refO;rw [if_neg (by omega),if_neg (by omega)];exact ⟨rfl,(S.sel [] G G)⟩
 replace H:=H.keep [1,2] rfl
 refine seq_list fun K8 k8=>?_
 refine ls 2 H<|sd ((aE eS gZ rfl S (i:=0) G G))<|sr 1 rfl<|sE ?_;clear H a;intro a H
 refine aA H G G Tryz.func159 G G (fQ (qU rates pwn ptn pag RA rcp l A cp _ (hr.now S) hrn (hl.now S) hn hok) (fun _ _=>Rw hA)) ?_;clear H a
 rintro _ _ a ⟨rfl,S2⟩ H
 replace S:=S.call S2;clear S2
 refine ls 5 H<|sr 5 rfl<|sE ?_;clear H a;intro a H
 refine k8 _ _ ?_;clear k8 K8
 replace H:=H.keep [9] rfl
 refine sS H fun K9 k9=>sr 1 rfl<|sd (iY G G)<|sr 5 rfl<|sE ?_;clear H a;intro a H
 refine k9 _ ?_;clear k9 K9
 refine wp_ret ?_
 refine ret3 (fn:=Tryz.f127) rfl H G G G ?_
 unfold refO;rw [if_neg (by omega),if_pos hA];refine ⟨?_,(S.sel [] G G)⟩
 have e1:max 0 ((atN (⟨rates,pwn,ptn,pag⟩:Part) l:Nat):Int)=atN (⟨rates,pwn,ptn,pag⟩:Part) l:=by omega
 rw [e1];rw [decide_eq_true (show (0:Int)≤(atN (⟨rates,pwn,ptn,pag⟩:Part) l:Int) by omega)]
theorem uB (a b:Int) (w:World) :
    Calls Tryz.prog 195 [.agg [.int .i64 a,.int .i64 b].toArray].toArray w (Ret (fun v w'=>v = .int .i64 (Prod.snd (a,b))∧St w noF [] w')):=by
 refine enter Tryz.func195 rfl Tryz.ntmps195 rfl (fun a H=>?_)
 have S:=St.start w
 refine seq_list fun K1 k1=>?_
 refine aO H rfl S G G ?_;clear H a S;intro b1 _ a hb1 hbw1 S H
 refine ls 1 H<|sr 1 rfl<|sE ?_;clear H a;intro a H
 refine k1 _ _ ?_;clear k1 K1
 refine sS H fun K2 k2=>sf bF rfl<|sl S 0 aD G G G<|sr 1 rfl<|sE ?_;clear H a;intro a H
 refine k2 _ ?_;clear k2 K2
 refine wp_ret ?_
 refine ret1 (fn:=Tryz.f195) rfl H rfl ?_
 exact ⟨rfl,(S.sel [] G G)⟩
theorem uC {P:Program} {w:World} {L:List (Nat×Value)} {ty:TypeId} {pos:String} {af:Array Edge} {dd:Option Nat} {g:Option (Nat×Bool)} {x y:Operand} {xt yt:TypeId} {m n:Int} (hx:ev L x=some (.int .i64 m)) (hy:ev L y=some (.int .i64 n)) (h:n<m):Does P L ⟨dd,.binOp .gtr xt x y yt,ty,pos,af,g⟩ w (.bool true):=by
  have h1:=bY (P:=P) (d:=dd) (w:=w) (ty:=ty) (pos:=pos) (af:=af) (g:=g) (xt:=xt) (yt:=yt) hx hy
  rw [decide_eq_true h] at h1
  exact h1
theorem nL {P:Program} {w:World} {L:List (Nat×Value)} {ty:TypeId} {pos:String} {af:Array Edge} {dd:Option Nat} {g:Option (Nat×Bool)} {x y:Operand} {xt yt:TypeId} {m n:Int} (hx:ev L x=some (.int .i64 m)) (hy:ev L y=some (.int .i64 n)) (h:¬ n<m):Does P L ⟨dd,.binOp .gtr xt x y yt,ty,pos,af,g⟩ w (.bool false):=by
  have h1:=bY (P:=P) (d:=dd) (w:=w) (ty:=ty) (pos:=pos) (af:=af) (g:=g) (xt:=xt) (yt:=yt) hx hy
  rw [decide_eq_false h] at h1
  exact h1
theorem Al (rates : List (Int × Int)) (pwn ptn pag : Int) (RA : Option Addr) (rcp : Nat) (l : List Use) (A : Option Addr) (cp : Nat) (f : Nat) (fn : Func) (e : Int × Int → Int) (w : World) (hr : InS w noF 2 RA rates.length (scell rates)) (hrn : rates.length ≤ 9223372036854775807) (hl : InS w noF 6 A l.length (ucell l)) (hn : l.length ≤ 9223372036854775807) (hf : Tryz.prog.funcs[f]? = some fn) (hfb : fn.body.isNone = false) (hfn : (fn.name == "runtime.NumGoroutine") = false) (hcall : ∀ (a b : Int) (w' : World), Calls Tryz.prog f [.agg [.int .i64 a, .int .i64 b].toArray].toArray w' (Ret fun v w'' => v = .int .i64 (e (a, b)) ∧ St w' noF [] w'')) :
    Calls Tryz.prog 194 [.agg [.slice RA rates.length rcp,.int .i64 pwn,.int .i64 ptn,.int .i64 pag].toArray,.slice A l.length cp,.func (.func f) [].toArray [].toArray].toArray w (Ret (fun v w'=>v = .tuple #[.int .i64 (dR (⟨rates,pwn,ptn,pag⟩:Part) l e).1,.int .i64 (dR (⟨rates,pwn,ptn,pag⟩:Part) l e).2]∧St w noF [] w')):=by
 refine enter Tryz.func194 rfl Tryz.ntmps194 rfl (fun a H=>?_)
 have S:=St.start w
 refine seq_list fun K1 k1=>?_
 refine aO H rfl S G G ?_;clear H a S;intro b3 _ a hb3 hbw3 S H
 refine ls 2 H<|sr 2 rfl<|sE ?_;clear H a;intro a H
 refine k1 _ _ ?_;clear k1 K1
 by_cases hA:wearE (⟨rates,pwn,ptn,pag⟩:Part) l=0
 ·skip
  have h0:=lE hA;have hok:=kJ h0.1
  have hh:=hok.hdr;unfold iE at hh;simp only [decide_eq_true_eq] at hh;have hll:=hok.len
  replace H:=H.keep [1,2,3] rfl
  refine seq_list fun K2 k2=>?_
  refine ls 2 H<|sd ((aE eS gZ rfl S (i:=0) G G))<|sr 1 rfl<|sE ?_;clear H a;intro a H
  refine aA H G G Tryz.func156 G G (fQ (nK rates pwn ptn pag RA rcp l A cp _ (hr.now S) hrn (hl.now S) hn) (fun _ _=>Hs hA)) ?_;clear H a
  rintro _ _ a ⟨A',c',rfl,S2⟩ H
  replace S:=S.call S2;clear S2
  refine ls 5 H<|sr 5 rfl<|sE ?_;clear H a;intro a H
  refine k2 _ _ ?_;clear k2 K2
  refine wp_seq_k fun K3 k3=>?_
  replace H:=H.keep [1,2,3,8,9] rfl
  refine sS H fun K4 k4=>sr 2 rfl<|sE ?_;clear H a;intro a H
  refine k4 _ ?_;clear k4 K4
  refine condN H rfl (fun hc1=>?_) (fun hc1=>?_)
  ·skip
   all_goals first|(exfalso;omega)|(simp at hc1)
  refine wp_skip ?_
  refine k3 _ _ ?_
  refine sS H fun K5 k5=>sr 1 rfl<|sE ?_;clear H a;intro a H
  refine k5 _ ?_;clear k5 K5
  refine wp_seq_k fun K6 k6=>?_
  refine sS H fun K7 k7=>sr 1 rfl<|sL dF rfl<|sr 1 rfl<|sE ?_;clear H a;intro a H
  refine k7 _ ?_;clear k7 K7
  refine wp_block ?_
  refine loop_st (X:=Nat) (R0:=_) [2,3,8,22,23] H rfl (fun k=>[(10,.int .i64 (sumT l k)),(24,.int .i64 (k:Int))]) (fun k=>[]) (fun g k=>k≤l.length∧g+k=l.length∧∀ q,q<k→(fun k=>wornB (⟨rates,pwn,ptn,pag⟩:Part) l k (e (bP (⟨rates,pwn,ptn,pag⟩:Part) l k))) q=false) (l.length) 0 ?_ (S.sel [0,1] G G) (H.keep [10,24,2,3,8,22,23] rfl) ?_
  · exact ⟨by omega,by omega,fun q hq=>absurd hq (Nat.not_lt_zero _)⟩
  clear H S a
  intro g1 x1 a w1 hp S H K8 k8
  obtain ⟨k,rfl⟩:∃ y,y=x1:=⟨_,rfl⟩
  refine sS H fun K9 k9=>sr 1 rfl<|sE ?_;clear H a;intro a H
  refine k9 _ ?_;clear k9 K9
  refine wp_seq_k fun K10 k10=>?_
  refine condL H rfl (fun hc2=>?_) (fun hc2=>?_)
  ·skip
   refine wp_skip ?_
   refine k10 _ _ ?_
   refine wp_seq_k fun K11 k11=>?_
   refine wp_block ?_
   refine seq_list fun K12 k12=>?_
   refine ls 3 H<|sr 1 rfl<|si dF dA G G (hl.adr (by omega)) (by omega)<|sd ((aU jR dA rfl S hl (by omega) (by omega)))<|sE ?_;clear H a;intro a H
   refine aI H rfl S jX ?_;clear H a S;intro b12 _ a hb12 hbw12 S H
   refine ls 1 H<|sr 1 rfl<|sE ?_;clear H a;intro a H
   refine aB H S (i:=0) G G G G dA G G ?_
   clear H a S;intro _ a S H
   refine k12 _ _ ?_;clear k12 K12
   have hsb:=Pp hok k (by omega)
   have hu:=hok.use (k:=k) (by omega);unfold useOk at hu;simp only [decide_eq_true_eq] at hu
   replace H:=H.keep [2,3,8,10,11,12,22,23,24] rfl
   refine sS H fun K13 k13=>sr 1 rfl<|sf jI rfl<|sl S 0 aD G G G<|sd (aK G G (by unfold i64ok;omega))<|sr 1 rfl<|sE ?_;clear H a;intro a H
   refine k13 _ ?_;clear k13 K13
   rcases (show ptn<sumT l (k+1)∨(¬ ptn<sumT l (k+1)∧pag<(l.getD k Use.zero).day)∨(¬ ptn<sumT l (k+1)∧¬ pag<(l.getD k Use.zero).day) from by omega) with hB|hB|hB
   ·skip
    replace H:=H.keep [2,3,8,10,11,12,22,23,24] rfl
    replace S:=S.drew
    refine seq_wq [(0,true),(1,true),(2,true),(3,true),(4,true),(5,true),(6,true),(7,true),(8,true),(9,true),(10,true),(11,true),(12,true),(13,true),(14,true),(15,true),(16,true),(17,true),(18,true),(19,true),(20,true),(21,true),(22,true)] (by kernel_rfl) (by kernel_rfl) (S.sel [0,1,2] G G) fun K14 k14=>?_
    refine qF H<|qr 1 rfl<|qd rfl (fun _ S=>(aC oI rfl))<|qd rfl (fun _ S=>aG aD rfl (boxM.rd S (i:=2) G G))<|qd rfl (fun _ S=>uC G G hB)<|qr 1 rfl<|qK ?_;clear H a;intro a H
    refine aJ H G G G G G ?_;clear H a;intro a H
    refine aJ H G G G G G ?_;clear H a;intro a H
    refine aJ H G G G G G ?_;clear H a;intro a H
    refine aJ H G G G G G ?_;clear H a;intro a H
    refine aJ H G G G G G ?_;clear H a;intro a H
    refine qF H<|qd rfl (fun _ S=>(aT G G G))<|qr 1 rfl<|qK ?_;clear H a;intro a H
    refine aJ H G G G G G ?_;clear H a;intro a H
    refine aJ H G G G G G ?_;clear H a;intro a H
    refine aJ H G G G G G ?_;clear H a;intro a H
    refine aJ H G G G G G ?_;clear H a;intro a H
    refine aJ H G G G G G ?_;clear H a;intro a H
    refine aJ H G G G G G ?_;clear H a;intro a H
    refine aJ H G G G G G ?_;clear H a;intro a H
    refine aJ H G G G G G ?_;clear H a;intro a H
    refine aJ H G G G G G ?_;clear H a;intro a H
    refine aJ H G G G G G ?_;clear H a;intro a H
    refine qF H<|qd rfl (fun _ S=>(aT G G G))<|qK ?_;clear H a;intro a H
    refine bO ?_
    refine k14 _ _ ?_
    clear k14 K14
    refine cond_ H rfl (fun hc3=>?_) (fun hc3=>?_)
    ·skip
     skip
     replace H:=H.keep [11] rfl
     refine sS H fun K15 k15=>sr 3 rfl<|sE ?_;clear H a;intro a H
     refine k15 _ ?_;clear k15 K15
     refine wp_ret ?_
     refine ret2 (fn:=Tryz.f194) rfl H G G ?_
     have e9:jJ (fun k=>wornB (⟨rates,pwn,ptn,pag⟩:Part) l k (e (bP (⟨rates,pwn,ptn,pag⟩:Part) l k))) l.length=k:=mM (by omega) (by show wornB _ _ _ _=true;unfold wornB;rw [decide_eq_true hB];simp) hp.2.2
     unfold dR;rw [if_neg (by omega),e9];exact ⟨rfl,(S.sel [] G G)⟩
    skip
    cases hc3
   ·skip
    replace H:=H.keep [2,3,8,10,11,12,22,23,24] rfl
    replace S:=S.drew
    refine seq_wq [(0,true),(1,true),(2,true),(3,true),(4,true),(5,true),(6,true),(7,true),(8,true),(9,true),(10,true),(11,true),(12,true),(13,true),(14,true),(15,true),(16,true),(17,true),(18,true),(19,true),(20,true),(21,true),(22,true)] (by kernel_rfl) (by kernel_rfl) (S.sel [0,1,2] G G) fun K16 k16=>?_
    refine qF H<|qr 1 rfl<|qd rfl (fun _ S=>(aC oI rfl))<|qd rfl (fun _ S=>aG aD rfl (boxM.rd S (i:=2) G G))<|qd rfl (fun _ S=>nL G G hB.1)<|qr 1 rfl<|qK ?_;clear H a;intro a H
    refine aF H G G G G (fun _ S=>(aC gN rfl)) ?_;clear H a;intro a H
    refine aF H G G G G (fun _ S=>aG aD rfl (boxM.rd S (i:=0) G G)) ?_;clear H a;intro a H
    refine aF H G G G G (fun _ S=>(aC rB rfl)) ?_;clear H a;intro a H
    refine aF H G G G G (fun _ S=>aG aD rfl (boxM.rd S (i:=2) G G)) ?_;clear H a;intro a H
    refine aF H G G G G (fun _ S=>uC G G hB.2) ?_;clear H a;intro a H
    refine qF H<|qd rfl (fun _ S=>(aX G G G))<|qr 1 rfl<|qK ?_;clear H a;intro a H
    refine aJ H G G G G G ?_;clear H a;intro a H
    refine aJ H G G G G G ?_;clear H a;intro a H
    refine aJ H G G G G G ?_;clear H a;intro a H
    refine aJ H G G G G G ?_;clear H a;intro a H
    refine aJ H G G G G G ?_;clear H a;intro a H
    refine aJ H G G G G G ?_;clear H a;intro a H
    refine aJ H G G G G G ?_;clear H a;intro a H
    refine aJ H G G G G G ?_;clear H a;intro a H
    refine aJ H G G G G G ?_;clear H a;intro a H
    refine aJ H G G G G G ?_;clear H a;intro a H
    refine qF H<|qd rfl (fun _ S=>(aT G G G))<|qK ?_;clear H a;intro a H
    refine bO ?_
    refine k16 _ _ ?_
    clear k16 K16
    refine cond_ H rfl (fun hc4=>?_) (fun hc4=>?_)
    ·skip
     skip
     replace H:=H.keep [11] rfl
     refine sS H fun K17 k17=>sr 3 rfl<|sE ?_;clear H a;intro a H
     refine k17 _ ?_;clear k17 K17
     refine wp_ret ?_
     refine ret2 (fn:=Tryz.f194) rfl H G G ?_
     have e9:jJ (fun k=>wornB (⟨rates,pwn,ptn,pag⟩:Part) l k (e (bP (⟨rates,pwn,ptn,pag⟩:Part) l k))) l.length=k:=mM (by omega) (by show wornB _ _ _ _=true;unfold wornB;rw [decide_eq_true hB.2];simp) hp.2.2
     unfold dR;rw [if_neg (by omega),e9];exact ⟨rfl,(S.sel [] G G)⟩
    skip
    cases hc4
   replace H:=H.keep [2,3,8,10,11,12,22,23,24] rfl
   replace S:=S.drew
   refine seq_wq [(0,true),(1,true),(2,true),(3,true),(4,true),(5,true),(6,true),(7,true),(8,true),(9,true),(10,true),(11,true),(12,true),(13,true),(14,true),(15,true),(16,true),(18,true),(19,true),(20,true),(17,false),(21,true),(22,true)] (by kernel_rfl) (by kernel_rfl) (S.sel [0,1,2] G G) fun K18 k18=>?_
   refine qF H<|qr 1 rfl<|qd rfl (fun _ S=>(aC oI rfl))<|qd rfl (fun _ S=>aG aD rfl (boxM.rd S (i:=2) G G))<|qd rfl (fun _ S=>nL G G hB.1)<|qr 1 rfl<|qK ?_;clear H a;intro a H
   refine aF H G G G G (fun _ S=>(aC gN rfl)) ?_;clear H a;intro a H
   refine aF H G G G G (fun _ S=>aG aD rfl (boxM.rd S (i:=0) G G)) ?_;clear H a;intro a H
   refine aF H G G G G (fun _ S=>(aC rB rfl)) ?_;clear H a;intro a H
   refine aF H G G G G (fun _ S=>aG aD rfl (boxM.rd S (i:=2) G G)) ?_;clear H a;intro a H
   refine aF H G G G G (fun _ S=>nL G G hB.2) ?_;clear H a;intro a H
   refine qF H<|qd rfl (fun _ S=>(aX G G G))<|qr 1 rfl<|qK ?_;clear H a;intro a H
   refine aF H G G G G (fun _ S=>aL rfl) ?_;clear H a;intro a H
   refine aF H G G G G (fun _ S=>aL rfl) ?_;clear H a;intro a H
   refine aF H G G G G (fun _ S=>aL rfl) ?_;clear H a;intro a H
   refine aF H G G G G (fun _ S=>aZ dG aP G G (ownM.adr S (i:=1) rfl (by omega)) (by omega)) ?_;clear H a;intro a H
   refine aF H G G G G (fun _ S=>(vW bD aP rfl S (i:=1) rfl (by omega) (by omega))) ?_;clear H a;intro a H
   refine aF H G G G G (fun _ S=>(aC wN rfl)) ?_;clear H a;intro a H
   refine aF H G G G G (fun _ S=>aG aD rfl (boxM.rd S (i:=2) G G)) ?_;clear H a;intro a H
   refine aF H G G G G (fun _ S=>jZ G G (by unfold i64ok;omega)) ?_;clear H a;intro a H
   refine aV rfl ?_
   refine aY H G G ?_
   refine fS (fs:=[]) (cs:=[]) (vs:=[.agg [.int .i64 (bP (⟨rates,pwn,ptn,pag⟩:Part) l k).1,.int .i64 (bP (⟨rates,pwn,ptn,pag⟩:Part) l k).2].toArray]) H G G G (hf) (hfb) (hfn) (by exact hcall (bP (⟨rates,pwn,ptn,pag⟩:Part) l k).1 (bP (⟨rates,pwn,ptn,pag⟩:Part) l k).2 _) ?_;clear H a
   rintro _ _ a ⟨rfl,S2⟩ H
   replace S:=S.call S2;clear S2
   refine wpList_nil (And.intro (S.sel [0,1,2] G G) ?_)
   refine aF H G G G G (fun _ S=>bY G G) ?_;clear H a;intro a H
   refine qF H<|qd rfl (fun _ S=>(aX G G G))<|qK ?_;clear H a;intro a H
   refine bO ?_
   refine k18 _ _ ?_
   clear k18 K18
   refine cond_ H rfl (fun hc5=>?_) (fun hc5=>?_)
   ·skip
    skip
    replace H:=H.keep [11] rfl
    refine sS H fun K19 k19=>sr 3 rfl<|sE ?_;clear H a;intro a H
    refine k19 _ ?_;clear k19 K19
    refine wp_ret ?_
    refine ret2 (fn:=Tryz.f194) rfl H G G ?_
    have e9:jJ (fun k=>wornB (⟨rates,pwn,ptn,pag⟩:Part) l k (e (bP (⟨rates,pwn,ptn,pag⟩:Part) l k))) l.length=k:=mM (by omega) (by show wornB _ _ _ _=true;unfold wornB;rw [decide_eq_false hB.1,decide_eq_false hB.2];exact hc5) hp.2.2
    unfold dR;rw [if_neg (by omega),e9];exact ⟨rfl,(S.sel [] G G)⟩
   skip
   refine wp_skip ?_
   refine k11 _ _ ?_
   refine sO H<|sd (aK G G (by unfold i64ok;omega))<|sr 1 rfl<|sE ?_;clear H a;intro a H
   exact k8 (g1-1) (k+1) a _ (by omega) (⟨by omega,by omega,fun q hq=>by
     by_cases h:q=k
     · subst h;show wornB _ _ _ _=false;unfold wornB;rw [decide_eq_false hB.1,decide_eq_false hB.2];exact hc5
     · exact hp.2.2 q (by omega)⟩) (S.sel [1,2] G G) (H.keep [10,24,2,3,8,22,23] rfl)
  refine wp_exit ?_
  refine k6 _ _ ?_
  refine sS H fun K21 k21=>sr 2 rfl<|sE ?_;clear H a;intro a H
  refine k21 _ ?_;clear k21 K21
  refine wp_ret ?_
  refine ret2 (fn:=Tryz.f194) rfl H G G ?_
  have hk9:k=l.length:=by omega
  subst hk9
  unfold dR;rw [if_neg (by omega),qP hp.2.2];exact ⟨rfl,(S.sel [] G G)⟩
 skip
 replace H:=H.keep [1,2,3] rfl
 refine seq_list fun K22 k22=>?_
 refine ls 2 H<|sd ((aE eS gZ rfl S (i:=0) G G))<|sr 1 rfl<|sE ?_;clear H a;intro a H
 refine aA H G G Tryz.func156 G G (fQ (nK rates pwn ptn pag RA rcp l A cp _ (hr.now S) hrn (hl.now S) hn) (fun _ _=>Nh hA)) ?_;clear H a
 rintro _ _ a ⟨rfl,S2⟩ H
 replace S:=S.call S2;clear S2
 refine ls 5 H<|sr 5 rfl<|sE ?_;clear H a;intro a H
 refine k22 _ _ ?_;clear k22 K22
 refine wp_seq_k fun K23 k23=>?_
 replace H:=H.keep [1,2,3,8,9] rfl
 refine sS H fun K24 k24=>sr 2 rfl<|sE ?_;clear H a;intro a H
 refine k24 _ ?_;clear k24 K24
 refine condN H rfl (fun hc6=>?_) (fun hc6=>?_)
 ·skip
  refine sS H fun K25 k25=>sr 3 rfl<|sE ?_;clear H a;intro a H
  refine k25 _ ?_;clear k25 K25
  refine wp_ret ?_
  refine ret2 (fn:=Tryz.f194) rfl H G G ?_
  unfold dR;rw [if_pos hA];exact ⟨rfl,(S.sel [] G G)⟩
 all_goals (exfalso;omega)
theorem xP (rates:List (Int×Int)) (pwn ptn pag:Int) (RA:Option Addr) (rcp:Nat) (l:List Use) (A:Option Addr) (cp:Nat) (w:World) (hr:InS w noF 2 RA rates.length (scell rates)) (hrn:rates.length≤9223372036854775807) (hl:InS w noF 6 A l.length (ucell l)) (hn:l.length≤9223372036854775807) :
    Calls Tryz.prog 183 [.agg [.slice RA rates.length rcp,.int .i64 pwn,.int .i64 ptn,.int .i64 pag].toArray,.slice A l.length cp].toArray w (Ret (fun v w'=>v = .tuple #[.int .i64 (dR (⟨rates,pwn,ptn,pag⟩:Part) l Prod.snd).1,.int .i64 (dR (⟨rates,pwn,ptn,pag⟩:Part) l Prod.snd).2]∧St w noF [] w')):=by
 refine enter Tryz.func183 rfl Tryz.ntmps183 rfl (fun a H=>?_)
 have S:=St.start w
 refine seq_list fun K1 k1=>?_
 refine aO H rfl S G G ?_;clear H a S;intro b2 _ a hb2 hbw2 S H
 refine ls 2 H<|sr 2 rfl<|sE ?_;clear H a;intro a H
 refine k1 _ _ ?_;clear k1 K1
 replace H:=H.keep [1,2] rfl
 refine seq_list fun K2 k2=>?_
 refine ls 2 H<|sd ((aE eS gZ rfl S (i:=0) G G))<|sr 1 rfl<|sE ?_;clear H a;intro a H
 refine aA H G G Tryz.func194 G G (Al rates pwn ptn pag RA rcp l A cp 195 _ Prod.snd _ (hr.now S) hrn (hl.now S) hn Tryz.func195 G G (fun a b w'=>uB a b w')) ?_;clear H a
 rintro _ _ a ⟨rfl,S2⟩ H
 replace S:=S.call S2;clear S2
 refine ls 4 H<|sr 4 rfl<|sE ?_;clear H a;intro a H
 refine k2 _ _ ?_;clear k2 K2
 refine wp_ret ?_
 refine ret2 (fn:=Tryz.f183) rfl H G G ?_
 exact ⟨rfl,(S.sel [] G G)⟩
end
section
theorem Ni {w:World} {p:Part} {l:List Use} {v:Value} {w':World} (h:WearR w p l v w'):∃ A n c,v = .tuple #[.slice A n c,.int .i64 (wearE p l)]∧St w noF [] w':=by
  rcases h with ⟨h0,A,c,rfl,S⟩|⟨_,rfl,S⟩
  · exact ⟨A,_,c,by rw [h0],S.sel [] rfl rfl⟩
  · exact ⟨none,0,0,rfl,S⟩
theorem nM {l:List Use} {k:Nat} (h:k+1=l.length):(l.getD k Use.zero).day=prevD l l.length:=by rw [←h];rfl
theorem uD {p:Part} {l:List Use} (h:wearE p l=0):0≤prevD l l.length∧p.rates.length≤4:=by
  have h1:=kJ (lE h).1
  have h2:=h1.hdr
  unfold iE at h2
  simp only [decide_eq_true_eq] at h2
  exact ⟨pD h1.uses,h2.2.1⟩
theorem Am {P:Int} {ps:List Psg} {xs:List Int} (V:StV P ps xs) {n:Nat} (hn:n<ps.length):(∀ j,j<n→0≤(ps.getD n Psg.zero).mach→(ps.getD j Psg.zero).mach≠(ps.getD n Psg.zero).mach)∧∀ j,j<n→(ps.getD n Psg.zero).mach<0→(ps.getD j Psg.zero).mach=(ps.getD n Psg.zero).mach→(ps.getD j Psg.zero).mach<0:=
  ⟨fun j hj h0=>V.mach n hn h0 j hj,fun j _ h0 e=>by omega⟩
theorem Rx {pl:Int} {ps:List Psg} {xs:List Int} {day:List Hq} {l:List Prm} (h:keptE pl ps xs day l=0):StV pl ps xs:=oR (xC (zK h).1).1
theorem Ry {pl:Int} {ps:List Psg} {xs:List Int} {day:List Hq} {l:List Prm}:(keptV pl ps xs day l).2.2.2=keptE pl ps xs day l:=by
  unfold keptV
  split
  · rfl
  · split
    · dsimp only;omega
    · dsimp only;omega
theorem pE {days:Int} {s:Spr}:sprB days s=true↔((0≤s.day∧s.day≤days-1)∧(0≤s.kind∧s.kind≤3)∧(1≤s.many∧s.many≤8)):=by unfold sprB;rw [decide_eq_true_eq]
theorem Nj {pe:List Int} {k:Nat} (h:∀ q,q<k→0≤pe.getD q 0∧pe.getD q 0≤1000) (hk:0≤pe.getD k 0∧pe.getD k 0≤1000):∀ q,q<k+1→0≤pe.getD q 0∧pe.getD q 0≤1000:=fun q hq=>by
  by_cases e:q=k
  · subst e;exact hk
  · exact h q (by omega)
theorem eP {f:Nat→Bool} {k:Nat} (h:∀ q,q<k→f q=true) (hk:f k=true):∀ q,q<k+1→f q=true:=fun q hq=>by
  by_cases e:q=k
  · subst e;exact hk
  · exact h q (by omega)
theorem bQ (n lo hi:Int) (w:World) :
    Calls Tryz.prog 82 [.int .i64 n,.int .i64 lo,.int .i64 hi].toArray w (Ret (fun v w'=>v = .bool (decide (lo≤n)&&decide (n≤hi))∧w'=w)):=by
 refine enter Tryz.func82 rfl Tryz.ntmps82 rfl (fun a H=>?_)
 have S:=St.start w
 refine sS H fun K1 k1=>sr 1 rfl<|sE ?_;clear H a;intro a H
 refine k1 _ ?_;clear k1 K1
 replace H:=H.keep [0,1,2] rfl
 refine sS H fun K2 k2=>sr 4 rfl<|sg 3 3 10 13 true G G (fun hg4=>sy hg4<|sr 1 rfl<|sy hg4<|sr 1 rfl<|sy hg4<|sr 1 rfl<|sz 3 G G G)<|sa G G G<|sr 1 rfl<|sE ?_;clear H a;intro a H
 refine k2 _ ?_;clear k2 K2
 refine wp_ret ?_
 refine ret1 (fn:=Tryz.f82) rfl H rfl ?_
 exact ⟨rfl,rfl⟩
theorem Rz (u:Unt) (ps:List Psg) (us:List Unt) (i mb:Nat) (w:World) (F:Nat→Prop) (S:St w F [mapK (fun n:Int=>Value.int .i64 n) mb (macP ps us ps.length i)] w) (hur:InS w F 2 u.RA u.rates.length (scell u.rates)) (hurn:u.rates.length≤9223372036854775807) (huu:InS w F 6 u.UA u.uses.length (ucell u.uses)) (huun:u.uses.length≤9223372036854775807) :
    Calls Tryz.prog 124 [.agg [.int .i64 u.mach,.int .i64 u.every,.int .i64 u.seen,.slice u.RA u.rates.length u.rc,.int .i64 u.worn,.int .i64 u.turns,.int .i64 u.age,.slice u.UA u.uses.length u.uc,.int .i64 u.old,.int .i64 u.tn,.int .i64 u.cl,.int .i64 u.kind].toArray,.map (some mb)].toArray w (Ret (fun v w'=>v = .bool (untU ps us i u)∧St w F [mapK (fun n:Int=>Value.int .i64 n) mb (macP ps us ps.length i)] w')):=by
 refine enter Tryz.func124 rfl Tryz.ntmps124 rfl (fun a H=>?_)
 skip
 refine seq_list fun K1 k1=>?_
 refine aO H rfl S G G ?_;clear H a S;intro b2 _ a hb2 hbw2 S H
 refine ls 1 H<|sr 1 rfl<|sE ?_;clear H a;intro a H
 refine k1 _ _ ?_;clear k1 K1
 refine wp_seq_k fun K2 k2=>?_
 replace H:=H.keep [1,2] rfl
 refine sS H fun K3 k3=>sr 1 rfl<|sf lA rfl<|sl S 0 aD G G G<|sd ((oV S (i:=1) rfl Bv (hO rfl) G G G (fun h hh=>hh u.mach):Does _ _ _ _ (.bool (freeM ps us i u.mach))))<|sr 2 rfl<|sg 4 5 14 18 false G G (fun hg6=>sy hg6<|sf rC rfl<|sy hg6<|sl S 0 aD G G G<|sy hg6<|sc rfl Tryz.func82 G G (bQ _ _ _ _)<|sy hg6<|sr 1 rfl<|sz 4 G G G)<|so G G G<|sr 1 rfl<|sg 4 11 20 24 false G G (fun hg12=>sy hg12<|sf wO rfl<|sy hg12<|sl S 0 aD G G G<|sy hg12<|sc rfl Tryz.func82 G G (bQ _ _ _ _)<|sy hg12<|sr 1 rfl<|sz 4 G G G)<|so G G G<|sr 1 rfl<|sg 4 17 26 30 false G G (fun hg18=>sy hg18<|sf Dv rfl<|sy hg18<|sl S 0 aD G G G<|sy hg18<|sc rfl Tryz.func82 G G (bQ _ _ _ _)<|sy hg18<|sr 1 rfl<|sz 4 G G G)<|so G G G<|sE ?_;clear H a;intro a H
 refine k3 _ ?_;clear k3 K3
 refine cond_ H rfl (fun hc1=>?_) (fun hc1=>?_)
 ·skip
  try simp only [o1,o2,o3,o4,o5,o6,o7,o8,o9,oa] at hc1
  replace H:=H.keep [] rfl
  refine sS H fun K4 k4=>sr 1 rfl<|sE ?_;clear H a;intro a H
  refine k4 _ ?_;clear k4 K4
  refine wp_ret ?_
  refine ret1 (fn:=Tryz.f124) rfl H rfl ?_
  rw [zS (ps:=ps) (us:=us) (i:=i) (u:=u) (fun h=>by have h1:=h.free;have h2:=h.i;unfold untI at h2;rw [h1] at hc1;simp only [Bool.true_eq_false,Bool.not_true,Bool.false_eq_true,not_true_eq_false,false_or] at hc1;omega)];exact ⟨rfl,(S.sel [1] G G)⟩
 try simp only [o1,o2,o3,o4,o5,o6,o7,o8,o9,oa] at hc1
 refine wp_skip ?_
 refine k2 _ _ ?_
 refine wp_seq_k fun K5 k5=>?_
 replace H:=H.keep [2] rfl
 refine seq_list fun K6 k6=>?_
 refine ls 4 H<|sf mK rfl<|sd ((aE eS gZ rfl S (i:=0) G G))<|sf gI rfl<|sl S 0 jB G G G<|sE ?_;clear H a;intro a H
 refine aA H G G Tryz.func156 G G (fQ (nK u.rates u.worn u.turns u.age u.RA u.rc u.uses u.UA u.uc _ (hur.now S) hurn (huu.now S) huun) (fun _ _ h=>Ni h)) ?_;clear H a
 rintro _ _ a ⟨WA,wn,wc,rfl,S2⟩ H
 replace S:=S.call S2;clear S2
 refine ls 5 H<|sr 5 rfl<|sE ?_;clear H a;intro a H
 refine k6 _ _ ?_;clear k6 K6
 replace H:=H.keep [2,6] rfl
 refine sS H fun K7 k7=>sr 3 rfl<|sg 4 2 42 46 false G G (fun hg3=>sy hg3<|sf gI rfl<|sy hg3<|sl S 0 jB G G G<|sy hg3<|sL dF rfl<|sy hg3<|sr 1 rfl<|sz 4 G G G)<|so G G G<|sE ?_;clear H a;intro a H
 refine k7 _ ?_;clear k7 K7
 refine cond_ H rfl (fun hc2=>?_) (fun hc2=>?_)
 ·skip
  try simp only [o1,o2,o3,o4,o5,o6,o7,o8,o9,oa] at hc2
  refine sS H fun K8 k8=>sr 1 rfl<|sE ?_;clear H a;intro a H
  refine k8 _ ?_;clear k8 K8
  refine wp_ret ?_
  refine ret1 (fn:=Tryz.f124) rfl H rfl ?_
  rw [zS (ps:=ps) (us:=us) (i:=i) (u:=u) (fun h=>by have h1:=h.wear;have h2:=h.i;unfold untI at h2;rcases hc2 with h9|h9;exact h9 h1;omega)];exact ⟨rfl,(S.sel [1] rfl rfl)⟩
 try simp only [o1,o2,o3,o4,o5,o6,o7,o8,o9,oa] at hc2
 have hwe:wearE u.part u.uses=0:=by have h9:=hc2;show wearE ⟨u.rates,u.worn,u.turns,u.age⟩ u.uses=0;omega
 have hpv:=uD hwe
 refine wp_skip ?_
 refine k5 _ _ ?_
 replace H:=H.keep [2] rfl
 refine sS H fun K9 k9=>sr 1 rfl<|sE ?_;clear H a;intro a H
 refine k9 _ ?_;clear k9 K9
 have SR:=(S.sel [0,1] G G)
 refine meet_sr (X:=Int) [2] H rfl (fun x=>[(7,.int .i64 x)]) (fun x=>[]) (fun x=>x=prevD u.uses u.uses.length) SR (fun K11 k11=>?_) ?_
 ·skip
  refine sS H fun K12 k12=>sf gI rfl<|sl S 0 jB G G G<|sL dF rfl<|sr 1 rfl<|sE ?_;clear H a;intro a H
  refine k12 _ ?_;clear k12 K12
  refine sS H fun K13 k13=>sr 2 rfl<|sE ?_;clear H a;intro a H
  refine k13 _ ?_;clear k13 K13
  refine condL H rfl (fun hc3=>?_) (fun hc3=>?_)
  ·skip
   replace H:=H.keep [2,8] rfl
   refine sO H<|sf gI rfl<|sl S 0 jB G G G<|sr 1 rfl<|sd (aS G G (by unfold i64ok;omega))<|sI dF dA G G (huu.adr (by omega)) (by omega) (by omega)<|sp gN rfl<|slm aD rfl (huu.rd S (by omega) (by omega))<|sr 1 rfl<|sE ?_;clear H a;intro a H
   exact k11 _ a _ (nM (k:=((u.uses.length:Int)-1).toNat) (by omega)) (S.sel [0,1] G G) (H.keep [7,2] rfl)
  refine wp_skip ?_
  exact k11 _ a _ (by rw [show u.uses.length=0 by omega];rfl) (S.sel [0,1] G G) (H.keep [7,2] rfl)
 clear SR H S a
 intro xm a wm hp S H
 obtain ⟨x,rfl⟩:∃ y,y=xm:=⟨_,rfl⟩
 replace H:=H.keep [2,7] rfl
 refine sS H fun K15 k15=>sf rD rfl<|sl S 0 aD G G G<|sr 1 rfl<|sc rfl Tryz.func82 G G (bQ _ _ _ _)<|sr 1 rfl<|sg 3 4 64 67 true G G (fun hg5=>sy hg5<|sf rE rfl<|sy hg5<|sl S 0 aD G G G<|sy hg5<|sc rfl Tryz.func82 G G (bQ _ _ _ _)<|sz 3 G G G)<|sa G G G<|sr 1 rfl<|sg 8 9 69 77 true G G (fun hg10=>sy hg10<|sf rF rfl<|sy hg10<|sl S 0 aD G G G<|sy hg10<|sf mK rfl<|sy hg10<|sf fB rfl<|sy hg10<|sl S 0 hY G G G<|sy hg10<|sL dG rfl<|sy hg10<|sd (aS G G (by unfold i64ok;omega))<|sy hg10<|sc rfl Tryz.func82 G G (bQ _ _ _ _)<|sz 8 G G G)<|sa G G G<|sr 1 rfl<|sE ?_;clear H a;intro a H
 refine k15 _ ?_;clear k15 K15
 refine wp_ret ?_
 refine ret1 (fn:=Tryz.f124) rfl H rfl ?_
 refine ⟨congrArg Value.bool ?_,(S.sel [1] G G)⟩
 rw [Bool.eq_iff_iff,tO]
 simp only [Bool.and_eq_true,decide_eq_true_eq]
 constructor
 · intro h9
   refine ⟨?_,?_,hwe⟩
   · rcases hc1 with ⟨⟨⟨h1,_⟩,_⟩,_⟩;exact h1
   · unfold untI;omega
 · intro h9
   have h2:=h9.i
   unfold untI at h2
   omega
theorem Sa (y:Yr) (w:World) (hy:YIn w noF y) (hyb:YBd y) :
    Calls Tryz.prog 81 [.agg [.int .i64 y.days,.int .i64 y.pl,.slice y.PA y.ps.length y.pc,.slice y.XA y.xs.length y.xc,.slice y.BA y.pe.length y.bc,.int .i64 y.limit,.bool y.help,.slice y.QA y.prs.length y.qc,.slice y.VA y.us.length y.vc,.int .i64 y.crew,.slice y.SA y.sps.length y.sc].toArray].toArray w (Ret (fun v w'=>v = .int .i64 (yearE y)∧St w noF [] w')):=by
 have hn1:=hyb.psn;have hn2:=hyb.pen;have hn3:=hyb.usn;have hn4:=hyb.spn
 refine enter Tryz.func81 rfl Tryz.ntmps81 rfl (fun a H=>?_)
 have S:=St.start w
 refine seq_list fun K1 k1=>?_
 refine aO H rfl S G G ?_;clear H a S;intro b1 _ a hb1 hbw1 S H
 refine ls 1 H<|sr 1 rfl<|sE ?_;clear H a;intro a H
 refine k1 _ _ ?_;clear k1 K1
 refine wp_seq_k fun K2 k2=>?_
 replace H:=H.keep [1] rfl
 refine seq_list fun K3 k3=>?_
 refine ls 4 H<|sf fN rfl<|sd ((aE eR gY rfl S (i:=0) G G))<|sf wM rfl<|sl S 0 Bp G G G<|sE ?_;clear H a;intro a H
 refine aA H G G Tryz.func70 G G (Hp y.pl y.ps y.PA y.pc y.xs y.XA y.xc ([]:List Hq) none 0 (fun _=>none) (fun _=>0) y.prs y.QA y.qc _ (hy.ps.now S) hyb.psn (hy.xs.now S) hyb.xsn InS.nil (by decide) (fun k hk=>absurd hk (Nat.not_lt_zero k)) (fun k hk=>absurd hk (Nat.not_lt_zero k)) (hy.prs.now S) hyb.prn) ?_;clear H a
 rintro _ _ a ⟨rfl,S2⟩ H
 replace S:=S.call S2;clear S2
 rw [Ry] at H
 refine ls 9 H<|sr 9 rfl<|sE ?_;clear H a;intro a H
 refine k3 _ _ ?_;clear k3 K3
 replace H:=H.keep [1,6] rfl
 refine sS H fun K4 k4=>sr 2 rfl<|sE ?_;clear H a;intro a H
 refine k4 _ ?_;clear k4 K4
 refine condN H rfl (fun hc1=>?_) (fun hc1=>?_)
 ·skip
  refine sS H fun K5 k5=>sr 2 rfl<|sE ?_;clear H a;intro a H
  refine k5 _ ?_;clear k5 K5
  refine wp_ret ?_
  refine ret1 (fn:=Tryz.f81) rfl H rfl ?_
  exact ⟨congrArg _ (nI hc1).symm,(S.sel [] G G)⟩
 have hke:keptE y.pl y.ps y.xs [] y.prs=0:=by omega
 have hV:=Rx hke
 refine wp_skip ?_
 refine k2 _ _ ?_
 refine wp_seq_k fun K6 k6=>?_
 replace H:=H.keep [1] rfl
 refine sS H fun K7 k7=>sf dH rfl<|sl S 0 aD G G G<|sc rfl Tryz.func82 G G (bQ _ _ _ _)<|sr 2 rfl<|sg 7 4 33 40 false G G (fun hg5=>by
     have hq5:=hg5;try simp only [o1,o2,o3,o4,o5,o6,o7,o8,o9,oa] at hq5
     exact sy hg5<|sf mI rfl<|sy hg5<|sl S 0 bR G G G<|sy hg5<|sL aW rfl<|sy hg5<|sf fN rfl<|sy hg5<|sf eK rfl<|sy hg5<|sl S 0 aD G G G<|sy hg5<|sr 1 rfl<|sz 7 G G G)<|so G G G<|sr 1 rfl<|sg 4 13 42 46 false G G (fun hg14=>by
     have hq14:=hg14;try simp only [o1,o2,o3,o4,o5,o6,o7,o8,o9,oa] at hq14
     exact sy hg14<|sf oH rfl<|sy hg14<|sl S 0 aD G G G<|sy hg14<|sc rfl Tryz.func82 G G (bQ _ _ _ _)<|sy hg14<|sr 1 rfl<|sz 4 G G G)<|so G G G<|sr 1 rfl<|sg 4 19 48 52 false G G (fun hg20=>by
     have hq20:=hg20;try simp only [o1,o2,o3,o4,o5,o6,o7,o8,o9,oa] at hq20
     exact sy hg20<|sf Du rfl<|sy hg20<|sl S 0 aD G G G<|sy hg20<|sc rfl Tryz.func82 G G (bQ _ _ _ _)<|sy hg20<|sr 1 rfl<|sz 4 G G G)<|so G G G<|sr 1 rfl<|sg 4 25 54 58 false G G (fun hg26=>by
     have hq26:=hg26;try simp only [o1,o2,o3,o4,o5,o6,o7,o8,o9,oa] at hq26
     exact sy hg26<|sf mJ rfl<|sy hg26<|sl S 0 pT G G G<|sy hg26<|sL sH rfl<|sy hg26<|sr 1 rfl<|sz 4 G G G)<|so G G G<|sE ?_;clear H a;intro a H
 refine k7 _ ?_;clear k7 K7
 refine cond_ H rfl (fun hc2=>?_) (fun hc2=>?_)
 ·skip
  try simp only [o1,o2,o3,o4,o5,o6,o7,o8,o9,oa] at hc2
  replace H:=H.keep [] rfl
  refine sS H fun K8 k8=>sr 1 rfl<|sE ?_;clear H a;intro a H
  refine k8 _ ?_;clear k8 K8
  refine wp_ret ?_
  refine ret1 (fn:=Tryz.f81) rfl H rfl ?_
  rw [oX hke (fun h=>by unfold yrI at h;omega)];exact ⟨rfl,(S.sel [] G G)⟩
 try simp only [o1,o2,o3,o4,o5,o6,o7,o8,o9,oa] at hc2
 refine wp_skip ?_
 refine k6 _ _ ?_
 refine wp_seq_k fun K9 k9=>?_
 refine sS H fun K10 k10=>sf mI rfl<|sl S 0 bR G G G<|sL aW rfl<|sr 1 rfl<|sE ?_;clear H a;intro a H
 refine k10 _ ?_;clear k10 K10
 refine wp_block ?_
 refine loop_st (X:=Nat) (R0:=_) [1,61,62] H rfl (fun k=>[(63,.int .i64 (k:Int))]) (fun k=>[]) (fun g k=>k≤y.pe.length∧g+k=y.pe.length∧∀ q,q<k→0≤y.pe.getD q 0∧y.pe.getD q 0≤1000) (y.pe.length) 0 ?_ (S.sel [0] G G) (H.keep [63,1,61,62] rfl) ?_
 · exact ⟨by omega,by omega,fun q hq=>absurd hq (Nat.not_lt_zero q)⟩
 clear H S a
 intro g1 x1 a w1 hp S H K11 k11
 obtain ⟨k,rfl⟩:∃ y,y=x1:=⟨_,rfl⟩
 refine sS H fun K12 k12=>sr 1 rfl<|sE ?_;clear H a;intro a H
 refine k12 _ ?_;clear k12 K12
 refine wp_seq_k fun K13 k13=>?_
 refine condL H rfl (fun hc3=>?_) (fun hc3=>?_)
 ·skip
  refine wp_skip ?_
  refine k13 _ _ ?_
  refine wp_seq_k fun K14 k14=>?_
  refine wp_block ?_
  refine sS H fun K15 k15=>si aW bC G G (hy.pe.adr (by omega)) (by omega)<|slm aD rfl (hy.pe.rd S (by omega) (by omega))<|sr 1 rfl<|sE ?_;clear H a;intro a H
  refine k15 _ ?_;clear k15 K15
  refine sS H fun K16 k16=>sr 1 rfl<|sc rfl Tryz.func82 G G (bQ _ _ _ _)<|sr 1 rfl<|sE ?_;clear H a;intro a H
  refine k16 _ ?_;clear k16 K16
  refine cond_ H rfl (fun hc4=>?_) (fun hc4=>?_)
  ·skip
   try simp only [o1,o2,o3,o4,o5,o6,o7,o8,o9,oa] at hc4
   refine sS H fun K17 k17=>sr 1 rfl<|sE ?_;clear H a;intro a H
   refine k17 _ ?_;clear k17 K17
   refine wp_ret ?_
   refine ret1 (fn:=Tryz.f81) rfl H rfl ?_
   rw [oX hke (fun h=>by have h9:=h.2.1.2 k (by omega);omega)];exact ⟨rfl,(S.sel [] G G)⟩
  try simp only [o1,o2,o3,o4,o5,o6,o7,o8,o9,oa] at hc4
  refine wp_skip ?_
  refine k14 _ _ ?_
  replace H:=H.keep [1,61,62,63] rfl
  refine sO H<|sd (aK G G (by unfold i64ok;omega))<|sr 1 rfl<|sE ?_;clear H a;intro a H
  exact k11 (g1-1) (k+1) a _ (by omega) (⟨by omega,by omega,Nj hp.2.2 (by omega)⟩) (S.sel [0] G G) (H.keep [63,1,61,62] rfl)
 refine wp_exit ?_
 refine k9 _ _ ?_
 refine wp_seq_k fun K19 k19=>?_
 refine sS H fun K20 k20=>sf mJ rfl<|sl S 0 pT G G G<|sL sH rfl<|sr 1 rfl<|sE ?_;clear H a;intro a H
 refine k20 _ ?_;clear k20 K20
 refine wp_block ?_
 have hpe9:∀ q,q<y.pe.length→0≤y.pe.getD q 0∧y.pe.getD q 0≤1000:=fun q hq=>hp.2.2 q (by omega)
 refine loop_st (X:=Nat) (R0:=_) [1,72,73] H rfl (fun k=>[(74,.int .i64 (k:Int))]) (fun k=>[]) (fun g k=>k≤y.sps.length∧g+k=y.sps.length∧∀ q,q<k→sprB y.days (y.sps.getD q Spr.zero)=true) (y.sps.length) 0 ?_ (S.sel [0] G G) (H.keep [74,1,72,73] rfl) ?_
 · exact ⟨by omega,by omega,fun q hq=>absurd hq (Nat.not_lt_zero q)⟩
 clear H S a
 intro g2 x2 a w2 hp S H K21 k21
 obtain ⟨k,rfl⟩:∃ y,y=x2:=⟨_,rfl⟩
 refine sS H fun K22 k22=>sr 1 rfl<|sE ?_;clear H a;intro a H
 refine k22 _ ?_;clear k22 K22
 refine wp_seq_k fun K23 k23=>?_
 refine condL H rfl (fun hc5=>?_) (fun hc5=>?_)
 ·skip
  refine wp_skip ?_
  refine k23 _ _ ?_
  refine wp_seq_k fun K24 k24=>?_
  refine wp_block ?_
  refine seq_list fun K25 k25=>?_
  refine ls 2 H<|si sH pX G G (hy.sps.adr (by omega)) (by omega)<|sd ((aU Dt pX rfl S hy.sps (by omega) (by omega)))<|sE ?_;clear H a;intro a H
  refine aI H rfl S Kf ?_;clear H a S;intro b10 _ a hb10 hbw10 S H
  refine aB H S (i:=0) G G G G pX G G ?_
  clear H a S;intro _ a S H
  refine k25 _ _ ?_;clear k25 K25
  replace H:=H.keep [1,10,72,73,74] rfl
  refine sS H fun K26 k26=>sf zC rfl<|sl S 0 aD G G G<|sf dH rfl<|sl S 1 aD G G G<|sd (aS G G (by unfold i64ok;omega))<|sc rfl Tryz.func82 G G (bQ _ _ _ _)<|sr 2 rfl<|sg 4 7 85 89 false G G (fun hg8=>by
      have hq8:=hg8;try simp only [o1,o2,o3,o4,o5,o6,o7,o8,o9,oa] at hq8
      exact sy hg8<|sf zD rfl<|sy hg8<|sl S 0 aD G G G<|sy hg8<|sc rfl Tryz.func82 G G (bQ _ _ _ _)<|sy hg8<|sr 1 rfl<|sz 4 G G G)<|so G G G<|sr 1 rfl<|sg 4 13 91 95 false G G (fun hg14=>by
      have hq14:=hg14;try simp only [o1,o2,o3,o4,o5,o6,o7,o8,o9,oa] at hq14
      exact sy hg14<|sf zE rfl<|sy hg14<|sl S 0 aD G G G<|sy hg14<|sc rfl Tryz.func82 G G (bQ _ _ _ _)<|sy hg14<|sr 1 rfl<|sz 4 G G G)<|so G G G<|sE ?_;clear H a;intro a H
  refine k26 _ ?_;clear k26 K26
  refine cond_ H rfl (fun hc6=>?_) (fun hc6=>?_)
  ·skip
   try simp only [o1,o2,o3,o4,o5,o6,o7,o8,o9,oa] at hc6
   replace H:=H.keep [] rfl
   refine sS H fun K27 k27=>sr 1 rfl<|sE ?_;clear H a;intro a H
   refine k27 _ ?_;clear k27 K27
   refine wp_ret ?_
   refine ret1 (fn:=Tryz.f81) rfl H rfl ?_
   rw [oX hke (fun h=>by have h9:=pE.1 (h.2.2.2.2.2 k (by omega));omega)];exact ⟨rfl,(S.sel [] G G)⟩
  try simp only [o1,o2,o3,o4,o5,o6,o7,o8,o9,oa] at hc6
  refine wp_skip ?_
  refine k24 _ _ ?_
  refine sO H<|sd (aK G G (by unfold i64ok;omega))<|sr 1 rfl<|sE ?_;clear H a;intro a H
  exact k21 (g2-1) (k+1) a _ (by omega) (⟨by omega,by omega,eP (f:=fun q=>sprB y.days (y.sps.getD q Spr.zero)) hp.2.2 (pE.2 (by omega))⟩) (S.sel [1] G G) (H.keep [74,1,72,73] rfl)
 refine wp_exit ?_
 refine k19 _ _ ?_
 refine wp_seq_k fun K29 k29=>?_
 refine sS H fun K30 k30=>sf dI rfl<|sl S 0 eH G G G<|sL fE rfl<|sr 1 rfl<|sE ?_;clear H a;intro a H
 refine k30 _ ?_;clear k30 K30
 refine condL H rfl (fun hc7=>?_) (fun hc7=>?_)
 ·skip
  refine sS H fun K31 k31=>sr 1 rfl<|sE ?_;clear H a;intro a H
  refine k31 _ ?_;clear k31 K31
  refine wp_ret ?_
  refine ret1 (fn:=Tryz.f81) rfl H rfl ?_
  rw [tK hke (by
    unfold yrI
    have h9:=hp.2.2
    exact ⟨by omega,⟨by omega,hpe9⟩,by omega,by omega,by omega,fun q hq=>h9 q (by omega)⟩) (by omega)];exact ⟨rfl,(S.sel [] G G)⟩
 refine wp_skip ?_
 refine k29 _ _ ?_
 replace H:=H.keep [1] rfl
 refine seq_list fun K32 k32=>?_
 refine iG (fun n:Int=>Value.int .i64 n) (macP y.ps y.us 0 0) Gv H rfl S ?_;clear H a S;intro mb _ a hmb S H
 refine ls 1 H<|sr 1 rfl<|sE ?_;clear H a;intro a H
 refine k32 _ _ ?_;clear k32 K32
 refine wp_seq_k fun K33 k33=>?_
 refine sS H fun K34 k34=>sf fN rfl<|sf fM rfl<|sl S 1 iP G G G<|sL jD rfl<|sr 1 rfl<|sE ?_;clear H a;intro a H
 refine k34 _ ?_;clear k34 K34
 refine wp_block ?_
 have hyi:yrI y:=by
   unfold yrI
   have h9:=hp.2.2
   exact ⟨by omega,⟨by omega,hpe9⟩,by omega,by omega,by omega,fun q hq=>h9 q (by omega)⟩
 refine loop_st (X:=Nat) (R0:=_) [1,11,105,106] H rfl (fun k=>[(107,.int .i64 (k:Int))]) (fun k=>[mapK (fun n:Int=>Value.int .i64 n) mb (macP y.ps y.us k 0)]) (fun g k=>k≤y.ps.length∧g+k=y.ps.length) (y.ps.length) 0 ?_ (S.sel [0,1] G G) (H.keep [107,1,11,105,106] rfl) ?_
 · exact ⟨by omega,by omega⟩
 clear H S a
 intro g3 x3 a w3 hp S H K35 k35
 obtain ⟨k,rfl⟩:∃ y,y=x3:=⟨_,rfl⟩
 refine sS H fun K36 k36=>sr 1 rfl<|sE ?_;clear H a;intro a H
 refine k36 _ ?_;clear k36 K36
 refine wp_seq_k fun K37 k37=>?_
 refine condL H rfl (fun hc8=>?_) (fun hc8=>?_)
 ·skip
  refine wp_skip ?_
  refine k37 _ _ ?_
  refine wp_seq_k fun K38 k38=>?_
  refine wp_block ?_
  refine seq_list fun K39 k39=>?_
  refine ls 2 H<|si jD eV G G (hy.ps.adr (by omega)) (by omega)<|sd ((aU kU eV rfl S hy.ps (by omega) (by omega)))<|sE ?_;clear H a;intro a H
  refine aI H rfl S sX ?_;clear H a S;intro b13 _ a hb13 hbw13 S H
  refine aB H S (i:=0) G G G G eV G G ?_
  clear H a S;intro _ a S H
  refine k39 _ _ ?_;clear k39 K39
  replace H:=H.keep [1,11,13,105,106,107] rfl
  refine one_list ?_
  refine ls 6 H<|sr 1 rfl<|sf dQ rfl<|sl S 0 aD G G G<|sf dQ rfl<|sl S 0 aD G G G<|sr 1 rfl<|sE ?_;clear H a;intro a H
  refine iR (k:=(y.ps.getD k Psg.zero).mach) (macP y.ps y.us (k+1) 0) H S (i:=1) rfl Bv (hO rfl) G G G (Qd (Am hV (by omega)).1 (Am hV (by omega)).2) ?_;clear H a S;intro _ a S H
  refine k38 _ _ ?_
  refine sO H<|sd (aK G G (by unfold i64ok;omega))<|sr 1 rfl<|sE ?_;clear H a;intro a H
  exact k35 (g3-1) (k+1) a _ (by omega) (⟨by omega,by omega⟩) (S.sel [1,2] G G) (H.keep [107,1,11,105,106] rfl)
 refine wp_exit ?_
 refine k33 _ _ ?_
 refine wp_seq_k fun K42 k42=>?_
 replace H:=H.keep [1,11] rfl
 refine sS H fun K43 k43=>sf dI rfl<|sl S 1 eH G G G<|sL fE rfl<|sr 1 rfl<|sE ?_;clear H a;intro a H
 refine k43 _ ?_;clear k43 K43
 refine wp_block ?_
 obtain rfl:k=y.ps.length:=by omega
 refine loop_st (X:=Nat) (R0:=_) [11,119,120] H rfl (fun k=>[(121,.int .i64 (k:Int))]) (fun k=>[mapK (fun n:Int=>Value.int .i64 n) mb (macP y.ps y.us y.ps.length k)]) (fun g k=>k≤y.us.length∧g+k=y.us.length∧∀ q,q<k→untB y.ps y.us q=true) (y.us.length) 0 ?_ (S.sel [0,1] G G) (H.keep [121,11,119,120] rfl) ?_
 · exact ⟨by omega,by omega,fun q hq=>absurd hq (Nat.not_lt_zero q)⟩
 clear H S a
 intro g4 x4 a w4 hp S H K44 k44
 obtain ⟨k,rfl⟩:∃ y,y=x4:=⟨_,rfl⟩
 refine sS H fun K45 k45=>sr 1 rfl<|sE ?_;clear H a;intro a H
 refine k45 _ ?_;clear k45 K45
 refine wp_seq_k fun K46 k46=>?_
 refine condL H rfl (fun hc9=>?_) (fun hc9=>?_)
 ·skip
  refine wp_skip ?_
  refine k46 _ _ ?_
  refine wp_seq_k fun K47 k47=>?_
  refine wp_block ?_
  refine seq_list fun K48 k48=>?_
  refine ls 2 H<|si fE jC G G (hy.us.adr (by omega)) (by omega)<|sd ((aU pU jC rfl S hy.us (by omega) (by omega)))<|sE ?_;clear H a;intro a H
  refine aI H rfl S Jw ?_;clear H a S;intro b15 _ a hb15 hbw15 S H
  refine aB H S (i:=0) G G G G jC G G ?_
  clear H a S;intro _ a S H
  refine k48 _ _ ?_;clear k48 K48
  refine wp_seq_k fun K49 k49=>?_
  refine seq_list fun K50 k50=>?_
  refine ls 2 H<|sd ((aE pU jC rfl S (i:=0) G G))<|sr 1 rfl<|sE ?_;clear H a;intro a H
  refine aA H G G Tryz.func124 G G (Rz (y.u k) y.ps y.us k mb _ _ ((S.sel [1] G G).startR) ((hy.rt k (by omega)).nowR (S.sel [1] G G)) (hyb.rtn (by omega)) ((hy.ul k (by omega)).nowR (S.sel [1] G G)) (hyb.uln (by omega))) ?_;clear H a
  rintro _ _ a ⟨rfl,S2⟩ H
  replace S:=St.callR (M:=[_]) (S.sel [1,0,2] G G) S2;clear S2
  refine ls 1 H<|sr 1 rfl<|sE ?_;clear H a;intro a H
  refine k50 _ _ ?_;clear k50 K50
  refine cond_ H rfl (fun hc10=>?_) (fun hc10=>?_)
  ·skip
   try simp only [o1,o2,o3,o4,o5,o6,o7,o8,o9,oa] at hc10
   replace H:=H.keep [] rfl
   refine sS H fun K51 k51=>sr 1 rfl<|sE ?_;clear H a;intro a H
   refine k51 _ ?_;clear k51 K51
   refine wp_ret ?_
   refine ret1 (fn:=Tryz.f81) rfl H rfl ?_
   rw [tL hke hyi (by omega) (show k<y.us.length by omega) hc10];exact ⟨rfl,(S.sel [] G G)⟩
  try simp only [o1,o2,o3,o4,o5,o6,o7,o8,o9,oa] at hc10
  refine wp_skip ?_
  refine k49 _ _ ?_
  refine one_list ?_
  refine ls 3 H<|sr 1 rfl<|sf lA rfl<|sl S 1 aD G G G<|sE ?_;clear H a;intro a H
  refine iR (k:=(y.us.getD k Unt.zero).mach) (macP y.ps y.us y.ps.length (k+1)) H S (i:=0) rfl Bv (hO rfl) G G G Qe ?_;clear H a S;intro _ a S H
  refine k47 _ _ ?_
  refine sO H<|sd (aK G G (by unfold i64ok;omega))<|sr 1 rfl<|sE ?_;clear H a;intro a H
  exact k44 (g4-1) (k+1) a _ (by omega) (⟨by omega,by omega,eP (f:=untB y.ps y.us) hp.2.2 hc10⟩) (S.sel [0,2] G G) (H.keep [121,11,119,120] rfl)
 refine wp_exit ?_
 refine k42 _ _ ?_
 refine sS H fun K54 k54=>sr 1 rfl<|sE ?_;clear H a;intro a H
 refine k54 _ ?_;clear k54 K54
 refine wp_ret ?_
 refine ret1 (fn:=Tryz.f81) rfl H rfl ?_
 rw [zQ hke hyi (by omega) (cC.2 fun q hq=>hp.2.2 q (by omega))];exact ⟨rfl,(S.sel [] G G)⟩
end
section
theorem chk5 (A B C:Prop) [Decidable A] [Decidable B] [Decidable C] (k:Nat):¬ A∨(A∧¬ B)∨(A∧B∧¬ C)∨(A∧B∧C∧k=0)∨(A∧B∧C∧0<k):=by
  by_cases hA:A <;> by_cases hB:B <;> by_cases hC:C <;> by_cases hk:k=0 <;> simp [hA,hB,hC,hk] <;> omega
section
variable {P:Program} {w:World} {L:List (Nat×Value)} {ty:TypeId} {pos:String} {af:Array Edge} {dd:Option Nat} {g:Option (Nat×Bool)}
theorem gC {x:Operand} {xt:TypeId} {lo n hi:Int} (hx:ev L x=some (.bool (decide (lo≤n)&&decide (n≤hi)))) (h:¬ (lo≤n∧n≤hi)):Does P L ⟨dd,.unOp .not xt x,ty,pos,af,g⟩ w (.bool true):=by
  have h1:=cS (P:=P) (d:=dd) (w:=w) (ty:=ty) (pos:=pos) (af:=af) (g:=g) (xt:=xt) hx
  have e:(!(decide (lo≤n)&&decide (n≤hi)))=true:=by simp only [Bool.not_eq_true',Bool.and_eq_false_iff,decide_eq_false_iff_not];omega
  rw [e] at h1
  exact h1
theorem bW {x:Operand} {xt:TypeId} {lo n hi:Int} (hx:ev L x=some (.bool (decide (lo≤n)&&decide (n≤hi)))) (h:lo≤n∧n≤hi):Does P L ⟨dd,.unOp .not xt x,ty,pos,af,g⟩ w (.bool false):=by
  have h1:=cS (P:=P) (d:=dd) (w:=w) (ty:=ty) (pos:=pos) (af:=af) (g:=g) (xt:=xt) hx
  rw [decide_eq_true h.1,decide_eq_true h.2] at h1
  exact h1
end
section
variable {y:Yr} {l:List Tsk} {k:Nat}
def tskI (y:Yr) (t:Tsk):Prop:=(0≤t.day∧t.day≤y.days-1)∧(0≤t.unit∧t.unit≤(y.us.length:Int)-1)∧(1≤t.kind∧t.kind≤2)
theorem kM (h:¬ ((0≤(l.getD k Tsk.zero).day∧(l.getD k Tsk.zero).day≤y.days-1)∧(0≤(l.getD k Tsk.zero).unit∧(l.getD k Tsk.zero).unit≤(y.us.length:Int)-1)∧(1≤(l.getD k Tsk.zero).kind∧(l.getD k Tsk.zero).kind≤2))):tskB y l k=false:=by
  unfold tskB;rw [decide_eq_false h,Bool.false_and]
theorem An (hB:(0≤(l.getD k Tsk.zero).day∧(l.getD k Tsk.zero).day≤y.days-1)∧(0≤(l.getD k Tsk.zero).unit∧(l.getD k Tsk.zero).unit≤(y.us.length:Int)-1)∧(1≤(l.getD k Tsk.zero).kind∧(l.getD k Tsk.zero).kind≤2)∧0<k) (h:befB (l.getD ((k:Int)-1).toNat Tsk.zero) (l.getD k Tsk.zero)=false):tskB y l k=false:=by
  rw [show ((k:Int)-1).toNat=k-1 by omega] at h
  unfold tskB;rw [h,decide_eq_false (show ¬ k=0 by omega),Bool.or_self,Bool.and_false]
theorem mQ (hB:(0≤(l.getD k Tsk.zero).day∧(l.getD k Tsk.zero).day≤y.days-1)∧(0≤(l.getD k Tsk.zero).unit∧(l.getD k Tsk.zero).unit≤(y.us.length:Int)-1)∧(1≤(l.getD k Tsk.zero).kind∧(l.getD k Tsk.zero).kind≤2)∧k=0):tskB y l k=true:=by
  unfold tskB;rw [decide_eq_true ⟨hB.1,hB.2.1,hB.2.2.1⟩,decide_eq_true hB.2.2.2];rfl
theorem mR (hB:(0≤(l.getD k Tsk.zero).day∧(l.getD k Tsk.zero).day≤y.days-1)∧(0≤(l.getD k Tsk.zero).unit∧(l.getD k Tsk.zero).unit≤(y.us.length:Int)-1)∧(1≤(l.getD k Tsk.zero).kind∧(l.getD k Tsk.zero).kind≤2)∧0<k) (h:befB (l.getD ((k:Int)-1).toNat Tsk.zero) (l.getD k Tsk.zero)=true):tskB y l k=true:=by
  rw [show ((k:Int)-1).toNat=k-1 by omega] at h
  unfold tskB;rw [decide_eq_true ⟨hB.1,hB.2.1,hB.2.2.1⟩,h,Bool.or_true];rfl
end
theorem Hu (a b:Tsk) (w:World) :
    Calls Tryz.prog 83 [.agg [.int .i64 a.day,.int .i64 a.unit,.int .i64 a.kind].toArray,.agg [.int .i64 b.day,.int .i64 b.unit,.int .i64 b.kind].toArray].toArray w (Ret (fun v w'=>v = .bool (befB a b)∧St w noF [] w')):=by
 refine enter Tryz.func83 rfl Tryz.ntmps83 rfl (fun a H=>?_)
 have S:=St.start w
 refine seq_list fun K1 k1=>?_
 refine aO H rfl S G G ?_;clear H a S;intro b2 _ a hb2 hbw2 S H
 refine aO H rfl S G G ?_;clear H a S;intro b3 _ a hb3 hbw3 S H
 refine ls 1 H<|sr 1 rfl<|sE ?_;clear H a;intro a H
 refine k1 _ _ ?_;clear k1 K1
 refine wp_seq_k fun K2 k2=>?_
 refine sS H fun K3 k3=>sf dO rfl<|sl S 1 aD G G G<|sf dO rfl<|sl S 0 aD G G G<|sr 1 rfl<|sE ?_;clear H a;intro a H
 refine k3 _ ?_;clear k3 K3
 refine condN H rfl (fun hc1=>?_) (fun hc1=>?_)
 ·skip
  replace H:=H.keep [2,3] rfl
  refine sS H fun K4 k4=>sf dO rfl<|sl S 1 aD G G G<|sf dO rfl<|sl S 0 aD G G G<|sr 2 rfl<|sE ?_;clear H a;intro a H
  refine k4 _ ?_;clear k4 K4
  refine wp_ret ?_
  refine ret1 (fn:=Tryz.f83) rfl H rfl ?_
  refine ⟨?_,(S.sel [] G G)⟩;unfold befB;rw [if_pos hc1]
 refine wp_skip ?_
 refine k2 _ _ ?_
 refine wp_seq_k fun K5 k5=>?_
 replace H:=H.keep [2,3] rfl
 refine sS H fun K6 k6=>sf dZ rfl<|sl S 1 aD G G G<|sf dZ rfl<|sl S 0 aD G G G<|sr 1 rfl<|sE ?_;clear H a;intro a H
 refine k6 _ ?_;clear k6 K6
 refine condN H rfl (fun hc2=>?_) (fun hc2=>?_)
 ·skip
  replace H:=H.keep [2,3] rfl
  refine sS H fun K7 k7=>sf dZ rfl<|sl S 1 aD G G G<|sf dZ rfl<|sl S 0 aD G G G<|sr 2 rfl<|sE ?_;clear H a;intro a H
  refine k7 _ ?_;clear k7 K7
  refine wp_ret ?_
  refine ret1 (fn:=Tryz.f83) rfl H rfl ?_
  refine ⟨?_,(S.sel [] G G)⟩;unfold befB;rw [if_neg (fun h=>h (by omega)),if_pos hc2]
 refine wp_skip ?_
 refine k5 _ _ ?_
 replace H:=H.keep [2,3] rfl
 refine sS H fun K8 k8=>sf gJ rfl<|sl S 1 aD G G G<|sf gJ rfl<|sl S 0 aD G G G<|sr 2 rfl<|sE ?_;clear H a;intro a H
 refine k8 _ ?_;clear k8 K8
 refine wp_ret ?_
 refine ret1 (fn:=Tryz.f83) rfl H rfl ?_
 refine ⟨?_,(S.sel [] G G)⟩;unfold befB;rw [if_neg (fun h=>h (by omega)),if_neg (fun h=>h (by omega))]
theorem Nk (y:Yr) (l:List Tsk) (LA:Option Addr) (lc:Nat) (w:World) (hy:YIn w noF y) (hyb:YBd y) (hl:InS w noF 3 LA l.length (lF l)) (hln:l.length≤9223372036854775807) :
    Calls Tryz.prog 39 [.agg [.int .i64 y.days,.int .i64 y.pl,.slice y.PA y.ps.length y.pc,.slice y.XA y.xs.length y.xc,.slice y.BA y.pe.length y.bc,.int .i64 y.limit,.bool y.help,.slice y.QA y.prs.length y.qc,.slice y.VA y.us.length y.vc,.int .i64 y.crew,.slice y.SA y.sps.length y.sc].toArray,.slice LA l.length lc].toArray w (Ret (fun v w'=>v = .int .i64 (taskE y l)∧St w noF [] w')):=by
 have hn3:=hyb.usn
 refine enter Tryz.func39 rfl Tryz.ntmps39 rfl (fun a H=>?_)
 have S:=St.start w
 refine seq_list fun K1 k1=>?_
 refine aO H rfl S G G ?_;clear H a S;intro b2 _ a hb2 hbw2 S H
 refine ls 1 H<|sr 1 rfl<|sE ?_;clear H a;intro a H
 refine k1 _ _ ?_;clear k1 K1
 refine wp_seq_k fun K2 k2=>?_
 refine seq_list fun K3 k3=>?_
 refine ls 1 H<|sd ((aE gF jQ rfl S (i:=0) G G))<|sE ?_;clear H a;intro a H
 refine aA H G G Tryz.func81 G G (Sa y _ (hy.now S) hyb) ?_;clear H a
 rintro _ _ a ⟨rfl,S2⟩ H
 replace S:=S.call S2;clear S2
 refine ls 1 H<|sr 1 rfl<|sE ?_;clear H a;intro a H
 refine k3 _ _ ?_;clear k3 K3
 refine sS H fun K4 k4=>sr 2 rfl<|sE ?_;clear H a;intro a H
 refine k4 _ ?_;clear k4 K4
 refine condN H rfl (fun hc1=>?_) (fun hc1=>?_)
 ·skip
  refine sS H fun K5 k5=>sr 2 rfl<|sE ?_;clear H a;intro a H
  refine k5 _ ?_;clear k5 K5
  refine wp_ret ?_
  refine ret1 (fn:=Tryz.f39) rfl H rfl ?_
  exact ⟨congrArg _ (tM hc1).symm,(S.sel [] G G)⟩
 have hye:yearE y=0:=by omega
 have hyi:=(rL hye).yr
 unfold yrI at hyi
 refine wp_skip ?_
 refine k2 _ _ ?_
 refine wp_seq_k fun K6 k6=>?_
 replace H:=H.keep [1,2] rfl
 refine sS H fun K7 k7=>sr 1 rfl<|sL eW rfl<|sr 1 rfl<|sE ?_;clear H a;intro a H
 refine k7 _ ?_;clear k7 K7
 refine condL H rfl (fun hc2=>?_) (fun hc2=>?_)
 ·skip
  refine sS H fun K8 k8=>sr 1 rfl<|sE ?_;clear H a;intro a H
  refine k8 _ ?_;clear k8 K8
  refine wp_ret ?_
  refine ret1 (fn:=Tryz.f39) rfl H rfl ?_
  rw [tN hye (by omega)];exact ⟨rfl,(S.sel [] G G)⟩
 refine wp_skip ?_
 refine k6 _ _ ?_
 refine wp_seq_k fun K9 k9=>?_
 refine sS H fun K10 k10=>sr 1 rfl<|sL eW rfl<|sr 1 rfl<|sE ?_;clear H a;intro a H
 refine k10 _ ?_;clear k10 K10
 refine wp_block ?_
 refine loop_st (X:=Nat) (R0:=_) [1,2,16,17] H rfl (fun k=>[(18,.int .i64 (k:Int))]) (fun k=>[]) (fun g k=>k≤l.length∧g+k=l.length∧∀ q,q<k→tskB y l q=true) (l.length) 0 ?_ (S.sel [0] G G) (H.keep [18,1,2,16,17] rfl) ?_
 · exact ⟨by omega,by omega,fun q hq=>absurd hq (Nat.not_lt_zero q)⟩
 clear H S a
 intro g1 x1 a w1 hp S H K11 k11
 obtain ⟨k,rfl⟩:∃ y,y=x1:=⟨_,rfl⟩
 refine sS H fun K12 k12=>sr 1 rfl<|sE ?_;clear H a;intro a H
 refine k12 _ ?_;clear k12 K12
 refine wp_seq_k fun K13 k13=>?_
 refine condL H rfl (fun hc3=>?_) (fun hc3=>?_)
 ·skip
  refine wp_skip ?_
  refine k13 _ _ ?_
  refine wp_seq_k fun K14 k14=>?_
  refine wp_block ?_
  refine seq_list fun K15 k15=>?_
  refine ls 3 H<|sr 1 rfl<|si eW eM G G (hl.adr (by omega)) (by omega)<|sd ((aU pV eM rfl S hl (by omega) (by omega)))<|sE ?_;clear H a;intro a H
  refine aI H rfl S Ub ?_;clear H a S;intro b7 _ a hb7 hbw7 S H
  refine ls 1 H<|sr 1 rfl<|sE ?_;clear H a;intro a H
  refine aB H S (i:=0) G G G G eM G G ?_
  clear H a S;intro _ a S H
  refine k15 _ _ ?_;clear k15 K15
  rcases chk5 (0≤(l.getD k Tsk.zero).day∧(l.getD k Tsk.zero).day≤y.days-1) (0≤(l.getD k Tsk.zero).unit∧(l.getD k Tsk.zero).unit≤(y.us.length:Int)-1) (1≤(l.getD k Tsk.zero).kind∧(l.getD k Tsk.zero).kind≤2) k with hB|hB|hB|hB|hB
  ·skip
   skip
   replace H:=H.keep [1,2,6,7,16,17,18] rfl
   replace S:=S.drew
   refine seq_wq [(0,true),(1,true),(2,true),(3,true),(4,true),(5,false),(6,true),(7,true),(8,true),(9,true),(10,true),(11,true),(12,true),(13,true),(14,true),(15,true),(16,true),(17,true),(18,true),(19,true),(20,true),(21,true),(22,true),(23,true),(24,true),(25,true),(26,true),(27,true),(28,true),(29,true),(30,true),(31,true),(32,true),(33,true),(34,true),(35,true),(36,true)] (by kernel_rfl) (by kernel_rfl) (S.sel [0,1] G G) fun K16 k16=>?_
   refine qF H<|qd rfl (fun _ S=>(aC dO rfl))<|qd rfl (fun _ S=>aG aD rfl (boxM.rd S (i:=0) G G))<|qd rfl (fun _ S=>(aC dH rfl))<|qd rfl (fun _ S=>aG aD rfl (boxM.rd S (i:=1) G G))<|qd rfl (fun _ S=>aS G G (by unfold i64ok;omega))<|qK ?_;clear H a;intro a H
   refine aV rfl ?_
   refine aA H G G Tryz.func82 G G (bQ _ _ _ _) ?_;clear H a
   rintro _ _ a ⟨rfl,rfl⟩ H
   refine wpList_nil (And.intro (S.sel [0,1] G G) ?_)
   refine qF H<|qd rfl (fun _ S=>gC rfl (by omega))<|qr 1 rfl<|qK ?_;clear H a;intro a H
   refine aJ H G G G G G ?_;clear H a;intro a H
   refine aJ H G G G G G ?_;clear H a;intro a H
   refine aJ H G G G G G ?_;clear H a;intro a H
   refine aJ H G G G G G ?_;clear H a;intro a H
   refine aJ H G G G G G ?_;clear H a;intro a H
   refine aJ H G G G G G ?_;clear H a;intro a H
   refine aJ H G G G G G ?_;clear H a;intro a H
   refine aJ H G G G G G ?_;clear H a;intro a H
   refine qF H<|qd rfl (fun _ S=>(aT G G G))<|qr 1 rfl<|qK ?_;clear H a;intro a H
   refine aJ H G G G G G ?_;clear H a;intro a H
   refine aJ H G G G G G ?_;clear H a;intro a H
   refine aJ H G G G G G ?_;clear H a;intro a H
   refine aJ H G G G G G ?_;clear H a;intro a H
   refine qF H<|qd rfl (fun _ S=>(aT G G G))<|qr 1 rfl<|qK ?_;clear H a;intro a H
   refine aJ H G G G G G ?_;clear H a;intro a H
   refine aJ H G G G G G ?_;clear H a;intro a H
   refine aJ H G G G G G ?_;clear H a;intro a H
   refine bU H G G G G ?_;clear H a;intro a H
   refine bU H G G G G ?_;clear H a;intro a H
   refine bU H G G G G ?_;clear H a;intro a H
   refine bU H G G G G ?_;clear H a;intro a H
   refine bU H G G G G ?_;clear H a;intro a H
   refine bU H G G G G ?_;clear H a;intro a H
   refine bU H G G G G ?_;clear H a;intro a H
   refine bU H G G G G ?_;clear H a;intro a H
   refine aJ H G G G G G ?_;clear H a;intro a H
   refine qF H<|qd rfl (fun _ S=>(aT G G G))<|qK ?_;clear H a;intro a H
   refine bO ?_
   refine k16 _ _ ?_
   clear k16 K16
   refine cond_ H rfl (fun hc4=>?_) (fun hc4=>?_)
   ·skip
    skip
    replace H:=H.keep [] rfl
    refine sS H fun K17 k17=>sr 1 rfl<|sE ?_;clear H a;intro a H
    refine k17 _ ?_;clear k17 K17
    refine wp_ret ?_
    refine ret1 (fn:=Tryz.f39) rfl H rfl ?_
    rw [fZ hye (by omega) (show k<l.length by omega) (kM (by omega))];exact ⟨rfl,(S.sel [] G G)⟩
   skip
   cases hc4
  ·skip
   skip
   replace H:=H.keep [1,2,6,7,16,17,18] rfl
   replace S:=S.drew
   refine seq_wq [(0,true),(1,true),(2,true),(3,true),(4,true),(5,false),(6,true),(7,true),(8,true),(9,true),(10,true),(11,true),(12,true),(13,true),(14,false),(15,true),(16,true),(17,true),(18,true),(19,true),(20,true),(21,true),(22,true),(23,true),(24,true),(25,true),(26,true),(27,true),(28,true),(29,true),(30,true),(31,true),(32,true),(33,true),(34,true),(35,true),(36,true)] (by kernel_rfl) (by kernel_rfl) (S.sel [0,1] G G) fun K18 k18=>?_
   refine qF H<|qd rfl (fun _ S=>(aC dO rfl))<|qd rfl (fun _ S=>aG aD rfl (boxM.rd S (i:=0) G G))<|qd rfl (fun _ S=>(aC dH rfl))<|qd rfl (fun _ S=>aG aD rfl (boxM.rd S (i:=1) G G))<|qd rfl (fun _ S=>aS G G (by unfold i64ok;omega))<|qK ?_;clear H a;intro a H
   refine aV rfl ?_
   refine aA H G G Tryz.func82 G G (bQ _ _ _ _) ?_;clear H a
   rintro _ _ a ⟨rfl,rfl⟩ H
   refine wpList_nil (And.intro (S.sel [0,1] G G) ?_)
   refine qF H<|qd rfl (fun _ S=>bW rfl (by omega))<|qr 1 rfl<|qK ?_;clear H a;intro a H
   refine aF H G G G G (fun _ S=>(aC dZ rfl)) ?_;clear H a;intro a H
   refine aF H G G G G (fun _ S=>aG aD rfl (boxM.rd S (i:=0) G G)) ?_;clear H a;intro a H
   refine aF H G G G G (fun _ S=>(aC dI rfl)) ?_;clear H a;intro a H
   refine aF H G G G G (fun _ S=>aG eH rfl (boxM.rd S (i:=1) G G)) ?_;clear H a;intro a H
   refine aF H G G G G (fun _ S=>cO fE rfl) ?_;clear H a;intro a H
   refine aF H G G G G (fun _ S=>aS G G (by unfold i64ok;omega)) ?_;clear H a;intro a H
   refine aV rfl ?_
   refine aY H G G ?_
   refine aA H G G Tryz.func82 G G (bQ _ _ _ _) ?_;clear H a
   rintro _ _ a ⟨rfl,rfl⟩ H
   refine wpList_nil (And.intro (S.sel [0,1] G G) ?_)
   refine aF H G G G G (fun _ S=>gC rfl (by omega)) ?_;clear H a;intro a H
   refine qF H<|qd rfl (fun _ S=>(aX G G G))<|qr 1 rfl<|qK ?_;clear H a;intro a H
   refine aJ H G G G G G ?_;clear H a;intro a H
   refine aJ H G G G G G ?_;clear H a;intro a H
   refine aJ H G G G G G ?_;clear H a;intro a H
   refine aJ H G G G G G ?_;clear H a;intro a H
   refine qF H<|qd rfl (fun _ S=>(aT G G G))<|qr 1 rfl<|qK ?_;clear H a;intro a H
   refine aJ H G G G G G ?_;clear H a;intro a H
   refine aJ H G G G G G ?_;clear H a;intro a H
   refine aJ H G G G G G ?_;clear H a;intro a H
   refine bU H G G G G ?_;clear H a;intro a H
   refine bU H G G G G ?_;clear H a;intro a H
   refine bU H G G G G ?_;clear H a;intro a H
   refine bU H G G G G ?_;clear H a;intro a H
   refine bU H G G G G ?_;clear H a;intro a H
   refine bU H G G G G ?_;clear H a;intro a H
   refine bU H G G G G ?_;clear H a;intro a H
   refine bU H G G G G ?_;clear H a;intro a H
   refine aJ H G G G G G ?_;clear H a;intro a H
   refine qF H<|qd rfl (fun _ S=>(aT G G G))<|qK ?_;clear H a;intro a H
   refine bO ?_
   refine k18 _ _ ?_
   clear k18 K18
   refine cond_ H rfl (fun hc5=>?_) (fun hc5=>?_)
   ·skip
    skip
    replace H:=H.keep [] rfl
    refine sS H fun K19 k19=>sr 1 rfl<|sE ?_;clear H a;intro a H
    refine k19 _ ?_;clear k19 K19
    refine wp_ret ?_
    refine ret1 (fn:=Tryz.f39) rfl H rfl ?_
    rw [fZ hye (by omega) (show k<l.length by omega) (kM (by omega))];exact ⟨rfl,(S.sel [] G G)⟩
   skip
   cases hc5
  ·skip
   skip
   replace H:=H.keep [1,2,6,7,16,17,18] rfl
   replace S:=S.drew
   refine seq_wq [(0,true),(1,true),(2,true),(3,true),(4,true),(5,false),(6,true),(7,true),(8,true),(9,true),(10,true),(11,true),(12,true),(13,true),(14,false),(15,true),(16,true),(17,true),(18,true),(19,true),(20,false),(21,true),(22,true),(23,true),(24,true),(25,true),(26,true),(27,true),(28,true),(29,true),(30,true),(31,true),(32,true),(33,true),(34,true),(35,true),(36,true)] (by kernel_rfl) (by kernel_rfl) (S.sel [0,1] G G) fun K20 k20=>?_
   refine qF H<|qd rfl (fun _ S=>(aC dO rfl))<|qd rfl (fun _ S=>aG aD rfl (boxM.rd S (i:=0) G G))<|qd rfl (fun _ S=>(aC dH rfl))<|qd rfl (fun _ S=>aG aD rfl (boxM.rd S (i:=1) G G))<|qd rfl (fun _ S=>aS G G (by unfold i64ok;omega))<|qK ?_;clear H a;intro a H
   refine aV rfl ?_
   refine aA H G G Tryz.func82 G G (bQ _ _ _ _) ?_;clear H a
   rintro _ _ a ⟨rfl,rfl⟩ H
   refine wpList_nil (And.intro (S.sel [0,1] G G) ?_)
   refine qF H<|qd rfl (fun _ S=>bW rfl (by omega))<|qr 1 rfl<|qK ?_;clear H a;intro a H
   refine aF H G G G G (fun _ S=>(aC dZ rfl)) ?_;clear H a;intro a H
   refine aF H G G G G (fun _ S=>aG aD rfl (boxM.rd S (i:=0) G G)) ?_;clear H a;intro a H
   refine aF H G G G G (fun _ S=>(aC dI rfl)) ?_;clear H a;intro a H
   refine aF H G G G G (fun _ S=>aG eH rfl (boxM.rd S (i:=1) G G)) ?_;clear H a;intro a H
   refine aF H G G G G (fun _ S=>cO fE rfl) ?_;clear H a;intro a H
   refine aF H G G G G (fun _ S=>aS G G (by unfold i64ok;omega)) ?_;clear H a;intro a H
   refine aV rfl ?_
   refine aY H G G ?_
   refine aA H G G Tryz.func82 G G (bQ _ _ _ _) ?_;clear H a
   rintro _ _ a ⟨rfl,rfl⟩ H
   refine wpList_nil (And.intro (S.sel [0,1] G G) ?_)
   refine aF H G G G G (fun _ S=>bW rfl (by omega)) ?_;clear H a;intro a H
   refine qF H<|qd rfl (fun _ S=>(aX G G G))<|qr 1 rfl<|qK ?_;clear H a;intro a H
   refine aF H G G G G (fun _ S=>(aC gJ rfl)) ?_;clear H a;intro a H
   refine aF H G G G G (fun _ S=>aG aD rfl (boxM.rd S (i:=0) G G)) ?_;clear H a;intro a H
   refine aV rfl ?_
   refine aY H G G ?_
   refine aA H G G Tryz.func82 G G (bQ _ _ _ _) ?_;clear H a
   rintro _ _ a ⟨rfl,rfl⟩ H
   refine wpList_nil (And.intro (S.sel [0,1] G G) ?_)
   refine aF H G G G G (fun _ S=>gC rfl (by omega)) ?_;clear H a;intro a H
   refine qF H<|qd rfl (fun _ S=>(aX G G G))<|qr 1 rfl<|qK ?_;clear H a;intro a H
   refine aJ H G G G G G ?_;clear H a;intro a H
   refine aJ H G G G G G ?_;clear H a;intro a H
   refine aJ H G G G G G ?_;clear H a;intro a H
   refine bU H G G G G ?_;clear H a;intro a H
   refine bU H G G G G ?_;clear H a;intro a H
   refine bU H G G G G ?_;clear H a;intro a H
   refine bU H G G G G ?_;clear H a;intro a H
   refine bU H G G G G ?_;clear H a;intro a H
   refine bU H G G G G ?_;clear H a;intro a H
   refine bU H G G G G ?_;clear H a;intro a H
   refine bU H G G G G ?_;clear H a;intro a H
   refine aJ H G G G G G ?_;clear H a;intro a H
   refine qF H<|qd rfl (fun _ S=>(aT G G G))<|qK ?_;clear H a;intro a H
   refine bO ?_
   refine k20 _ _ ?_
   clear k20 K20
   refine cond_ H rfl (fun hc6=>?_) (fun hc6=>?_)
   ·skip
    skip
    replace H:=H.keep [] rfl
    refine sS H fun K21 k21=>sr 1 rfl<|sE ?_;clear H a;intro a H
    refine k21 _ ?_;clear k21 K21
    refine wp_ret ?_
    refine ret1 (fn:=Tryz.f39) rfl H rfl ?_
    rw [fZ hye (by omega) (show k<l.length by omega) (kM (by omega))];exact ⟨rfl,(S.sel [] G G)⟩
   skip
   cases hc6
  ·skip
   skip
   replace H:=H.keep [1,2,6,7,16,17,18] rfl
   replace S:=S.drew
   refine seq_wq [(0,true),(1,true),(2,true),(3,true),(4,true),(5,false),(6,true),(7,true),(8,true),(9,true),(10,true),(11,true),(12,true),(13,true),(14,false),(15,true),(16,true),(17,true),(18,true),(19,true),(20,false),(21,true),(22,true),(23,true),(24,true),(25,true),(26,true),(27,true),(28,true),(29,true),(30,true),(31,true),(32,true),(33,true),(34,true),(35,true),(36,true)] (by kernel_rfl) (by kernel_rfl) (S.sel [0,1] G G) fun K22 k22=>?_
   refine qF H<|qd rfl (fun _ S=>(aC dO rfl))<|qd rfl (fun _ S=>aG aD rfl (boxM.rd S (i:=0) G G))<|qd rfl (fun _ S=>(aC dH rfl))<|qd rfl (fun _ S=>aG aD rfl (boxM.rd S (i:=1) G G))<|qd rfl (fun _ S=>aS G G (by unfold i64ok;omega))<|qK ?_;clear H a;intro a H
   refine aV rfl ?_
   refine aA H G G Tryz.func82 G G (bQ _ _ _ _) ?_;clear H a
   rintro _ _ a ⟨rfl,rfl⟩ H
   refine wpList_nil (And.intro (S.sel [0,1] G G) ?_)
   refine qF H<|qd rfl (fun _ S=>bW rfl (by omega))<|qr 1 rfl<|qK ?_;clear H a;intro a H
   refine aF H G G G G (fun _ S=>(aC dZ rfl)) ?_;clear H a;intro a H
   refine aF H G G G G (fun _ S=>aG aD rfl (boxM.rd S (i:=0) G G)) ?_;clear H a;intro a H
   refine aF H G G G G (fun _ S=>(aC dI rfl)) ?_;clear H a;intro a H
   refine aF H G G G G (fun _ S=>aG eH rfl (boxM.rd S (i:=1) G G)) ?_;clear H a;intro a H
   refine aF H G G G G (fun _ S=>cO fE rfl) ?_;clear H a;intro a H
   refine aF H G G G G (fun _ S=>aS G G (by unfold i64ok;omega)) ?_;clear H a;intro a H
   refine aV rfl ?_
   refine aY H G G ?_
   refine aA H G G Tryz.func82 G G (bQ _ _ _ _) ?_;clear H a
   rintro _ _ a ⟨rfl,rfl⟩ H
   refine wpList_nil (And.intro (S.sel [0,1] G G) ?_)
   refine aF H G G G G (fun _ S=>bW rfl (by omega)) ?_;clear H a;intro a H
   refine qF H<|qd rfl (fun _ S=>(aX G G G))<|qr 1 rfl<|qK ?_;clear H a;intro a H
   refine aF H G G G G (fun _ S=>(aC gJ rfl)) ?_;clear H a;intro a H
   refine aF H G G G G (fun _ S=>aG aD rfl (boxM.rd S (i:=0) G G)) ?_;clear H a;intro a H
   refine aV rfl ?_
   refine aY H G G ?_
   refine aA H G G Tryz.func82 G G (bQ _ _ _ _) ?_;clear H a
   rintro _ _ a ⟨rfl,rfl⟩ H
   refine wpList_nil (And.intro (S.sel [0,1] G G) ?_)
   refine aF H G G G G (fun _ S=>bW rfl (by omega)) ?_;clear H a;intro a H
   refine qF H<|qd rfl (fun _ S=>(aX G G G))<|qr 1 rfl<|qK ?_;clear H a;intro a H
   refine aF H G G G G (fun _ S=>aL rfl) ?_;clear H a;intro a H
   refine aF H G G G G (fun _ S=>pN G G (by omega)) ?_;clear H a;intro a H
   refine aF H G G G G (fun _ S=>aL rfl) ?_;clear H a;intro a H
   refine aJ H G G G G G ?_;clear H a;intro a H
   refine aJ H G G G G G ?_;clear H a;intro a H
   refine aJ H G G G G G ?_;clear H a;intro a H
   refine aJ H G G G G G ?_;clear H a;intro a H
   refine aJ H G G G G G ?_;clear H a;intro a H
   refine aJ H G G G G G ?_;clear H a;intro a H
   refine aJ H G G G G G ?_;clear H a;intro a H
   refine aJ H G G G G G ?_;clear H a;intro a H
   refine aF H G G G G (fun _ S=>(aT G G G)) ?_;clear H a;intro a H
   refine qF H<|qd rfl (fun _ S=>(aX G G G))<|qK ?_;clear H a;intro a H
   refine bO ?_
   refine k22 _ _ ?_
   clear k22 K22
   refine cond_ H rfl (fun hc7=>?_) (fun hc7=>?_)
   ·skip
    skip
    cases hc7
   skip
   refine wp_skip ?_
   refine k14 _ _ ?_
   replace H:=H.keep [1,2,16,17,18] rfl
   refine sO H<|sd (aK G G (by unfold i64ok;omega))<|sr 1 rfl<|sE ?_;clear H a;intro a H
   exact k11 (g1-1) (k+1) a _ (by omega) (by first|exact ⟨by omega,by omega,eP (f:=tskB y l) hp.2.2 (mQ hB)⟩|exact ⟨by omega,by omega,eP (f:=tskB y l) hp.2.2 (mR hB hc8)⟩) (S.sel [1] G G) (H.keep [18,1,2,16,17] rfl)
  skip
  replace H:=H.keep [1,2,6,7,16,17,18] rfl
  replace S:=S.drew
  refine seq_wq [(0,true),(1,true),(2,true),(3,true),(4,true),(5,false),(6,true),(7,true),(8,true),(9,true),(10,true),(11,true),(12,true),(13,true),(14,false),(15,true),(16,true),(17,true),(18,true),(19,true),(20,false),(21,true),(22,true),(23,true),(24,true),(25,true),(26,true),(27,true),(28,true),(29,true),(30,true),(31,true),(32,true),(33,false),(34,true),(35,true),(36,true)] (by kernel_rfl) (by kernel_rfl) (S.sel [0,1] G G) fun K24 k24=>?_
  refine qF H<|qd rfl (fun _ S=>(aC dO rfl))<|qd rfl (fun _ S=>aG aD rfl (boxM.rd S (i:=0) G G))<|qd rfl (fun _ S=>(aC dH rfl))<|qd rfl (fun _ S=>aG aD rfl (boxM.rd S (i:=1) G G))<|qd rfl (fun _ S=>aS G G (by unfold i64ok;omega))<|qK ?_;clear H a;intro a H
  refine aV rfl ?_
  refine aA H G G Tryz.func82 G G (bQ _ _ _ _) ?_;clear H a
  rintro _ _ a ⟨rfl,rfl⟩ H
  refine wpList_nil (And.intro (S.sel [0,1] G G) ?_)
  refine qF H<|qd rfl (fun _ S=>bW rfl (by omega))<|qr 1 rfl<|qK ?_;clear H a;intro a H
  refine aF H G G G G (fun _ S=>(aC dZ rfl)) ?_;clear H a;intro a H
  refine aF H G G G G (fun _ S=>aG aD rfl (boxM.rd S (i:=0) G G)) ?_;clear H a;intro a H
  refine aF H G G G G (fun _ S=>(aC dI rfl)) ?_;clear H a;intro a H
  refine aF H G G G G (fun _ S=>aG eH rfl (boxM.rd S (i:=1) G G)) ?_;clear H a;intro a H
  refine aF H G G G G (fun _ S=>cO fE rfl) ?_;clear H a;intro a H
  refine aF H G G G G (fun _ S=>aS G G (by unfold i64ok;omega)) ?_;clear H a;intro a H
  refine aV rfl ?_
  refine aY H G G ?_
  refine aA H G G Tryz.func82 G G (bQ _ _ _ _) ?_;clear H a
  rintro _ _ a ⟨rfl,rfl⟩ H
  refine wpList_nil (And.intro (S.sel [0,1] G G) ?_)
  refine aF H G G G G (fun _ S=>bW rfl (by omega)) ?_;clear H a;intro a H
  refine qF H<|qd rfl (fun _ S=>(aX G G G))<|qr 1 rfl<|qK ?_;clear H a;intro a H
  refine aF H G G G G (fun _ S=>(aC gJ rfl)) ?_;clear H a;intro a H
  refine aF H G G G G (fun _ S=>aG aD rfl (boxM.rd S (i:=0) G G)) ?_;clear H a;intro a H
  refine aV rfl ?_
  refine aY H G G ?_
  refine aA H G G Tryz.func82 G G (bQ _ _ _ _) ?_;clear H a
  rintro _ _ a ⟨rfl,rfl⟩ H
  refine wpList_nil (And.intro (S.sel [0,1] G G) ?_)
  refine aF H G G G G (fun _ S=>bW rfl (by omega)) ?_;clear H a;intro a H
  refine qF H<|qd rfl (fun _ S=>(aX G G G))<|qr 1 rfl<|qK ?_;clear H a;intro a H
  refine aF H G G G G (fun _ S=>aL rfl) ?_;clear H a;intro a H
  refine aF H G G G G (fun _ S=>pM G G (by omega)) ?_;clear H a;intro a H
  refine aF H G G G G (fun _ S=>aL rfl) ?_;clear H a;intro a H
  refine aF H G G G G (fun _ S=>aL rfl) ?_;clear H a;intro a H
  refine aF H G G G G (fun _ S=>aL rfl) ?_;clear H a;intro a H
  refine aF H G G G G (fun _ S=>aS G G (by unfold i64ok;omega)) ?_;clear H a;intro a H
  refine aF H G G G G (fun _ S=>bK eW eM G G (hl.adr (by omega)) (by omega) (by omega)) ?_;clear H a;intro a H
  refine aF H G G G G (fun _ S=>(aU pV eM rfl S hl (by omega) (by omega))) ?_;clear H a;intro a H
  refine aF H G G G G (fun _ S=>(aE pV eM rfl S (i:=0) G G)) ?_;clear H a;intro a H
  refine aV rfl ?_
  refine aY H G G ?_
  refine aA H G G Tryz.func83 G G (Hu (l.getD ((k:Int)-1).toNat Tsk.zero) (l.getD k Tsk.zero) _) ?_;clear H a
  rintro _ _ a ⟨rfl,S2⟩ H
  replace S:=S.call S2;clear S2
  refine wpList_nil (And.intro (S.sel [0,1] G G) ?_)
  refine aF H G G G G (fun _ S=>cS rfl) ?_;clear H a;intro a H
  refine aF H G G G G (fun _ S=>(iZ G G G)) ?_;clear H a;intro a H
  refine qF H<|qd rfl (fun _ S=>(aX G G G))<|qK ?_;clear H a;intro a H
  refine bO ?_
  refine k24 _ _ ?_
  clear k24 K24
  refine cond_ H rfl (fun hc8=>?_) (fun hc8=>?_)
  ·skip
   try simp only [o1,o2,o3,o4,o5,o6,o7,o8,o9,oa] at hc8
   replace hc8:befB (l.getD ((k:Int)-1).toNat Tsk.zero) (l.getD k Tsk.zero)=false:=by simpa using hc8
   replace H:=H.keep [] rfl
   refine sS H fun K25 k25=>sr 1 rfl<|sE ?_;clear H a;intro a H
   refine k25 _ ?_;clear k25 K25
   refine wp_ret ?_
   refine ret1 (fn:=Tryz.f39) rfl H rfl ?_
   rw [fZ hye (by omega) (show k<l.length by omega) (An hB hc8)];exact ⟨rfl,(S.sel [] G G)⟩
  try simp only [o1,o2,o3,o4,o5,o6,o7,o8,o9,oa] at hc8
  replace hc8:befB (l.getD ((k:Int)-1).toNat Tsk.zero) (l.getD k Tsk.zero)=true:=by simpa using hc8
  refine wp_skip ?_
  refine k14 _ _ ?_
  refine sO H<|sd (aK G G (by unfold i64ok;omega))<|sr 1 rfl<|sE ?_;clear H a;intro a H
  exact k11 (g1-1) (k+1) a _ (by omega) (by first|exact ⟨by omega,by omega,eP (f:=tskB y l) hp.2.2 (mQ hB)⟩|exact ⟨by omega,by omega,eP (f:=tskB y l) hp.2.2 (mR hB hc8)⟩) (S.sel [1] G G) (H.keep [18,1,2,16,17] rfl)
 refine wp_exit ?_
 refine k9 _ _ ?_
 refine sS H fun K27 k27=>sr 1 rfl<|sE ?_;clear H a;intro a H
 refine k27 _ ?_;clear k27 K27
 refine wp_ret ?_
 refine ret1 (fn:=Tryz.f39) rfl H rfl ?_
 rw [zR hye (by omega) (cC.2 fun q hq=>hp.2.2 q (by omega))];exact ⟨rfl,(S.sel [] G G)⟩
end
section
theorem six {p:Nat→Prop} (h0:p 0) (h1:p 1) (h2:p 2) (h3:p 3) (h4:p 4) (h5:p 5):∀ j,j<6→p j:=by
  intro j hj
  match j,hj with
  | 0,_=>exact h0
  | 1,_=>exact h1
  | 2,_=>exact h2
  | 3,_=>exact h3
  | 4,_=>exact h4
  | 5,_=>exact h5
theorem uE {l:List Use} {x:Use} {vs:List Value} (h:∀ j,j<6→vs.getD j undef=x.cell j):∀ q j,q<l.length+1→j<6→capp l.length (ucell l) (fun k' j=>([vs].getD k' []).getD j undef) q j=ucell (l++[x]) q j:=by
  intro q j hq hj
  unfold capp ucell
  by_cases h1:q<l.length
  · rw [if_pos h1,List.getD_eq_getElem?_getD,List.getD_eq_getElem?_getD,List.getElem?_append_left h1]
  · rw [if_neg h1]
    have e:q=l.length:=by omega
    subst e
    rw [Nat.sub_self,List.getD_eq_getElem?_getD (l:=l++[x]),List.getElem?_append_right (Nat.le_refl _),Nat.sub_self]
    exact h j hj
theorem Sb {w:World} {p:Part} {l:List Use} {v:Value} {w':World} (h:v = .tuple #[.int .i64 (dR p l Prod.snd).1,.int .i64 (dR p l Prod.snd).2]∧St w noF [] w'):∃ n e:Int,v = .tuple #[.int .i64 n,.int .i64 e]∧bydB p l=(!decide (e=0)||decide (0≤n))∧St w noF [] w':=⟨_,_,h.1,rfl,h.2⟩
theorem Nl {w:World} {F:Nat→Prop} {sz n:Nat} {A:Option Addr} {cell:Nat→Nat→Value} (h:InS w F sz A n cell):A=none→n=0∧n=0:=fun e=>by
  rcases Nat.eq_zero_or_pos n with h0|h0
  · exact ⟨h0,h0⟩
  · obtain ⟨b,o,h1,_⟩:=h h0
    rw [e] at h1;cases h1
theorem Hv (u:Unt) (l:List Use) (LA:Option Addr) (lc:Nat) (age:Int) (w:World) (hur:InS w noF 2 u.RA u.rates.length (scell u.rates)) (hurn:u.rates.length≤9223372036854775807) (huu:InS w noF 6 u.UA u.uses.length (ucell u.uses)) (huun:u.uses.length≤9223372036854775807) (hl:InS w noF 6 LA l.length (ucell l)) (hln:l.length≤1000000) (hlc:l.length≤lc) :
    Calls Tryz.prog 157 [.agg [.int .i64 u.mach,.int .i64 u.every,.int .i64 u.seen,.slice u.RA u.rates.length u.rc,.int .i64 u.worn,.int .i64 u.turns,.int .i64 u.age,.slice u.UA u.uses.length u.uc,.int .i64 u.old,.int .i64 u.tn,.int .i64 u.cl,.int .i64 u.kind].toArray,.slice LA l.length lc,.int .i64 age].toArray w (Ret (fun v w'=>v = .bool (bydB u.part (l++[⟨age,u.tn,u.cl,false,0,0⟩]))∧St w noF [] w')):=by
 refine enter Tryz.func157 rfl Tryz.ntmps157 rfl (fun a H=>?_)
 have S:=St.start w
 refine seq_list fun K1 k1=>?_
 refine aO H rfl S G G ?_;clear H a S;intro b3 _ a hb3 hbw3 S H
 refine ls 1 H<|sr 1 rfl<|sE ?_;clear H a;intro a H
 refine k1 _ _ ?_;clear k1 K1
 replace H:=H.keep [1,2,3] rfl
 refine seq_list fun K2 k2=>?_
 refine ls 6 H<|sr 1 rfl<|sf rE rfl<|sl S 0 aD G G G<|sf rF rfl<|sl S 0 aD G G G<|sd (aR Kj G G)<|sE ?_;clear H a;intro a H
 refine aI H rfl S jX ?_;clear H a S;intro b7 _ a hb7 hbw7 S H
 refine aB H S (i:=0) G G G G dA G G ?_
 clear H a S;intro _ a S H
 refine k2 _ _ ?_;clear k2 K2
 replace H:=H.keep [1,3,7] rfl
 replace S:=S.drew
 refine seq_wt 999999 (.q 0 (.q 1 (.q 2 (.q 3 (.q 4 (.q 5 (.q 6 (.q 7 (.q 8 (.e 9 (.e 10 (.e 11 (.q 12 (.q 13 (.q 14 (.q 15 (.q 16 .nil))))))))))))))))) (by kernel_rfl) (by kernel_rfl) (S.sel [0,1] G G) fun K3 k3=>?_
 refine aH H G G (fun _ S=>(aC mK rfl)) ?_;clear H a;intro a H
 refine aH H G G (fun _ S=>(aE eS gZ rfl S (i:=1) G G)) ?_;clear H a;intro a H
 refine aH H G G (fun _ S=>aL rfl) ?_;clear H a;intro a H
 refine aH H G G (fun _ S=>aL rfl) ?_;clear H a;intro a H
 refine aH H G G (fun _ S=>cO dF rfl) ?_;clear H a;intro a H
 refine aH H G G (fun _ S=>aL rfl) ?_;clear H a;intro a H
 refine aH H G G (fun _ S=>cO dF rfl) ?_;clear H a;intro a H
 refine aH H G G (fun _ S=>qS dF dA G G G hlc) ?_;clear H a;intro a H
 refine aH H G G (fun _ S=>(aE jR dA rfl S (i:=0) G G)) ?_;clear H a;intro a H
 refine aM rfl ?_
 refine bB H rfl S dF dA jX G G G G G G G G G ?_;clear H a S;intro A1 _ a hA1 S H
 refine wpList_nil (And.intro (Or.inr (S.sel [1,2] G G)) ?_)
 refine aM rfl ?_
 refine oZ H rfl S dF dA jX Kh G G G G (n:=l.length) (cell:=ucell l) (cell':=_) (hl.now S) (Nl (hl.now S)) (by omega) (by omega) (ownM.inS S (i:=0) rfl) (jL (six G G G G G G)) (by omega) (by omega) ?_;clear H a S;intro A2 c2 _ a S H
 replace S:=S.recell (i:=0) rfl (cell':=ucell (l++[⟨age,u.tn,u.cl,false,0,0⟩])) (uE (x:=⟨age,u.tn,u.cl,false,0,0⟩) (six G G G G G G))
 refine wpList_nil (And.intro (Or.inr (S.sel [2,3] G G)) ?_)
 refine aM rfl ?_
 rw [show l.length+1=(l++[(⟨age,u.tn,u.cl,false,0,0⟩:Use)]).length by simp] at H S
 have hcl9:=fQ (xP u.rates u.worn u.turns u.age u.RA u.rc (l++[⟨age,u.tn,u.cl,false,0,0⟩]) A2 c2 _ (hur.now S) hurn ((ownM.inS S (i:=0) rfl)) (by simp;omega)) (fun _ _ h=>Sb h)
 refine aA H G G Tryz.func183 G G hcl9 ?_;clear H a hcl9
 rintro _ _ a ⟨n9,e9,rfl,hb9,S2⟩ H
 replace S:=S.call S2;clear S2
 refine wpList_nil (And.intro (Or.inr (S.sel [2,3] G G)) ?_)
 refine aH H G G (fun _ S=>aL rfl) ?_;clear H a;intro a H
 refine aH H G G (fun _ S=>aN G G) ?_;clear H a;intro a H
 refine aH H G G (fun _ S=>aN G G) ?_;clear H a;intro a H
 refine aH H G G (fun _ S=>bJ rfl) ?_;clear H a;intro a H
 refine aH H G G (fun _ S=>bJ rfl) ?_;clear H a;intro a H
 refine bH ?_
 refine k3 _ _ ?_
 clear k3 K3
 replace H:=H.keep [8,9] rfl
 refine sS H fun K4 k4=>sr 3 rfl<|sg 2 2 33 35 false G G (fun hg3=>sy hg3<|sr 1 rfl<|sy hg3<|sr 1 rfl<|sz 2 G G G)<|so G G G<|sr 1 rfl<|sE ?_;clear H a;intro a H
 refine k4 _ ?_;clear k4 K4
 refine wp_ret ?_
 refine ret1 (fn:=Tryz.f157) rfl H rfl ?_
 exact ⟨congrArg Value.bool hb9.symm,(S.sel [] G G)⟩
theorem Sc (u:Unt) (J:Nat→Int) (dy:Nat) (w:World) (hur:InS w noF 2 u.RA u.rates.length (scell u.rates)) (hurn:u.rates.length≤9223372036854775807) (huu:InS w noF 6 u.UA u.uses.length (ucell u.uses)) (huun:u.uses.length≤9223372036854775807) (hucp:u.uses.length≤u.uc) (hui:untI u) (ho0:0≤u.old) (hJ:∀ d,0≤J d∧J d≤6) (hdy:dy≤20) :
    Calls Tryz.prog 125 [.agg [.int .i64 u.mach,.int .i64 u.every,.int .i64 u.seen,.slice u.RA u.rates.length u.rc,.int .i64 u.worn,.int .i64 u.turns,.int .i64 u.age,.slice u.UA u.uses.length u.uc,.int .i64 u.old,.int .i64 u.tn,.int .i64 u.cl,.int .i64 u.kind].toArray,.agg ((List.range 20).map fun k=>Value.int .i64 (J k)).toArray,.int .i64 (dy:Int)].toArray w (Ret (fun v w'=>v = .agg [.int .i64 (bsum (runB' u J) dy),.int .i64 (bsum (certB u J) dy)].toArray∧St w noF [] w')):=by
 have hmx:maxLen=9223372036854775807:=rfl
 unfold untI at hui
 refine enter Tryz.func125 rfl Tryz.ntmps125 rfl (fun a H=>?_)
 have S:=St.start w
 refine seq_list fun K1 k1=>?_
 refine aO H rfl S G G ?_;clear H a S;intro b3 _ a hb3 hbw3 S H
 refine aO H rfl S G G ?_;clear H a S;intro b4 _ a hb4 hbw4 S H
 refine aI H rfl S pY ?_;clear H a S;intro b6 _ a hb6 hbw6 S H
 refine k1 _ _ ?_;clear k1 K1
 replace S:=Qi S (i:=1) rfl (by omega)
 refine seq_list fun K2 k2=>?_
 refine aI H rfl S pY ?_;clear H a S;intro b7 _ a hb7 hbw7 S H
 refine k2 _ _ ?_;clear k2 K2
 replace H:=H.keep [2,3,4,6,7] rfl
 replace S:=S.drew
 refine sD H fun K3 k3=>sf gI rfl<|sl S 3 jB G G G<|sf rD rfl<|sl S 3 aD G G G<|sd (iK rfl (by unfold i64ok;omega))<|sf wO rfl<|sl S 3 aD G G G<|sr 3 rfl<|sE ?_;clear H a;intro a H
 refine k3 _ ?_;clear k3 K3
 refine wp_seq_k fun K4 k4=>?_
 replace H:=H.keep [2,3,4,6,7,8,9,10] rfl
 refine sS H fun K5 k5=>sr 2 rfl<|sE ?_;clear H a;intro a H
 refine k5 _ ?_;clear k5 K5
 refine wp_block ?_
 replace S:=S.frz0
 refine loop_st (X:=Nat×LSt×Option Addr×Nat×(Nat→Prop)×World) (R0:=_) [3,4,6,7,21] H rfl (fun ⟨d,st,A9,c9,B9,wz⟩=>[(8,.slice A9 st.uses.length c9),(9,.int .i64 st.born),(10,.int .i64 st.seen),(22,.int .i64 (d:Int))]) (fun ⟨d,st,A9,c9,B9,wz⟩=>[boxM b7 139 [.int .i64 (bsum (runB' u J) d),.int .i64 (bsum (certB u J) d)],frzM B9 wz]) (fun g ⟨d,st,A9,c9,B9,wz⟩=>(d≤dy∧g+d=dy)∧(RdF w noF B9 wz 6 A9 st.uses.length (ucell st.uses)∧st.uses.length≤c9)∧st=lifeS u J d) (dy) (0,lifeS u J 0,u.UA,u.uc,noF,_) ?_ (S.sel [1,0,2,3,4] G G) (H.keep [8,9,10,22,3,4,6,7,21] rfl) ?_
 · exact ⟨⟨by omega,by omega⟩,⟨RdF.base huu,hucp⟩,rfl⟩
 clear H S a
 intro g1 x1 a w1 hp S H K6 k6
 obtain ⟨d,st,A9,c9,B9,wz⟩:=x1
 dsimp only at hp S H
 obtain ⟨⟨hdl,hgd⟩,⟨hrd,hcap⟩,hst9⟩:=hp
 subst hst9
 have hln:=Gw (u:=u) (J:=J) d
 have hbo:=Cc (u:=u) (J:=J) (by omega) d
 have hsn:=Cd (u:=u) (J:=J) (by omega) d
 skip
 refine sS H fun K7 k7=>sr 1 rfl<|sE ?_;clear H a;intro a H
 refine k7 _ ?_;clear k7 K7
 refine wp_seq_k fun K8 k8=>?_
 refine condL H rfl (fun hc1=>?_) (fun hc1=>?_)
 ·skip
  refine wp_skip ?_
  refine k8 _ _ ?_
  refine wp_seq_k fun K9 k9=>?_
  refine wp_block ?_
  refine sS H fun K10 k10=>sr 2 rfl<|sE ?_;clear H a;intro a H
  refine k10 _ ?_;clear k10 K10
  have hJd:=hJ d
  replace H:=H.keep [3,4,6,7,8,9,10,11,21,22] rfl
  replace S:=S.drew
  refine sD H fun K11 k11=>sr 1 rfl<|sd (fJ Tryz.underlying239 bC G G (by omega) (by omega))<|slm aD rfl (ownM.rd S (i:=3) (k:=d) (j:=0) rfl (by omega) (by omega))<|sd (gD G G (by omega) (by omega))<|sd (eZ G G)<|sr 2 rfl<|sd (fJ Tryz.underlying239 bC G G (by omega) (by omega))<|slm aD rfl (ownM.rd S (i:=3) (k:=d) (j:=0) rfl (by omega) (by omega))<|sd (gD G G (by omega) (by omega))<|sd (eZ G G)<|sr 3 rfl<|sE ?_;clear H a;intro a H
  refine k11 _ ?_;clear k11 K11
  have SR:=(S.sel [0,1,2,3,4] G G)
  refine meet_sr (X:=Int) [3,4,6,7,8,9,11,13,21,22] H rfl (fun x=>[(10,.int .i64 x)]) (fun x=>[]) (fun x=>x=seenN (lifeS u J d) (J d) d) SR (fun K13 k13=>?_) ?_
  ·skip
   replace H:=H.keep [3,4,6,7,8,9,10,11,12,13,21,22] rfl
   refine sS H fun K14 k14=>sr 1 rfl<|sE ?_;clear H a;intro a H
   refine k14 _ ?_;clear k14 K14
   refine condE H rfl (fun hc2=>?_) (fun hc2=>?_)
   ·skip
    refine sO H<|sr 2 rfl<|sE ?_;clear H a;intro a H
    exact k13 _ a _ ((if_pos (show insp (J d)=true from decide_eq_true hc2)).symm) (S.sel [0,1,2,3,4] G G) (H.keep [10,3,4,6,7,8,9,11,13,21,22] rfl)
   refine wp_skip ?_
   exact k13 _ a _ ((if_neg (show ¬ insp (J d)=true from fun h=>hc2 (of_decide_eq_true h))).symm) (S.sel [0,1,2,3,4] G G) (H.keep [10,3,4,6,7,8,9,11,13,21,22] rfl)
  clear SR H S a
  intro xm a wm hp S H
  obtain ⟨x,rfl⟩:∃ y,y=xm:=⟨_,rfl⟩
  have hx9:=hp
  have hxb:=zV (s:=(lifeS u J d)) (j:=J d) (d:=d) hsn
  rw [←hx9] at hxb
  have SR:=(S.sel [1,2,3,4] G G)
  refine meet_sr (X:=Unit) [3,4,6,7,8,9,10,11,13,21,22] H rfl (fun u3=>[]) (fun u3=>[boxM b7 139 [.int .i64 (bsum (runB' u J) d),.int .i64 (bsum (certB u J) (d+1))]]) (fun u3=>True) SR (fun K17 k17=>?_) ?_
  ·skip
   refine sS H fun K18 k18=>sr 2 rfl<|sd (aS G G (by unfold i64ok;omega))<|sf rC rfl<|sl S 4 aD G G G<|sr 1 rfl<|sE ?_;clear H a;intro a H
   refine k18 _ ?_;clear k18 K18
   refine condG H rfl (fun hc3=>?_) (fun hc3=>?_)
   ·skip
    replace H:=H.keep [3,4,6,7,8,9,10,11,13,21,22] rfl
    refine nT 6 (by kernel_rfl) (by kernel_rfl) ?_
    replace S:=S.drew
    refine sF H<|sf yY rfl<|sl S 0 aD G G G<|sr 1 rfl<|sd (dE G G (by omega) (by omega) (Cb (by omega)))<|sd (tQ G G (vG _ (by omega)) (by omega) (El (Nat.le_refl d)))<|sf yY rfl<|sE ?_;clear H a;intro a H
    refine aB H S (i:=0) G G G G bC G G ?_
    clear H a S;intro _ a S H
    replace S:=boxM.same S (i:=0) rfl (cs':=[.int .i64 (bsum (runB' u J) d),.int .i64 (bsum (certB u J) (d+1))]) (by rw [←Ll (f:=certB u J) (n:=d) ((zX u J d x hx9).symm.trans (decide_eq_true hc3))] <;> rfl)
    exact k17 () a _ (trivial) (S.sel [0,1,2,3,4] G G) (H.keep [3,4,6,7,8,9,10,11,13,21,22] rfl)
   refine wp_skip ?_
   replace S:=boxM.same S (i:=0) rfl (cs':=[.int .i64 (bsum (runB' u J) d),.int .i64 (bsum (certB u J) (d+1))]) (by rw [←Lm (f:=certB u J) (n:=d) ((zX u J d x hx9).symm.trans (decide_eq_false (by omega)))] <;> rfl)
   exact k17 () a _ (trivial) (S.sel [0,1,2,3,4] G G) (H.keep [3,4,6,7,8,9,10,11,13,21,22] rfl)
  clear SR H S a
  intro xm a wm hp S H
  obtain ⟨u3,rfl⟩:∃ y,y=xm:=⟨_,rfl⟩
  skip
  have SR:=(S.sel [2,3,4] G G)
  refine meet_sr (X:=Option Addr×Nat×(Nat→Prop)×World) [3,4,6,7,9,10,11,13,21,22] H rfl (fun ⟨A8,c8,B8,wy⟩=>[(8,.slice A8 (usesN u J d).length c8)]) (fun ⟨A8,c8,B8,wy⟩=>[boxM b7 139 [.int .i64 (bsum (runB' u J) (d+1)),.int .i64 (bsum (certB u J) (d+1))],frzM B8 wy]) (fun ⟨A8,c8,B8,wy⟩=>RdF w noF B8 wy 6 A8 (usesN u J d).length (ucell (usesN u J d))∧(usesN u J d).length≤c8) SR (fun K21 k21=>?_) ?_
  ·skip
   replace H:=H.keep [3,4,6,7,8,9,10,11,13,21,22] rfl
   refine seq_list fun K22 k22=>?_
   refine ls 13 H<|sr 1 rfl<|sd (fJ Tryz.underlying239 bC G G (by omega) (by omega))<|slm aD rfl (ownM.rd S (i:=3) (k:=d) (j:=0) rfl (by omega) (by omega))<|sr 2 rfl<|sg 6 4 55 61 true G G (fun hg5=>sy hg5<|sr 1 rfl<|sy hg5<|sr 1 rfl<|sy hg5<|sd (aS G G (by unfold i64ok;omega))<|sy hg5<|sf rC rfl<|sy hg5<|sl S 4 aD G G G<|sy hg5<|sr 1 rfl<|sz 6 G G G)<|sa G G G<|sr 1 rfl<|sE ?_;clear H a;intro a H
   apply cI (i:=12) (g:=63) (t:=70) (b:=true) 7 H S G G (by kernel_rfl) (by kernel_rfl) G G
   case h1=>
    intro hg13
    refine ls 5 H<|sy hg13<|sd ((aE pU jC rfl S (i:=4) G G))<|sy hg13<|sr 1 rfl<|sy hg13<|sr 1 rfl<|sy hg13<|sr 1 rfl<|sy hg13<|sd (aS G G (by unfold i64ok;omega))<|sE ?_;intro a H
    refine dB H G G (by assumption) ?_
    refine aA H G G Tryz.func157 G G (Hv u (lifeS u J d).uses A9 c9 ((d:Int)-(lifeS u J d).born) _ (hur.now S) hurn (huu.now S) huun (hrd.now S (i:=1) rfl) (by omega) hcap) ?_
    rintro _ _ a ⟨rfl,S2⟩ H
    replace S:=S.call S2;clear S2
    refine ls 1 H<|sy hg13<|sr 1 rfl<|sE ?_;intro a H
    exact wpList_nil ⟨H.strip 7 G G,(S.sel [0,1,2,3,4] G G)⟩
   clear H a S;intro a _ H S
   refine ls 1 H<|sa G G G<|sE ?_;clear H a;intro a H
   refine k22 _ _ ?_;clear k22 K22
   refine cond_ H rfl (fun hc4=>?_) (fun hc4=>?_)
   ·skip
    rw [Em u J d x hx9] at hc4
    replace H:=H.keep [3,4,6,7,8,9,10,11,13,21,22] rfl
    refine rW 6 (by kernel_rfl) (by kernel_rfl) fun K23 k23=>?_
    replace S:=S.drew
    refine sF H<|sf sN rfl<|sl S 0 aD G G G<|sr 1 rfl<|sd (dE G G (by omega) (by omega) (Cb (by omega)))<|sd (tQ G G (vG _ (by omega)) (by omega) (El (Nat.le_refl d)))<|sf sN rfl<|sE ?_;clear H a;intro a H
    refine aB H S (i:=0) G G G G bC G G ?_
    clear H a S;intro _ a S H
    refine k23 _ _ ?_;clear k23 K23
    replace H:=H.keep [3,4,6,7,8,9,10,11,13,21,22] rfl
    replace S:=S.drew
    refine one_wq [(0,true),(1,true),(2,true),(3,true),(4,true),(5,true),(6,true),(7,true),(8,true),(9,true),(10,true),(11,true),(12,true),(13,true),(14,false),(15,false),(16,true)] (by kernel_rfl) (by kernel_rfl) (S.sel [0,1,2,3,4] G G) ?_
    refine qF H<|qr 2 rfl<|qd rfl (fun _ S=>cO dF rfl)<|qr 1 rfl<|qd rfl (fun _ S=>cO dF rfl)<|qd rfl (fun _ S=>qS dF dA G G G hcap)<|qr 2 rfl<|qd rfl (fun _ S=>aS G G (by unfold i64ok;omega))<|qd rfl (fun _ S=>(aC rE rfl))<|qd rfl (fun _ S=>aG aD rfl (boxM.rd S (i:=4) G G))<|qd rfl (fun _ S=>(aC rF rfl))<|qd rfl (fun _ S=>aG aD rfl (boxM.rd S (i:=4) G G))<|qd rfl (fun _ S=>aR Kj G G)<|qK ?_;clear H a;intro a H
    refine aV rfl ?_
    refine bB H rfl S dF dA jX G G G G G G G G G ?_;clear H a S;intro A1 _ a hA1 S H
    refine wpList_nil (And.intro (S.sel [1,2,3,4,5] G G) ?_)
    refine aV rfl ?_
    refine oZ H rfl S dF dA jX Kh G G G G (n:=(lifeS u J d).uses.length) (cell:=ucell (lifeS u J d).uses) (cell':=_) (hrd.now S (i:=2) rfl) (Nl (hrd.now S (i:=2) rfl)) (by omega) (by omega) (ownM.inS S (i:=0) rfl) (jL (six G G G G G G)) (by omega) (by omega) ?_;clear H a S;intro A3 c3 _ a S H
    replace S:=S.recell (i:=0) rfl (cell':=ucell ((lifeS u J d).uses++[useAt u d (lifeS u J d).born])) (uE (x:=useAt u d (lifeS u J d).born) (six G G G G G G))
    refine wpList_nil (And.intro (S.sel [2,3,4,5,6] G G) ?_)
    refine qF H<|qr 1 rfl<|qK ?_;clear H a;intro a H
    refine bO ?_
    replace S:=boxM.same S (i:=2) rfl (cs':=[.int .i64 (bsum (runB' u J) (d+1)),.int .i64 (bsum (certB u J) (d+1))]) (by rw [←Ll (f:=runB' u J) (n:=d) hc4] <;> rfl)
    replace S:=(S.sel [0,1,2,3,4,5,6] G G)
    have hle3:=ownM.le S (i:=0) rfl
    obtain ⟨B2,S,hA2,_⟩:=St.freeze S (i:=2) rfl
    rw [show (lifeS u J d).uses.length+1=(usesN u J d).length by unfold usesN;rw [if_pos hc4];simp] at H
    exact k21 (A3,c3,B2,_) a _ (⟨by rw [En hc4,List.length_append];exact hA2,by rw [En hc4,List.length_append];exact hle3.1⟩) (S.sel [1,2,3,4,5] G G) (H.keep [8,3,4,6,7,9,10,11,13,21,22] rfl)
   rw [Em u J d x hx9] at hc4
   refine wp_skip ?_
   replace S:=boxM.same S (i:=0) rfl (cs':=[.int .i64 (bsum (runB' u J) (d+1)),.int .i64 (bsum (certB u J) (d+1))]) (by rw [←Lm (f:=runB' u J) (n:=d) hc4] <;> rfl)
   rw [←xG hc4] at H
   exact k21 (A9,c9,B9,wz) a _ (⟨by rw [xG hc4];exact hrd,by rw [xG hc4];exact hcap⟩) (S.sel [0,1,2,3,4] G G) (H.keep [8,3,4,6,7,9,10,11,13,21,22] rfl)
  clear SR H S a
  intro xm a wm hp S H
  obtain ⟨A8,c8,B8,wy⟩:=xm
  rw [show Value.bool (decide (J d/2^(2:Int).toNat%2=1))=Value.bool (renw (J d)) from rfl] at H
  replace H:=H.keep [3,4,6,7,8,9,10,11,13,21,22] rfl
  refine sS H fun K25 k25=>sr 1 rfl<|sE ?_;clear H a;intro a H
  refine k25 _ ?_;clear k25 K25
  refine cond_ H rfl (fun hc5=>?_) (fun hc5=>?_)
  ·skip
   skip
   refine sO H<|sr 3 rfl<|sE ?_;clear H a;intro a H
   refine k9 _ _ ?_
   refine sO H<|sd (aK G G (by unfold i64ok;omega))<|sr 1 rfl<|sE ?_;clear H a;intro a H
   have hp8:=hp
   exact k6 (g1-1) (d+1,⟨[],(d:Int),x⟩,none,0,B8,wy) a _ (by omega) (⟨⟨by omega,by omega⟩,⟨RdF.nil,Nat.le_refl 0⟩,Vu hc5 hx9⟩) (S.sel [0,1,2,3,4] G G) (H.keep [8,9,10,22,3,4,6,7,21] rfl)
  skip
  refine wp_skip ?_
  refine k9 _ _ ?_
  refine sO H<|sd (aK G G (by unfold i64ok;omega))<|sr 1 rfl<|sE ?_;clear H a;intro a H
  have hp8:=hp
  exact k6 (g1-1) (d+1,⟨usesN u J d,(lifeS u J d).born,x⟩,A8,c8,B8,wy) a _ (by omega) (⟨⟨by omega,by omega⟩,hp8,Vv hc5 hx9⟩) (S.sel [0,1,2,3,4] G G) (H.keep [8,9,10,22,3,4,6,7,21] rfl)
 refine wp_exit ?_
 refine k4 _ _ ?_
 replace H:=H.keep [6,7] rfl
 refine seq_list fun K29 k29=>?_
 refine ls 1 H<|sd ((aE kW gG rfl S (i:=0) G G))<|sE ?_;clear H a;intro a H
 refine aB H S (i:=2) G G G G gG G G ?_
 clear H a S;intro _ a S H
 refine k29 _ _ ?_;clear k29 K29
 refine wp_ret ?_
 refine retA (fn:=Tryz.f125) rfl H rfl kW (by exact gG) (dL S (i:=2) rfl) ?_
 obtain rfl:d=dy:=by omega
 exact ⟨rfl,(S.sel [] G G)⟩
end
section
theorem keyOK:KeyOk Tryz.prog 241 (encN (n:=21)):=
  Qc (Lj Tryz.underlying241 sG (.cons (by decide) rfl (PartK.int2 Tryz.underlying3 aD) (.cons (by decide) rfl (PartK.of (Li Tryz.underlying239 Jp (PartK.int Tryz.underlying3 aD) bC)) (.nil 21))) (by kernel_rfl)) (by omega) (by rw [Tryz.underlying241])
theorem YIn.nowR {w w0:World} {F0:Nat→Prop} {R:List Mem} {y:Yr} (h:YIn w0 F0 y) (S:St w0 F0 R w):YIn w (fps R) y:=
  ⟨h.ps.nowR S,h.xs.nowR S,h.pe.nowR S,h.prs.nowR S,h.us.nowR S,h.sps.nowR S,fun k hk=>(h.rt k hk).nowR S,fun k hk=>(h.ul k hk).nowR S⟩
theorem YOk.days {y:Yr} (h:YOk y):1≤y.days∧y.days≤20:=h.yr.1
theorem YOk.unit {y:Yr} (h:YOk y) {i:Nat} (hi:i<y.us.length):UntOk y.ps y.us (y.us.getD i Unt.zero) i:=jK.1 (h.un i hi)
theorem YOk.old {y:Yr} (h:YOk y) {i:Nat} (hi:i<y.us.length):0≤(y.us.getD i Unt.zero).old:=by
  have h1:=h.unit hi
  have h2:=uD h1.wear
  have h3:=h1.i
  unfold untI at h3
  omega
theorem Sd (y:Yr) (w:World) :
    Calls Tryz.prog 40 [.agg [.int .i64 y.days,.int .i64 y.pl,.slice y.PA y.ps.length y.pc,.slice y.XA y.xs.length y.xc,.slice y.BA y.pe.length y.bc,.int .i64 y.limit,.bool y.help,.slice y.QA y.prs.length y.qc,.slice y.VA y.us.length y.vc,.int .i64 y.crew,.slice y.SA y.sps.length y.sc].toArray].toArray w (Ret (fun v w'=>∃ cb bl bs bk,v = .pointer (some ⟨cb,0,none⟩)∧St w noF [boxM cb 204 [.int .i64 y.days,.int .i64 y.pl,.slice y.PA y.ps.length y.pc,.slice y.XA y.xs.length y.xc,.slice y.BA y.pe.length y.bc,.int .i64 y.limit,.bool y.help,.slice y.QA y.prs.length y.qc,.slice y.VA y.us.length y.vc,.int .i64 y.crew,.slice y.SA y.sps.length y.sc,.map (some bl),.map (some bs),.map (some bk)],mapK (encN (n:=21)) bl (livP y),mapK (fun n:Int=>Value.int .i64 n) bs (safP y),mapK enc2 bk (kepP y)] w')):=by
 refine enter Tryz.func40 rfl Tryz.ntmps40 rfl (fun a H=>?_)
 have S:=St.start w
 refine seq_list fun K1 k1=>?_
 refine aO H rfl S G G ?_;clear H a S;intro b1 _ a hb1 hbw1 S H
 refine ls 1 H<|sr 1 rfl<|sE ?_;clear H a;intro a H
 refine k1 _ _ ?_;clear k1 K1
 refine seq_list fun K2 k2=>?_
 refine ls 1 H<|sd ((aE gF jQ rfl S (i:=0) G G))<|sE ?_;clear H a;intro a H
 refine iG (encN (n:=21)) (livP y) Ha H rfl S ?_;clear H a S;intro bl _ a hbl S H
 refine iG (fun n:Int=>Value.int .i64 n) (safP y) Hb H rfl S ?_;clear H a S;intro bs _ a hbs S H
 refine iG enc2 (kepP y) Hc H rfl S ?_;clear H a S;intro bk _ a hbk S H
 refine ls 1 H<|sd (aR Vb G G)<|sE ?_;clear H a;intro a H
 refine aO H rfl S G G ?_;clear H a S;intro b8 _ a hb8 hbw8 S H
 refine ls 1 H<|sr 1 rfl<|sE ?_;clear H a;intro a H
 refine k2 _ _ ?_;clear k2 K2
 refine wp_ret ?_
 refine ret1 (fn:=Tryz.f40) rfl H rfl ?_
 exact ⟨b8,bl,bs,bk,rfl,(S.sel [0,3,2,1] G G)⟩
theorem Nm (y:Yr) (cb bl bs bk:Nat) (i:Nat) (l:List Tsk) (LA:Option Addr) (lc:Nat) (w:World) (F:Nat→Prop) (S:St w F [boxM cb 204 [.int .i64 y.days,.int .i64 y.pl,.slice y.PA y.ps.length y.pc,.slice y.XA y.xs.length y.xc,.slice y.BA y.pe.length y.bc,.int .i64 y.limit,.bool y.help,.slice y.QA y.prs.length y.qc,.slice y.VA y.us.length y.vc,.int .i64 y.crew,.slice y.SA y.sps.length y.sc,.map (some bl),.map (some bs),.map (some bk)],mapK (encN (n:=21)) bl (livP y),mapK (fun n:Int=>Value.int .i64 n) bs (safP y),mapK enc2 bk (kepP y)] w) (hy:YIn w F y) (hyb:YBd y) (hok:YOk y) (hi:i<y.us.length) (hl:InS w F 3 LA l.length (lF l)) (hln:l.length≤9223372036854775807) (htk:∀ k,k<l.length→tskI y (l.getD k Tsk.zero)) :
    Calls Tryz.prog 84 [.pointer (some ⟨cb,0,none⟩),.int .i64 (i:Int),.slice LA l.length lc].toArray w (Ret (fun v w'=>v=lifeV (y.us.getD i Unt.zero) (jobF l i) y.days.toNat∧St w F [boxM cb 204 [.int .i64 y.days,.int .i64 y.pl,.slice y.PA y.ps.length y.pc,.slice y.XA y.xs.length y.xc,.slice y.BA y.pe.length y.bc,.int .i64 y.limit,.bool y.help,.slice y.QA y.prs.length y.qc,.slice y.VA y.us.length y.vc,.int .i64 y.crew,.slice y.SA y.sps.length y.sc,.map (some bl),.map (some bs),.map (some bk)],mapK (encN (n:=21)) bl (livP y),mapK (fun n:Int=>Value.int .i64 n) bs (safP y),mapK enc2 bk (kepP y)] w')):=by
 have hmx:maxLen=9223372036854775807:=rfl
 have hdy:=hok.days;have husn:=hyb.usn
 have hD:((y.days.toNat:Nat):Int)=y.days:=by omega
 refine enter Tryz.func84 rfl Tryz.ntmps84 rfl (fun a H=>?_)
 skip
 refine seq_list fun K1 k1=>?_
 refine aI H rfl S pY ?_;clear H a S;intro b6 _ a hb6 hbw6 S H
 refine k1 _ _ ?_;clear k1 K1
 refine seq_list fun K2 k2=>?_
 refine ls 2 H<|sr 1 rfl<|sd (aR Vf G G)<|sE ?_;clear H a;intro a H
 refine aI H rfl S Kg ?_;clear H a S;intro b7 _ a hb7 hbw7 S H
 refine aB H S (i:=0) G G G G sG G G ?_
 clear H a S;intro _ a S H
 refine k2 _ _ ?_;clear k2 K2
 refine wp_seq_k fun K3 k3=>?_
 replace S:=boxM.same S (i:=0) rfl (cs':=[.int .i64 (i:Int),.int .i64 0,.int .i64 0,.int .i64 0,.int .i64 0,.int .i64 0,.int .i64 0,.int .i64 0,.int .i64 0,.int .i64 0,.int .i64 0,.int .i64 0,.int .i64 0,.int .i64 0,.int .i64 0,.int .i64 0,.int .i64 0,.int .i64 0,.int .i64 0,.int .i64 0,.int .i64 0]) rfl
 replace S:=Ln S (i:=0) rfl (by show 21≤maxLen;decide)
 replace S:=S.recell (i:=0) rfl (cell':=kcl i (jobP l 0 i)) (fun k j hk hj=>Lr hk hj)
 refine sS H fun K4 k4=>sr 1 rfl<|sL eW rfl<|sr 1 rfl<|sE ?_;clear H a;intro a H
 refine k4 _ ?_;clear k4 K4
 refine wp_block ?_
 refine loop_st (X:=Nat) (R0:=_) [0,1,6,7,14,15] H rfl (fun k=>[(16,.int .i64 (k:Int))]) (fun k=>[ownM 241 1 (some ⟨b7,0,none⟩) 21 21 (kcl i (jobP l k i))]) (fun g k=>k≤l.length∧g+k=l.length) (l.length) 0 ?_ (S.sel [0,1,2,3,4,5] G G) (H.keep [16,0,1,6,7,14,15] rfl) ?_
 · exact ⟨by omega,by omega⟩
 clear H S a
 intro g1 x1 a w1 hp S H K5 k5
 obtain ⟨k,rfl⟩:∃ y,y=x1:=⟨_,rfl⟩
 refine sS H fun K6 k6=>sr 1 rfl<|sE ?_;clear H a;intro a H
 refine k6 _ ?_;clear k6 K6
 refine wp_seq_k fun K7 k7=>?_
 refine condL H rfl (fun hc1=>?_) (fun hc1=>?_)
 ·skip
  refine wp_skip ?_
  refine k7 _ _ ?_
  refine wp_seq_k fun K8 k8=>?_
  refine wp_block ?_
  refine seq_list fun K9 k9=>?_
  refine ls 2 H<|si eW eM G G (hl.adr (by omega)) (by omega)<|sd ((aU pV eM rfl S hl (by omega) (by omega)))<|sE ?_;clear H a;intro a H
  refine aI H rfl S Ub ?_;clear H a S;intro b9 _ a hb9 hbw9 S H
  refine aB H S (i:=0) G G G G eM G G ?_
  clear H a S;intro _ a S H
  refine k9 _ _ ?_;clear k9 K9
  have htt:=htk k (by omega);unfold tskI at htt
  refine sS H fun K10 k10=>sf dZ rfl<|sl S 0 aD G G G<|sr 2 rfl<|sE ?_;clear H a;intro a H
  refine k10 _ ?_;clear k10 K10
  refine condE H rfl (fun hc2=>?_) (fun hc2=>?_)
  ·skip
   replace H:=H.keep [0,1,6,7,9,14,15,16] rfl
   refine nT 11 (by kernel_rfl) (by kernel_rfl) ?_
   replace S:=S.drew
   refine sF H<|sf dO rfl<|sl S 0 aD G G G<|sf sU rfl<|sd ((fJ Tryz.underlying239 bC G G (by omega) (by omega)).to (v' := .pointer (some (pt (some ⟨b7,0,none⟩) 1 ((l.getD k Tsk.zero).day.toNat+1) 0))) (congrArg (fun o=>Value.pointer (some ⟨b7,o,none⟩)) (show 0+1+(l.getD k Tsk.zero).day.toNat*1=0+((l.getD k Tsk.zero).day.toNat+1)*1+0 by omega)))<|slm aD rfl (ownM.rd S (i:=1) (k:=(l.getD k Tsk.zero).day.toNat+1) (j:=0) rfl (by omega) (by omega))<|sf gJ rfl<|sl S 0 aD G G G<|sd (dE G G (by omega) (by omega) (Ql htt.2.2))<|sd (Lo G G (Gx _ _ _) (by omega))<|sf sU rfl<|sd ((fJ Tryz.underlying239 bC G G (by omega) (by omega)).to (v' := .pointer (some (pt (some ⟨b7,0,none⟩) 1 ((l.getD k Tsk.zero).day.toNat+1) 0))) (congrArg (fun o=>Value.pointer (some ⟨b7,o,none⟩)) (show 0+1+(l.getD k Tsk.zero).day.toNat*1=0+((l.getD k Tsk.zero).day.toNat+1)*1+0 by omega)))<|sE ?_;clear H a;intro a H
   refine cQ H S (i:=1) G G G (by omega) (by omega) bC rfl ?_
   clear H a S;intro _ a S H
   refine k8 _ _ ?_
   replace H:=H.keep [0,1,6,7,14,15,16] rfl
   refine sO H<|sd (aK G G (by unfold i64ok;omega))<|sr 1 rfl<|sE ?_;clear H a;intro a H
   replace S:=S.recell (i:=1) rfl (cell':=kcl i (jobP l (k+1) i)) (fun k9 j9 hk9 hj9=>Qo (d:=(l.getD k Tsk.zero).day.toNat) (by omega) htt.2.2 (by omega) (by omega) k9 j9 hj9)
   exact k5 (g1-1) (k+1) a _ (by omega) (⟨by omega,by omega⟩) (S.sel [1,2,3,4,5,6] G G) (H.keep [16,0,1,6,7,14,15] rfl)
  refine wp_skip ?_
  refine k8 _ _ ?_
  refine sO H<|sd (aK G G (by unfold i64ok;omega))<|sr 1 rfl<|sE ?_;clear H a;intro a H
  rw [←Qm (l:=l) (n:=k) (i:=i) (by omega) htt.2.2 (by omega)] at S
  exact k5 (g1-1) (k+1) a _ (by omega) (⟨by omega,by omega⟩) (S.sel [1,2,3,4,5,6] G G) (H.keep [16,0,1,6,7,14,15] rfl)
 refine wp_exit ?_
 refine k3 _ _ ?_
 obtain rfl:k=l.length:=by omega
 rw [Lq] at S
 replace S:=Qk S (i:=0) rfl
 obtain ⟨h0,hh0,S⟩:=mapK.fix S (i:=3) rfl
 rcases hk0:h0 (keyOf i (jobF l i)) with _|v0
 ·skip
  skip
  replace H:=H.keep [0,1,6,7] rfl
  replace S:=S.drew
  refine seq_wq [(0,true),(1,true),(2,true),(3,true),(4,true),(5,true),(6,true),(7,true),(8,true),(9,false),(10,false),(11,true)] (by kernel_rfl) (by kernel_rfl) (S.sel [0,1,2,3,4,5] G G) fun K14 k14=>?_
  refine qF H<|qr 2 rfl<|qd rfl (fun _ S=>(aC sR rfl))<|qd rfl (fun _ S=>aG wJ rfl (boxM.rd S (i:=2) G G))<|qd rfl (fun _ S=>(aE wL sG rfl S (i:=0) G G))<|qd rfl (fun _ S=>lV S (i:=3) rfl Bu keyOK Kk rfl (k:=keyOf i (jobF l i)) rfl (fun h e=>by subst e;rw [hk0];exact ⟨rfl,rfl⟩))<|qr 3 rfl<|qK ?_;clear H a;intro a H
  refine aV rfl ?_
  refine aI H rfl S pY ?_;clear H a S;intro b10 _ a hb10 hbw10 S H
  refine wpList_nil (And.intro (S.sel [1,2,3,4,5,6] G G) ?_)
  refine aV rfl ?_
  refine aB H S (i:=0) G G G G gG G G ?_
  clear H a S;intro _ a S H
  refine wpList_nil (And.intro (S.sel [1,2,3,4,5,6] G G) ?_)
  refine qF H<|qr 1 rfl<|qK ?_;clear H a;intro a H
  refine bO ?_
  refine k14 _ _ ?_
  clear k14 K14
  refine wp_seq_k fun K15 k15=>?_
  replace H:=H.keep [0,1,6,7,10,11] rfl
  refine sS H fun K16 k16=>sr 2 rfl<|sE ?_;clear H a;intro a H
  refine k16 _ ?_;clear k16 K16
  refine cond_ H rfl (fun hc3=>?_) (fun hc3=>?_)
  ·skip
   skip
   replace H:=H.keep [0,1,6,7,10] rfl
   replace S:=S.drew
   refine seq_wq [(0,true),(1,true),(2,true),(3,true),(4,true),(5,true),(6,true),(7,true),(8,true),(9,true),(10,true),(11,true),(12,true),(13,true),(14,true),(15,false),(16,false)] (by kernel_rfl) (by kernel_rfl) (S.sel [1,2,3,4,5,6] G G) fun K17 k17=>?_
   refine qF H<|qr 2 rfl<|qd rfl (fun _ S=>(aC oM rfl))<|qd rfl (fun _ S=>(aC dI rfl))<|qd rfl (fun _ S=>aG eH rfl (boxM.rd S (i:=2) G G))<|qr 1 rfl<|qd rfl (fun _ S=>aZ fE jC G G (hy.us.adr (by omega)) (by omega))<|qd rfl (fun _ S=>(aU pU jC rfl S hy.us (by omega) (by omega)))<|qd rfl (fun _ S=>(aC sU rfl))<|qd rfl (fun _ S=>(aE Pn Jp rfl S (i:=0) G G))<|qr 2 rfl<|qd rfl (fun _ S=>(aC oM rfl))<|qd rfl (fun _ S=>(aC dH rfl))<|qd rfl (fun _ S=>aG aD rfl (boxM.rd S (i:=2) G G))<|qK ?_;clear H a;intro a H
   refine aV rfl ?_
   rw [←hD] at H
   refine aA H G G Tryz.func125 G G (Sc (y.us.getD i Unt.zero) (jobF l i) y.days.toNat _ ((hy.rt i hi).now S) (hyb.rtn hi) ((hy.ul i hi).now S) (hyb.uln hi) (hyb.cap i hi) (hok.unit hi).i (hok.old hi) (fun d=>Qj _ _ _) (by omega)) ?_;clear H a
   rintro _ _ a ⟨rfl,S2⟩ H
   replace S:=S.call S2;clear S2
   refine wpList_nil (And.intro (S.sel [1,2,3,4,5,6] G G) ?_)
   refine aV rfl ?_
   refine aB H S (i:=0) G G G G gG G G ?_
   clear H a S;intro _ a S H
   refine wpList_nil (And.intro (S.sel [1,2,3,4,5,6] G G) ?_)
   refine bO ?_
   refine k17 _ _ ?_
   clear k17 K17
   replace H:=H.keep [0,6,7,10] rfl
   refine nT 6 (by kernel_rfl) (by kernel_rfl) ?_
   replace S:=S.drew
   refine sF H<|sr 2 rfl<|sf sR rfl<|sl S 3 wJ G G G<|sd ((aE wL sG rfl S (i:=1) G G))<|sd ((aE kW gG rfl S (i:=0) G G))<|sE ?_;clear H a;intro a H
   refine iR (k:=keyOf i (jobF l i)) (livP y) H S (i:=4) rfl Bu keyOK G G G (fun h e=>by subst e;exact Ls (by omega) rfl h hh0) ?_;clear H a S;intro _ a S H
   refine k15 _ _ ?_
   refine seq_list fun K19 k19=>?_
   refine ls 1 H<|sd ((aE kW gG rfl S (i:=0) G G))<|sE ?_;clear H a;intro a H
   refine aB H S (i:=2) G G G G gG G G ?_
   clear H a S;intro _ a S H
   refine k19 _ _ ?_;clear k19 K19
   refine wp_ret ?_
   refine retA (fn:=Tryz.f84) rfl H rfl kW (by exact gG) (dL S (i:=2) rfl) ?_
   exact ⟨rfl,(S.sel [3,4,5,6] G G)⟩
  skip
  cases hc3
 obtain rfl:=hh0 _ _ _ hi hk0
 replace H:=H.keep [0,1,6,7] rfl
 replace S:=S.drew
 refine seq_wq [(0,true),(1,true),(2,true),(3,true),(4,true),(5,true),(6,true),(7,true),(8,true),(9,false),(10,false),(11,true)] (by kernel_rfl) (by kernel_rfl) (S.sel [0,1,2,3,4,5] G G) fun K20 k20=>?_
 refine qF H<|qr 2 rfl<|qd rfl (fun _ S=>(aC sR rfl))<|qd rfl (fun _ S=>aG wJ rfl (boxM.rd S (i:=2) G G))<|qd rfl (fun _ S=>(aE wL sG rfl S (i:=0) G G))<|qd rfl (fun _ S=>lV S (i:=3) rfl Bu keyOK Kk rfl (k:=keyOf i (jobF l i)) rfl (fun h e=>by subst e;rw [hk0];exact ⟨rfl,rfl⟩))<|qr 3 rfl<|qK ?_;clear H a;intro a H
 refine aV rfl ?_
 refine aI H rfl S pY ?_;clear H a S;intro b10 _ a hb10 hbw10 S H
 refine wpList_nil (And.intro (S.sel [1,2,3,4,5,6] G G) ?_)
 refine aV rfl ?_
 refine aB H S (i:=0) G G G G gG G G ?_
 clear H a S;intro _ a S H
 refine wpList_nil (And.intro (S.sel [1,2,3,4,5,6] G G) ?_)
 refine qF H<|qr 1 rfl<|qK ?_;clear H a;intro a H
 refine bO ?_
 refine k20 _ _ ?_
 clear k20 K20
 refine wp_seq_k fun K21 k21=>?_
 replace H:=H.keep [0,1,6,7,10,11] rfl
 refine sS H fun K22 k22=>sr 2 rfl<|sE ?_;clear H a;intro a H
 refine k22 _ ?_;clear k22 K22
 refine cond_ H rfl (fun hc4=>?_) (fun hc4=>?_)
 ·skip
  skip
  cases hc4
 skip
 refine wp_skip ?_
 refine k21 _ _ ?_
 refine seq_list fun K23 k23=>?_
 refine ls 1 H<|sd ((aE kW gG rfl S (i:=0) G G))<|sE ?_;clear H a;intro a H
 refine aB H S (i:=2) G G G G gG G G ?_
 clear H a S;intro _ a S H
 refine k23 _ _ ?_;clear k23 K23
 refine wp_ret ?_
 refine retA (fn:=Tryz.f84) rfl H rfl kW (by exact gG) (dL S (i:=2) rfl) ?_
 replace S:=mapK.weak S (i:=4) rfl (Φ':=livP y) (fun g e=>by subst e;exact hh0)
 exact ⟨rfl,(S.sel [3,4,5,6] G G)⟩
end
section
theorem Se {l:List Int} (h:∀ k,k<l.length→0≤l.getD k 0∧l.getD k 0≤1000):∀ k,k≤l.length→0≤sumI l k∧sumI l k≤1000*k:=by
  intro k
  induction k with
  | zero=>intro _;simp [sumI,sm]
  | succ k ih=>
    intro hk
    have h1:=ih (by omega)
    have h2:=h k (by omega)
    unfold sumI at *
    rw [sm]
    push_cast
    omega
end
section
theorem lt40 {m:Int} (h:m≤4095):m<2^40:=by
  have e9:(2:Int)^40=1099511627776:=by decide
  omega
theorem Nn {y:Yr} {l:List Tsk} {k q:Nat}:setsQ y l k q q 0 = .int .i64 (outY y l q k):=by unfold setsQ;rw [if_neg (Nat.lt_irrefl q)]
theorem sets0 {y:Yr} {l:List Tsk} {k j:Nat} (hj:j<1):([Value.int .i64 0]:List Value).getD j undef=setsV y l 0 k j:=by
  have:j=0:=by omega
  subst this
  rfl
theorem Sf {m:Int} (h:0≤m∧m≤11):i64ok (1*2^m.toNat):=by
  have:=Cb (d:=m.toNat) (by omega)
  rw [Int.toNat_natCast] at this
  exact this
section
variable {y:Yr} {d out:Int} {k:Nat} {b:Bool} {e:Int}
end
theorem Sg (y:Yr) (cb bl bs bk:Nat) (l:List Tsk) (LA:Option Addr) (lc:Nat) (w:World) (F:Nat→Prop) (S:St w F [boxM cb 204 [.int .i64 y.days,.int .i64 y.pl,.slice y.PA y.ps.length y.pc,.slice y.XA y.xs.length y.xc,.slice y.BA y.pe.length y.bc,.int .i64 y.limit,.bool y.help,.slice y.QA y.prs.length y.qc,.slice y.VA y.us.length y.vc,.int .i64 y.crew,.slice y.SA y.sps.length y.sc,.map (some bl),.map (some bs),.map (some bk)],mapK (encN (n:=21)) bl (livP y),mapK (fun n:Int=>Value.int .i64 n) bs (safP y),mapK enc2 bk (kepP y)] w) (hy:YIn w F y) (hyb:YBd y) (hok:YOk y) (hl:InS w F 3 LA l.length (lF l)) (hln:l.length≤9223372036854775807) (htk:∀ k,k<l.length→tskI y (l.getD k Tsk.zero)) :
    Calls Tryz.prog 41 [.pointer (some ⟨cb,0,none⟩),.slice LA l.length lc].toArray w (Ret (fun v w'=>∃ A c,v = .slice A y.days.toNat c∧St w F (ownM 3 1 A y.days.toNat c (setsV y l y.us.length)::[boxM cb 204 [.int .i64 y.days,.int .i64 y.pl,.slice y.PA y.ps.length y.pc,.slice y.XA y.xs.length y.xc,.slice y.BA y.pe.length y.bc,.int .i64 y.limit,.bool y.help,.slice y.QA y.prs.length y.qc,.slice y.VA y.us.length y.vc,.int .i64 y.crew,.slice y.SA y.sps.length y.sc,.map (some bl),.map (some bs),.map (some bk)],mapK (encN (n:=21)) bl (livP y),mapK (fun n:Int=>Value.int .i64 n) bs (safP y),mapK enc2 bk (kepP y)]) w')):=by
 have hmx:maxLen=9223372036854775807:=rfl
 have hdy:=hok.days;have husn:=hyb.usn
 have hD:((y.days.toNat:Nat):Int)=y.days:=by omega
 refine enter Tryz.func41 rfl Tryz.ntmps41 rfl (fun a H=>?_)
 skip
 refine sS H fun K1 k1=>sr 1 rfl<|sE ?_;clear H a;intro a H
 refine k1 _ ?_;clear k1 K1
 refine seq_list fun K2 k2=>?_
 refine ls 5 H<|sr 2 rfl<|sf oM rfl<|sf dH rfl<|sl S 0 aD G G G<|sE ?_;clear H a;intro a H
 rw [←hD] at H
 refine kB (n:=y.days.toNat) H rfl S aW bC fG nF rfl (by decide) G G (by omega) (by omega) ?_;clear H a S;intro A1 _ a hA1 S H
 refine ls 1 H<|sr 1 rfl<|sE ?_;clear H a;intro a H
 refine k2 _ _ ?_;clear k2 K2
 refine wp_seq_k fun K3 k3=>?_
 replace H:=H.keep [0,1,5] rfl
 refine sS H fun K4 k4=>sr 2 rfl<|sf oM rfl<|sf dI rfl<|sl S 1 eH G G G<|sL fE rfl<|sr 1 rfl<|sE ?_;clear H a;intro a H
 refine k4 _ ?_;clear k4 K4
 refine wp_block ?_
 replace S:=S.recell (i:=0) rfl (cell':=setsV y l 0) (fun k9 j9 hk9 hj9=>sets0 hj9)
 refine loop_st (X:=Nat) (R0:=_) [0,1,5,20,21] H rfl (fun k=>[(22,.int .i64 (k:Int))]) (fun k=>[ownM 3 1 A1 y.days.toNat y.days.toNat (setsV y l k)]) (fun g k=>k≤y.us.length∧g+k=y.us.length) (y.us.length) 0 ?_ (S.sel [0,1,2,3,4] G G) (H.keep [22,0,1,5,20,21] rfl) ?_
 · exact ⟨by omega,by omega⟩
 clear H S a
 intro g1 x1 a w1 hp S H K5 k5
 obtain ⟨k,rfl⟩:∃ y,y=x1:=⟨_,rfl⟩
 refine sS H fun K6 k6=>sr 1 rfl<|sE ?_;clear H a;intro a H
 refine k6 _ ?_;clear k6 K6
 refine wp_seq_k fun K7 k7=>?_
 refine condL H rfl (fun hc1=>?_) (fun hc1=>?_)
 ·skip
  refine wp_skip ?_
  refine k7 _ _ ?_
  refine wp_seq_k fun K8 k8=>?_
  refine wp_block ?_
  refine seq_list fun K9 k9=>?_
  refine ls 3 H<|sr 1 rfl<|si fE jC G G (hy.us.adr (by omega)) (by omega)<|sd ((aU pU jC rfl S hy.us (by omega) (by omega)))<|sE ?_;clear H a;intro a H
  refine aI H rfl S Jw ?_;clear H a S;intro b7 _ a hb7 hbw7 S H
  refine ls 1 H<|sr 1 rfl<|sE ?_;clear H a;intro a H
  refine aB H S (i:=0) G G G G jC G G ?_
  clear H a S;intro _ a S H
  refine k9 _ _ ?_;clear k9 K9
  replace H:=H.keep [0,1,5,6,7,20,21,22] rfl
  refine seq_list fun K10 k10=>?_
  refine ls 3 H<|sr 3 rfl<|sE ?_;clear H a;intro a H
  refine aA H G G Tryz.func84 G G (Nm y cb bl bs bk k l LA lc _ _ ((S.sel [2,3,4,5] G G).startR) (hy.nowR (S.sel [2,3,4,5] G G)) hyb hok (by omega) (hl.nowR (S.sel [2,3,4,5] G G)) hln htk) ?_;clear H a
  rintro _ _ a ⟨rfl,S2⟩ H
  replace S:=St.callR (M:=[_,_,_,_]) (S.sel [2,3,4,5,0,1] G G) S2;clear S2
  refine aI H rfl S pY ?_;clear H a S;intro b8 _ a hb8 hbw8 S H
  refine aB H S (i:=0) G G G G gG G G ?_
  clear H a S;intro _ a S H
  refine k10 _ _ ?_;clear k10 K10
  refine sS H fun K11 k11=>sr 1 rfl<|sL aW rfl<|sr 1 rfl<|sE ?_;clear H a;intro a H
  refine k11 _ ?_;clear k11 K11
  refine wp_block ?_
  rw [←Cg] at S
  refine loop_st (X:=Nat) (R0:=_) [0,1,5,7,8,20,21,22,32] H rfl (fun q=>[(33,.int .i64 (q:Int))]) (fun q=>[ownM 3 1 A1 y.days.toNat y.days.toNat (setsQ y l k q)]) (fun g q=>q≤y.days.toNat∧g+q=y.days.toNat) (y.days.toNat) 0 ?_ (S.sel [6,0,1,2,3,4,5] G G) (H.keep [33,0,1,5,7,8,20,21,22,32] rfl) ?_
  · exact ⟨by omega,by omega⟩
  clear H S a
  intro g2 x2 a w2 hp S H K12 k12
  obtain ⟨q,rfl⟩:∃ y,y=x2:=⟨_,rfl⟩
  refine sS H fun K13 k13=>sr 1 rfl<|sE ?_;clear H a;intro a H
  refine k13 _ ?_;clear k13 K13
  refine wp_seq_k fun K14 k14=>?_
  refine condL H rfl (fun hc2=>?_) (fun hc2=>?_)
  ·skip
   refine wp_skip ?_
   refine k14 _ _ ?_
   refine wp_seq_k fun K15 k15=>?_
   refine wp_block ?_
   refine sS H fun K16 k16=>sr 2 rfl<|sE ?_;clear H a;intro a H
   refine k16 _ ?_;clear k16 K16
   have hmk:=kL hok.V (hok.unit (show k<y.us.length by omega))
   refine sS H fun K17 k17=>sf sN rfl<|sl S 1 aD G G G<|sr 1 rfl<|sd (gD G G (by omega) (by omega))<|sd (eZ G G)<|sr 1 rfl<|sE ?_;clear H a;intro a H
   refine k17 _ ?_;clear k17 K17
   refine condE H rfl (fun hc3=>?_) (fun hc3=>?_)
   ·skip
    have hrn:=Yy (y:=y) (l:=l) (k:=k) (show q<y.days.toNat by omega) hc3
    have hob:=Eo (l:=l) (d:=q) hok (show k≤y.us.length by omega)
    replace H:=H.keep [0,1,5,7,8,9,20,21,22,32,33] rfl
    refine nT 9 (by kernel_rfl) (by kernel_rfl) ?_
    replace S:=S.drew
    refine sF H<|sr 2 rfl<|si aW bC G G (ownM.adr S (i:=0) rfl (by omega)) (by omega)<|sd ((aG aD rfl (ownM.rd S (i:=0) (k:=q) (j:=0) rfl (by omega) (by omega))).to Nn)<|sf lA rfl<|sl S 6 aD G G G<|sd (dE G G (by omega) (by omega) (Sf hmk.1))<|sd (tQ G G ⟨hob.1,lt40 hob.2⟩ (by omega) (Cf hok (by omega)))<|si aW bC G G (ownM.adr S (i:=0) rfl (by omega)) (by omega)<|sE ?_;clear H a;intro a H
    refine cQ H S (i:=0) G G G (by omega) (by omega) bC rfl ?_
    clear H a S;intro _ a S H
    refine k15 _ _ ?_
    replace H:=H.keep [0,1,5,7,8,20,21,22,32,33] rfl
    refine sO H<|sd (aK G G (by unfold i64ok;omega))<|sr 1 rfl<|sE ?_;clear H a;intro a H
    replace S:=S.recell (i:=0) rfl (cell':=setsQ y l k (q+1)) (fun k9 j9 hk9 hj9=>Hg hrn rfl k9 j9 hj9)
    exact k12 (g2-1) (q+1) a _ (by omega) (⟨by omega,by omega⟩) (S.sel [0,1,2,3,4,5,6] G G) (H.keep [33,0,1,5,7,8,20,21,22,32] rfl)
   refine wp_skip ?_
   refine k15 _ _ ?_
   refine sO H<|sd (aK G G (by unfold i64ok;omega))<|sr 1 rfl<|sE ?_;clear H a;intro a H
   rw [Hf (Yz (show q<y.days.toNat by omega) hc3)] at S
   exact k12 (g2-1) (q+1) a _ (by omega) (⟨by omega,by omega⟩) (S.sel [0,1,2,3,4,5,6] G G) (H.keep [33,0,1,5,7,8,20,21,22,32] rfl)
  refine wp_exit ?_
  refine k8 _ _ ?_
  refine sO H<|sd (aK G G (by unfold i64ok;omega))<|sr 1 rfl<|sE ?_;clear H a;intro a H
  obtain rfl:q=y.days.toNat:=by omega
  replace S:=S.recell (i:=0) rfl (cell':=setsV y l (k+1)) He
  exact k5 (g1-1) (k+1) a _ (by omega) (⟨by omega,by omega⟩) (S.sel [0,2,3,4,5] G G) (H.keep [22,0,1,5,20,21] rfl)
 refine wp_exit ?_
 refine k3 _ _ ?_
 refine sS H fun K22 k22=>sr 2 rfl<|sE ?_;clear H a;intro a H
 refine k22 _ ?_;clear k22 K22
 refine wp_ret ?_
 refine ret1 (fn:=Tryz.f41) rfl H rfl ?_
 obtain rfl:k=y.us.length:=by omega
 exact ⟨_,_,rfl,(S.sel [0,1,2,3,4] G G)⟩
end
section
theorem Wo (y:Yr) (l:List Tsk) (LA:Option Addr) (lc:Nat) (w:World) (hy:YIn w noF y) (hyb:YBd y) (hl:InS w noF 3 LA l.length (lF l)) (hln:l.length≤9223372036854775807) :
    Calls Tryz.prog 12 [.agg [.int .i64 y.days,.int .i64 y.pl,.slice y.PA y.ps.length y.pc,.slice y.XA y.xs.length y.xc,.slice y.BA y.pe.length y.bc,.int .i64 y.limit,.bool y.help,.slice y.QA y.prs.length y.qc,.slice y.VA y.us.length y.vc,.int .i64 y.crew,.slice y.SA y.sps.length y.sc].toArray,.slice LA l.length lc].toArray w (Ret (fun v w'=>(taskE y l≠0∧v = .tuple #[.slice none 0 0,.int .i64 (taskE y l)]∧St w noF [] w')∨(taskE y l=0∧∃ A c,v = .tuple #[.slice A y.days.toNat c,.int .i64 0]∧St w noF [ownM 3 1 A y.days.toNat c (setsV y l y.us.length)] w'))):=by
 refine enter Tryz.func12 rfl Tryz.ntmps12 rfl (fun a H=>?_)
 have S:=St.start w
 refine seq_list fun K1 k1=>?_
 refine aO H rfl S G G ?_;clear H a S;intro b2 _ a hb2 hbw2 S H
 refine ls 2 H<|sr 2 rfl<|sE ?_;clear H a;intro a H
 refine k1 _ _ ?_;clear k1 K1
 refine wp_seq_k fun K2 k2=>?_
 refine seq_list fun K3 k3=>?_
 refine ls 2 H<|sd ((aE gF jQ rfl S (i:=0) G G))<|sr 1 rfl<|sE ?_;clear H a;intro a H
 refine aA H G G Tryz.func39 G G (Nk y l LA lc _ (hy.now S) hyb (hl.now S) hln) ?_;clear H a
 rintro _ _ a ⟨rfl,S2⟩ H
 replace S:=S.call S2;clear S2
 refine ls 1 H<|sr 1 rfl<|sE ?_;clear H a;intro a H
 refine k3 _ _ ?_;clear k3 K3
 refine sS H fun K4 k4=>sr 2 rfl<|sE ?_;clear H a;intro a H
 refine k4 _ ?_;clear k4 K4
 refine condN H rfl (fun hc1=>?_) (fun hc1=>?_)
 ·skip
  replace H:=H.keep [6] rfl
  refine sS H fun K5 k5=>sr 3 rfl<|sE ?_;clear H a;intro a H
  refine k5 _ ?_;clear k5 K5
  refine wp_ret ?_
  refine ret2 (fn:=Tryz.f12) rfl H G G ?_
  exact .inl ⟨hc1,rfl,(S.sel [] G G)⟩
 have hte:taskE y l=0:=by omega
 have htk0:=Ek hte
 have hok:=rL htk0.1
 have htk:∀ k,k<l.length→tskI y (l.getD k Tsk.zero):=fun k hk=>Vt (htk0.2.2 k hk)
 refine wp_skip ?_
 refine k2 _ _ ?_
 refine seq_list fun K6 k6=>?_
 refine ls 1 H<|sd ((aE gF jQ rfl S (i:=0) G G))<|sE ?_;clear H a;intro a H
 refine aA H G G Tryz.func40 G G (Sd y _) ?_;clear H a
 rintro _ _ a ⟨cb,bl,bs,bk,rfl,S2⟩ H
 replace S:=S.call S2;clear S2
 refine ls 1 H<|sr 1 rfl<|sE ?_;clear H a;intro a H
 refine aA H G G Tryz.func41 G G (Sg y cb bl bs bk l LA lc _ _ ((S.sel [0,1,2,3] G G).startR) (hy.nowR (S.sel [0,1,2,3] G G)) hyb hok (hl.nowR (S.sel [0,1,2,3] G G)) hln htk) ?_;clear H a
 rintro _ _ a ⟨A6,c6,rfl,S2⟩ H
 replace S:=St.callR (M:=[_,_,_,_]) (S.sel [0,1,2,3,4] G G) S2;clear S2
 refine ls 2 H<|sr 2 rfl<|sE ?_;clear H a;intro a H
 refine k6 _ _ ?_;clear k6 K6
 refine wp_ret ?_
 refine ret2 (fn:=Tryz.f12) rfl H G G ?_
 exact .inr ⟨hte,A6,c6,rfl,(S.sel [0] G G)⟩
end
end Go.Proofs.YtinghmelkmblmaaGreat
