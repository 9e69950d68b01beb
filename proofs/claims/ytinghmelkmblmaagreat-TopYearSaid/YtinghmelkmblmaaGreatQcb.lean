/- Part 2 of the proof. -/
import Derived.Test.YtinghmelkmblmaaGreatQca
namespace Go.Proofs.YtinghmelkmblmaaGreat
open Go.RowKit
set_option linter.unusedVariables false
set_option linter.unusedSimpArgs false
set_option maxRecDepth 100000
set_option maxHeartbeats 4000000
section
theorem St.back {w0 w w':World} {F0:Nat→Prop} {m:Mem} (S:St w0 F0 [m] w) (S':St w (fps [m]) [m] w'):St w0 F0 [m] w':=St.callR (M:=[m]) (R:=[]) S S'
theorem qJ {P:Program} {f:Nat} {vs:Array Value} {w:World} {R R':Value→World→Prop} (h:Calls P f vs w (Ret R)) (k:∀ v w',R v w'→R' v w'):Calls P f vs w (Ret R'):=Calls.mono h fun e w' he=>by
 cases e with
 | returned v=>exact k v w' he
 | _=>exact he
theorem xH (l : List Int) (A : Option Addr) (cp : Nat) (f : Nat) (fn : Func) (fs cs : List Value) (p : Int → Bool) (m : Mem) (w : World) (F : Nat → Prop) (S : St w F [m] w) (hl : InS w F 1 A l.length (icl l)) (hn : l.length ≤ 9223372036854775807) (hf : Tryz.prog.funcs[f]? = some fn) (hfb : fn.body.isNone = false) (hfn : (fn.name == "runtime.NumGoroutine") = false) (hcall : ∀ (k : Nat) (w' : World), k < l.length → St w F [m] w' → Calls Tryz.prog f (fs ++ [Value.int .i64 (l.getD k 0)] ++ cs).toArray w' (Ret fun v w'' => v = .bool (p (l.getD k 0)) ∧ St w' (fps [m]) [m] w'')) :
    Calls Tryz.prog 85 [.slice A l.length cp,.func (.func f) fs.toArray cs.toArray].toArray w (Ret (fun u w'=>∃ n:Int,u = .int .i64 n∧decide (0≤n)=l.any p∧St w F [m] w')):=by
 refine enter Tryz.func85 rfl Tryz.ntmps85 rfl (fun a H=>?_)
 skip
 refine sS H fun K1 k1=>sr 1 G<|sE ?_;intro a H
 refine k1 _ ?_;refine wp_seq_k fun K2 k2=>?_
 refine sS H fun K3 k3=>sr 1 G<|sL aP rfl<|sr 1 G<|sE ?_;intro a H
 refine k3 _ ?_;refine wp_block ?_;refine loop_st (X:=Nat) (R0:=_) [0,1,7] H rfl (fun k=>[(8,.int .i64 (k:Int))]) (fun k=>[m]) (fun g k=>k≤l.length∧g+k=l.length∧(l.take k).any p=false) (l.length) 0 ?_ (S.sel [0] G G) (H.keep [8,0,1,7] rfl) ?_
 · exact ⟨by omega,by omega,by simp⟩
 clear H S a;intro g1 x1 a w1 hp S H K4 k4;obtain ⟨k,rfl⟩:∃ y,y=x1:=⟨_,rfl⟩;refine sS H fun K5 k5=>sr 1 G<|sE ?_;intro a H
 refine k5 _ ?_;refine wp_seq_k fun K6 k6=>?_
 refine condL H rfl (fun hc1=>?_) (fun hc1=>?_)
 ·skip
  refine wp_skip ?_;refine k6 _ _ ?_;refine wp_seq_k fun K7 k7=>?_
  refine wp_block ?_;refine sS H fun K8 k8=>sr 2 G<|sE ?_;intro a H
  refine k8 _ ?_;refine seq_list fun K9 k9=>?_
  refine ls 5 H<|sr 3 G<|si aP aX G G (hl.adr (by omega)) (by omega)<|slm aD rfl (hl.rd S (by omega) (by omega))<|sE ?_;intro a H
  have S1:=(S.sel [0] G G)
  refine iS (fs:=fs) (cs:=cs) (vs:=[.int .i64 (l.getD k 0)]) H G G G hf hfb hfn (hcall k _ (by omega) S1) ?_;clear H a
  rintro _ _ a ⟨rfl,S2⟩ H;replace S:=(S.sel [0] rfl rfl).callR (M:=[_]) S2;clear S1 S2;refine k9 _ _ ?_;refine cond_ H rfl (fun hc2=>?_) (fun hc2=>?_)
  ·skip
   try simp only [oz] at hc2
   replace H:=H.keep [5] rfl;refine sS H fun K10 k10=>sr 2 G<|sE ?_;intro a H
   refine k10 _ ?_;refine wp_ret ?_;refine ret1 (fn:=Tryz.f85) rfl H rfl ?_;exact ⟨_,rfl,by rw [Ut (k:=k) (by omega) (by simpa using hc2)];simp,(S.sel [0] G G)⟩
  try simp only [oz] at hc2
  refine wp_skip ?_;refine k7 _ _ ?_;refine sO H<|sd (aI G G (by unfold i64ok;omega))<|sr 1 G<|sE ?_;intro a H
  exact k4 (g1-1) (k+1) a _ (by omega) (⟨by omega,by omega,Km (by omega) hp.2.2 (by simpa using hc2)⟩) (S.sel [0] G G) (H.keep [8,0,1,7] rfl)
 refine wp_exit ?_;refine k2 _ _ ?_;refine sS H fun K12 k12=>sr 1 G<|sE ?_;intro a H
 refine k12 _ ?_;refine wp_ret ?_;refine ret1 (fn:=Tryz.f85) rfl H rfl ?_;refine ⟨_,rfl,?_,(S.sel [0] G G)⟩;rw [List.take_of_length_le (by omega)] at hp;rw [hp.2.2];rfl
theorem dT (l : List Int) (A : Option Addr) (cp : Nat) (f : Nat) (fn : Func) (fs cs : List Value) (p : Int → Bool) (m : Mem) (w : World) (F : Nat → Prop) (S : St w F [m] w) (hl : InS w F 1 A l.length (icl l)) (hn : l.length ≤ 9223372036854775807) (hf : Tryz.prog.funcs[f]? = some fn) (hfb : fn.body.isNone = false) (hfn : (fn.name == "runtime.NumGoroutine") = false) (hcall : ∀ (k : Nat) (w' : World), k < l.length → St w F [m] w' → Calls Tryz.prog f (fs ++ [Value.int .i64 (l.getD k 0)] ++ cs).toArray w' (Ret fun v w'' => v = .bool (p (l.getD k 0)) ∧ St w' (fps [m]) [m] w'')) :
    Calls Tryz.prog 43 [.slice A l.length cp,.func (.func f) fs.toArray cs.toArray].toArray w (Ret (fun u w'=>u = .bool (l.any p)∧St w F [m] w')):=by
 refine enter Tryz.func43 rfl Tryz.ntmps43 rfl (fun a H=>?_)
 skip
 refine sS H fun K1 k1=>sr 1 G<|sE ?_;intro a H
 refine k1 _ ?_;refine seq_list fun K2 k2=>?_
 refine ls 2 H<|sr 2 G<|sE ?_;intro a H
 have S1:=(S.sel [0] G G)
 refine aA H G G Tryz.func85 G G (xH l A cp f fn fs cs p m _ _ S1.startR (hl.nowR S1) hn hf hfb hfn (fun k w' hk S'=>hcall k w' hk (St.back S1 S'))) ?_;clear H a
 rintro _ _ a ⟨n9,rfl,hn9,S2⟩ H;replace S:=(S.sel [0] rfl rfl).callR (M:=[_]) S2;clear S1 S2;refine ls 2 H<|sr 2 G<|sE ?_;intro a H
 refine k2 _ _ ?_;refine wp_ret ?_;refine ret1 (fn:=Tryz.f43) rfl H rfl ?_;exact ⟨congrArg Value.bool hn9,(S.sel [0] G G)⟩
theorem zV (hz:Int) (sw:List Int) (SA:Option Addr) (sc:Nat) (ws:List Wr) (QA:Option Addr) (qc:Nat) (OA:Nat→Option Addr) (oc:Nat→Nat) (ha cl op:Int) (x:Int) (w:World) (F:Nat→Prop) (hsw:InS w noF 1 SA sw.length (icl sw)) (V:CirV hz sw ws) (hha:0≤ha∧ha≤4095) (hcl:0≤cl∧cl≤4095) (hop:0≤op∧op≤4095) (hx:0≤x∧x<sw.length) :
    Calls Tryz.prog 154 [.agg [.int .i64 hz,.slice SA sw.length sc,.slice QA ws.length qc,.int .i64 ha,.int .i64 cl,.int .i64 op].toArray,.int .i64 x].toArray w (Ret (fun u w'=>u = .bool (condB sw ha cl op x)∧St w noF [] w')):=by
 have hn12:=V.nsw
 have hsb:=V.swb x.toNat (by omega)
 refine enter Tryz.func154 rfl Tryz.ntmps154 rfl (fun a H=>?_)
 have S:=St.start w
 refine seq_list fun K1 k1=>?_
 refine aO H rfl S G G ?_;intro b2 _ a hb2 hbw2 S H
 refine ls 1 H<|sr 1 G<|sE ?_;intro a H
 refine k1 _ _ ?_;replace H:=H.keep [1,2] rfl;replace S:=S.drew
 refine sD H fun K2 k2=>sf Ol rfl<|sl S 0 aD G G G<|sr 1 G<|sd (gV G G (by omega) (by omega))<|sd (fO G G)<|sr 2 G<|sg 18 6 11 29 true G G (fun hg7=>by
     have hq7:=hg7;try simp only [oz] at hq7
     exact sy hg7<|sf Oj rfl<|sy hg7<|sl S 0 aD G G G<|sy hg7<|sr 1 G<|sy hg7<|sd (gV G G (by omega) (by omega))<|sy hg7<|sd (fO G G)<|sy hg7<|sr 1 G<|sy hg7<|sr 1 G<|sg 10 13 18 28 false G G (fun hg14=>by
          have hq14:=hg14;try simp only [oz] at hq14
          exact sy hg14<|sf Ch rfl<|sy hg14<|sf jU rfl<|sy hg14<|sl S 0 bE G G G<|sy hg14<|sr 1 G<|sy hg14<|sI aP aX G G (hsw.adr (by omega)) (by omega) (by omega)<|sy hg14<|slm aD rfl (hsw.rd S (by omega) (by omega))<|sy hg14<|sf Oi rfl<|sy hg14<|sl S 0 aD G G G<|sy hg14<|sd (xV G G (by omega) (by omega))<|sy hg14<|sr 1 G<|sz 10 G G G)<|sy hg7<|so G G G<|sz 9 G G G)<|sa G G G<|sr 1 G<|sE ?_;intro a H
 refine k2 _ ?_;refine wp_ret ?_;refine ret1 (fn:=Tryz.f154) rfl H rfl ?_;exact ⟨rfl,(S.sel [] G G)⟩
theorem Kn (hz:Int) (sw:List Int) (SA:Option Addr) (sc:Nat) (ws:List Wr) (QA:Option Addr) (qc:Nat) (OA:Nat→Option Addr) (oc:Nat→Nat) (ha cl op:Int) (n sb:Nat) (x:Int) (w:World) (F:Nat→Prop) (S:St w F [boxM sb 236 [.int .i64 hz,.slice SA sw.length sc,.slice QA ws.length qc,.int .i64 ha,.int .i64 cl,.int .i64 op]] w) (hsw:InS w F 1 SA sw.length (icl sw)) (hws:InS w F 2 QA ws.length (gJ ws OA oc)) (hof:∀ k,k<ws.length→InS w F 1 (OA k) (ws.getD k Wr.zero).of.length (icl (ws.getD k Wr.zero).of)) (hx:0≤x∧x<ws.length) (hxn:ws.length-x.toNat≤n) (ih:∀ (x:Int) (w:World),0≤x∧x<ws.length→ws.length-x.toNat≤n→InS w noF 1 SA sw.length (icl sw)→InS w noF 2 QA ws.length (gJ ws OA oc)→(∀ k,k<ws.length→InS w noF 1 (OA k) (ws.getD k Wr.zero).of.length (icl (ws.getD k Wr.zero).of))→Calls Tryz.prog 122 [.agg [.int .i64 hz,.slice SA sw.length sc,.slice QA ws.length qc,.int .i64 ha,.int .i64 cl,.int .i64 op].toArray,.int .i64 x].toArray w (Ret fun u w'=>u = .bool (wireB sw ws ha cl op n x.toNat)∧St w noF [] w')) :
    Calls Tryz.prog 155 [.int .i64 x,.pointer (some ⟨sb,0,none⟩)].toArray w (Ret (fun u w'=>u = .bool (!wireB sw ws ha cl op n x.toNat)∧St w F [boxM sb 236 [.int .i64 hz,.slice SA sw.length sc,.slice QA ws.length qc,.int .i64 ha,.int .i64 cl,.int .i64 op]] w')):=by
 refine enter Tryz.func155 rfl Tryz.ntmps155 rfl (fun a H=>?_)
 skip
 refine sS H fun K1 k1=>sr 1 G<|sE ?_;intro a H
 refine k1 _ ?_;refine seq_list fun K2 k2=>?_
 refine ls 2 H<|sd ((aB zL Fi rfl S (i:=0) G G))<|sr 1 G<|sE ?_;intro a H
 refine aA H G G Tryz.func122 G G (ih x _ hx hxn (hsw.now S) (hws.now S) (fun k hk=>(hof k hk).now S)) ?_;clear H a
 rintro _ _ a ⟨rfl,S2⟩ H;replace S:=S.call S2;clear S2;refine ls 2 H<|sr 2 G<|sE ?_;intro a H
 refine k2 _ _ ?_;refine wp_ret ?_;refine ret1 (fn:=Tryz.f155) rfl H rfl ?_;exact ⟨rfl,(S.sel [0] G G)⟩
theorem Uu (hz:Int) (sw:List Int) (SA:Option Addr) (sc:Nat) (ws:List Wr) (QA:Option Addr) (qc:Nat) (OA:Nat→Option Addr) (oc:Nat→Nat) (ha cl op:Int) (n:Nat) (y:Int) (sb:Nat) (w:World) (F:Nat→Prop) (S:St w F [boxM sb 236 [.int .i64 hz,.slice SA sw.length sc,.slice QA ws.length qc,.int .i64 ha,.int .i64 cl,.int .i64 op]] w) (hsw:InS w F 1 SA sw.length (icl sw)) (hws:InS w F 2 QA ws.length (gJ ws OA oc)) (hof:∀ k,k<ws.length→InS w F 1 (OA k) (ws.getD k Wr.zero).of.length (icl (ws.getD k Wr.zero).of)) (V:CirV hz sw ws) (hy:0≤y∧y<ws.length) (hyn:ws.length-y.toNat≤n+1) (hc1:¬ (ws.getD y.toNat Wr.zero).kind=1) (ih:∀ (x:Int) (w:World),0≤x∧x<ws.length→ws.length-x.toNat≤n→InS w noF 1 SA sw.length (icl sw)→InS w noF 2 QA ws.length (gJ ws OA oc)→(∀ k,k<ws.length→InS w noF 1 (OA k) (ws.getD k Wr.zero).of.length (icl (ws.getD k Wr.zero).of))→Calls Tryz.prog 122 [.agg [.int .i64 hz,.slice SA sw.length sc,.slice QA ws.length qc,.int .i64 ha,.int .i64 cl,.int .i64 op].toArray,.int .i64 x].toArray w (Ret fun u w'=>u = .bool (wireB sw ws ha cl op n x.toNat)∧St w noF [] w')):Calls Tryz.prog 43 #[.slice (OA y.toNat) (ws.getD y.toNat Wr.zero).of.length (oc y.toNat),.func (.func 122) #[.agg [.int .i64 hz,.slice SA sw.length sc,.slice QA ws.length qc,.int .i64 ha,.int .i64 cl,.int .i64 op].toArray] #[]] w (Ret fun u w'=>u = .bool ((ws.getD y.toNat Wr.zero).of.any (fun k=>wireB sw ws ha cl op n k.toNat))∧St w F [boxM sb 236 [.int .i64 hz,.slice SA sw.length sc,.slice QA ws.length qc,.int .i64 ha,.int .i64 cl,.int .i64 op]] w'):=by
 have hmo:=V.more y.toNat (by omega)
 have hln:=(hmo hc1).1
 have hnw:=V.nws
 have hh:=dT (ws.getD y.toNat Wr.zero).of (OA y.toNat) (oc y.toNat) 122 _ [.agg [.int .i64 hz,.slice SA sw.length sc,.slice QA ws.length qc,.int .i64 ha,.int .i64 cl,.int .i64 op].toArray] [] (fun k=>wireB sw ws ha cl op n k.toNat) _ w F S (hof y.toNat (by omega)) (by omega) Tryz.func122 G G (fun k w' hk S'=>by
  have h9:=(hmo hc1).2 k hk
  have S9:=S'
  exact qJ (ih ((ws.getD y.toNat Wr.zero).of.getD k 0) w' (by omega) (by omega) (hsw.now S9) (hws.now S9) (fun q hq=>(hof q hq).now S9)) fun v w'' h=>⟨h.1,S'.startR.call h.2⟩)
 exact hh
theorem Uv (hz:Int) (sw:List Int) (SA:Option Addr) (sc:Nat) (ws:List Wr) (QA:Option Addr) (qc:Nat) (OA:Nat→Option Addr) (oc:Nat→Nat) (ha cl op:Int) (n:Nat) (y:Int) (sb:Nat) (w:World) (F:Nat→Prop) (S:St w F [boxM sb 236 [.int .i64 hz,.slice SA sw.length sc,.slice QA ws.length qc,.int .i64 ha,.int .i64 cl,.int .i64 op]] w) (hsw:InS w F 1 SA sw.length (icl sw)) (hws:InS w F 2 QA ws.length (gJ ws OA oc)) (hof:∀ k,k<ws.length→InS w F 1 (OA k) (ws.getD k Wr.zero).of.length (icl (ws.getD k Wr.zero).of)) (V:CirV hz sw ws) (hy:0≤y∧y<ws.length) (hyn:ws.length-y.toNat≤n+1) (hc1:¬ (ws.getD y.toNat Wr.zero).kind=1) (ih:∀ (x:Int) (w:World),0≤x∧x<ws.length→ws.length-x.toNat≤n→InS w noF 1 SA sw.length (icl sw)→InS w noF 2 QA ws.length (gJ ws OA oc)→(∀ k,k<ws.length→InS w noF 1 (OA k) (ws.getD k Wr.zero).of.length (icl (ws.getD k Wr.zero).of))→Calls Tryz.prog 122 [.agg [.int .i64 hz,.slice SA sw.length sc,.slice QA ws.length qc,.int .i64 ha,.int .i64 cl,.int .i64 op].toArray,.int .i64 x].toArray w (Ret fun u w'=>u = .bool (wireB sw ws ha cl op n x.toNat)∧St w noF [] w')):Calls Tryz.prog 43 #[.slice (OA y.toNat) (ws.getD y.toNat Wr.zero).of.length (oc y.toNat),.func (.func 155) #[] #[.pointer (some ⟨sb,0,none⟩)]] w (Ret fun u w'=>u = .bool ((ws.getD y.toNat Wr.zero).of.any (fun k=>!wireB sw ws ha cl op n k.toNat))∧St w F [boxM sb 236 [.int .i64 hz,.slice SA sw.length sc,.slice QA ws.length qc,.int .i64 ha,.int .i64 cl,.int .i64 op]] w'):=by
 have hmo:=V.more y.toNat (by omega)
 have hln:=(hmo hc1).1
 have hnw:=V.nws
 have hh:=dT (ws.getD y.toNat Wr.zero).of (OA y.toNat) (oc y.toNat) 155 _ [] [.pointer (some ⟨sb,0,none⟩)] (fun k=>!wireB sw ws ha cl op n k.toNat) _ w F S (hof y.toNat (by omega)) (by omega) Tryz.func155 G G (fun k w' hk S'=>by
  have h9:=(hmo hc1).2 k hk
  have S9:=S'
  exact Kn hz sw SA sc ws QA qc OA oc ha cl op n sb ((ws.getD y.toNat Wr.zero).of.getD k 0) w' _ S'.startR (hsw.nowR S9) (hws.nowR S9) (fun q hq=>(hof q hq).nowR S9) (by omega) (by omega) ih)
 exact hh
theorem xI (hz:Int) (sw:List Int) (SA:Option Addr) (sc:Nat) (ws:List Wr) (QA:Option Addr) (qc:Nat) (OA:Nat→Option Addr) (oc:Nat→Nat) (ha cl op:Int) (n:Nat) (y:Int) (w:World) (hsw:InS w noF 1 SA sw.length (icl sw)) (hws:InS w noF 2 QA ws.length (gJ ws OA oc)) (hof:∀ k,k<ws.length→InS w noF 1 (OA k) (ws.getD k Wr.zero).of.length (icl (ws.getD k Wr.zero).of)) (V:CirV hz sw ws) (hha:0≤ha∧ha≤4095) (hcl:0≤cl∧cl≤4095) (hop:0≤op∧op≤4095) (hy:0≤y∧y<ws.length) (hyn:ws.length-y.toNat≤n+1) (ih:∀ (x:Int) (w:World),0≤x∧x<ws.length→ws.length-x.toNat≤n→InS w noF 1 SA sw.length (icl sw)→InS w noF 2 QA ws.length (gJ ws OA oc)→(∀ k,k<ws.length→InS w noF 1 (OA k) (ws.getD k Wr.zero).of.length (icl (ws.getD k Wr.zero).of))→Calls Tryz.prog 122 [.agg [.int .i64 hz,.slice SA sw.length sc,.slice QA ws.length qc,.int .i64 ha,.int .i64 cl,.int .i64 op].toArray,.int .i64 x].toArray w (Ret fun u w'=>u = .bool (wireB sw ws ha cl op n x.toNat)∧St w noF [] w')) :
    Calls Tryz.prog 122 [.agg [.int .i64 hz,.slice SA sw.length sc,.slice QA ws.length qc,.int .i64 ha,.int .i64 cl,.int .i64 op].toArray,.int .i64 y].toArray w (Ret (fun u w'=>u = .bool (wireB sw ws ha cl op (n+1) y.toNat)∧St w noF [] w')):=by
 have hnw:=V.nws
 have hmo:=V.more y.toNat (by omega)
 have hon:=V.one y.toNat (by omega)
 refine enter Tryz.func122 rfl Tryz.ntmps122 rfl (fun a H=>?_)
 have S:=St.start w
 refine seq_list fun K1 k1=>?_
 refine aO H rfl S G G ?_;intro b2 _ a hb2 hbw2 S H
 refine ls 1 H<|sr 1 G<|sE ?_;intro a H
 refine k1 _ _ ?_;replace H:=H.keep [1,2] rfl;refine seq_list fun K2 k2=>?_
 refine ls 6 H<|sf Ch rfl<|sf kN rfl<|sl S 0 mC G G G<|sr 1 G<|sI mG oW G G (hws.adr (by omega)) (by omega) (by omega)<|sd ((aU Hj oW rfl S hws (by omega) (by omega)))<|sE ?_;intro a H
 refine aJ H rfl S zT ?_;intro b5 _ a hb5 hbw5 S H
 refine aE H S (i:=0) G G G G oW G G ?_
 clear H a S;intro _ a S H;refine k2 _ _ ?_;refine wp_seq_k fun K3 k3=>?_
 replace H:=H.keep [2,5] rfl;refine sS H fun K4 k4=>sf Cf rfl<|sl S 0 aD G G G<|sE ?_;intro a H
 refine k4 _ ?_;refine wp_block ?_;refine sS H fun K5 k5=>sr 2 G<|sE ?_;intro a H
 refine k5 _ ?_;refine condE H rfl (fun hc1=>?_) (fun hc1=>?_)
 ·skip
  replace H:=H.keep [2,5] rfl;replace S:=S.drew;refine seq_wq [(0,true),(1,true),(2,true),(3,true),(4,true),(5,false),(6,true)] (by kernel_rfl) (by kernel_rfl) (S.sel [0,1] G G) fun K6 k6=>?_
  refine qF H<|qd G (fun _ S=>(aB zL Fi rfl S (i:=1) G G))<|qd G (fun _ S=>(aC eT rfl))<|qd G (fun _ S=>aF bE rfl (aEh S (i:=0) G G))<|qd G (fun _ S=>bZ aP aX G G ((hof y.toNat (by omega)).adr (by omega)) (by omega) (by omega))<|qd G (fun _ S=>aF aD rfl ((hof y.toNat (by omega)).rd S (by omega) (by omega)))<|qK ?_;intro a H
  refine aT rfl ?_
  refine aA H G G Tryz.func154 G G (zV hz sw SA sc ws QA qc OA oc ha cl op ((ws.getD y.toNat Wr.zero).of.getD 0 0) _ noF (hsw.now S) V hha hcl hop (by have:=hon hc1;omega)) ?_;clear H a
  rintro _ _ a ⟨rfl,S2⟩ H;replace S:=S.call S2;clear S2;refine wpList_nil (And.intro (S.sel [0,1] rfl rfl) ?_);refine qF H<|qr 1 G<|qK ?_;intro a H
  refine bL ?_
  refine k6 _ _ ?_;refine wp_ret ?_;refine ret1 (fn:=Tryz.f122) rfl H rfl ?_;refine ⟨congrArg Value.bool ?_,(S.sel [] G G)⟩;rw [wireB,if_pos hc1]
 refine sS H fun K7 k7=>sr 2 G<|sE ?_;intro a H
 refine k7 _ ?_;refine condE H rfl (fun hc2=>?_) (fun hc2=>?_)
 ·skip
  replace H:=H.keep [2,5] rfl;refine seq_list fun K8 k8=>?_
  refine ls 4 H<|sf eT rfl<|sl S 0 bE G G G<|sd ((aB zL Fi rfl S (i:=1) G G))<|sr 1 G<|sE ?_;intro a H
  have S1:=(S.sel [1] G G)
  refine aA H G G Tryz.func43 G G (Uu hz sw SA sc ws QA qc OA oc ha cl op n y b2 _ _ S1.startR ((hsw.nowR S1)) (hws.nowR S1) (fun k hk=>(hof k hk).nowR S1) V hy hyn hc1 ih) ?_;clear H a
  rintro _ _ a ⟨rfl,S2⟩ H;replace S:=(S.sel [1,0] rfl rfl).callR (M:=[_]) S2;clear S1 S2;refine ls 1 H<|sr 1 G<|sE ?_;intro a H
  refine k8 _ _ ?_;refine wp_ret ?_;refine ret1 (fn:=Tryz.f122) rfl H rfl ?_;refine ⟨congrArg Value.bool ?_,(S.sel [] G G)⟩;rw [wireB,if_neg hc1,if_pos hc2]
 skip
 refine wp_skip ?_;refine k3 _ _ ?_;replace H:=H.keep [2,5] rfl;refine seq_list fun K9 k9=>?_
 refine ls 3 H<|sf eT rfl<|sl S 0 bE G G G<|sr 1 G<|sE ?_;intro a H
 have S1:=(S.sel [1] G G)
 refine aA H G G Tryz.func43 G G (Uv hz sw SA sc ws QA qc OA oc ha cl op n y b2 _ _ S1.startR ((hsw.nowR S1)) (hws.nowR S1) (fun k hk=>(hof k hk).nowR S1) V hy hyn hc1 ih) ?_;clear H a
 rintro _ _ a ⟨rfl,S2⟩ H;replace S:=(S.sel [1,0] rfl rfl).callR (M:=[_]) S2;clear S1 S2;refine ls 2 H<|sr 2 G<|sE ?_;intro a H
 refine k9 _ _ ?_;refine wp_ret ?_;refine ret1 (fn:=Tryz.f122) rfl H rfl ?_;refine ⟨congrArg Value.bool ?_,(S.sel [] G G)⟩;rw [wireB,if_neg hc1,if_neg hc2]
theorem Ps (hz:Int) (sw:List Int) (SA:Option Addr) (sc:Nat) (ws:List Wr) (QA:Option Addr) (qc:Nat) (OA:Nat→Option Addr) (oc:Nat→Nat) (ha cl op:Int) (V:CirV hz sw ws) (hha:0≤ha∧ha≤4095) (hcl:0≤cl∧cl≤4095) (hop:0≤op∧op≤4095):∀ n:Nat,∀ (x:Int) (w:World),0≤x∧x<ws.length→ws.length-x.toNat≤n→InS w noF 1 SA sw.length (icl sw)→InS w noF 2 QA ws.length (gJ ws OA oc)→(∀ k,k<ws.length→InS w noF 1 (OA k) (ws.getD k Wr.zero).of.length (icl (ws.getD k Wr.zero).of))→Calls Tryz.prog 122 [.agg [.int .i64 hz,.slice SA sw.length sc,.slice QA ws.length qc,.int .i64 ha,.int .i64 cl,.int .i64 op].toArray,.int .i64 x].toArray w (Ret fun u w'=>u = .bool (wireB sw ws ha cl op n x.toNat)∧St w noF [] w'):=by
 intro n;induction n with
 | zero=>intro x w hx hxn;omega
 | succ n ih=>intro x w hx hxn h1 h2 h3;exact xI hz sw SA sc ws QA qc OA oc ha cl op n x w h1 h2 h3 V hha hcl hop hx hxn ih
end
section
theorem vK {l:List Int} {x:Int} {v:Value} (hv:v = .int .i64 x):∀ k j,k<l.length+1→j<1→capp l.length (icl l) (fun k' j=>([[v]].getD k' []).getD j undef) k j=icl (l++[x]) k j:=by
  subst hv;intro k j hk hj;unfold capp icl;by_cases h:k<l.length
  · rw [if_pos h]
    simp only [List.getD_eq_getElem?_getD,List.getElem?_append_left h]
  · rw [if_neg h]
    obtain rfl:k=l.length:=by omega
    obtain rfl:j=0:=by omega
    simp
theorem pwc {h:Nat} (hh:h<12):0≤(1:Int)*2^(h:Int).toNat∧(1:Int)*2^(h:Int).toNat≤2048:=by
 rw [Int.toNat_natCast,Int.one_mul];have h8:2^h≤2048:=Nat.le_trans (Nat.pow_le_pow_right (by omega) (show h≤11 by omega)) (by decide);have e:(2:Int)^h=((2^h:Nat):Int):=(Int.natCast_pow 2 h).symm;rw [e];exact ⟨Int.natCast_nonneg _,Int.ofNat_le.2 h8⟩
def wkN (hz:Int) (sw:List Int) (ws:List Wr) (cl:Int):Nat→List Int
 | 0=>[]
 | h+1=>if wireB sw ws (1*2^(h:Int).toNat) cl 0 ws.length (Int.toNat 0)=true then wkN hz sw ws cl h++[(h:Int)] else wkN hz sw ws cl h
theorem tX {hz cl:Int} {sw:List Int} {ws:List Wr}:∀ h,(wkN hz sw ws cl h).length≤h:=fun h=>by
 induction h with
 | zero=>exact Nat.le_refl _
 | succ h ih=>rw [wkN];split <;> (try rw [List.length_append,List.length_singleton]) <;> omega
def critN (hz:Int) (sw:List Int) (ws:List Wr):Nat→List Int
 | 0=>[]
 | s+1=>if 0<(wkN hz sw ws (1*2^(s:Int).toNat) hz.toNat).length then critN hz sw ws s++[(s:Int)] else critN hz sw ws s
theorem xW {hz:Int} {sw:List Int} {ws:List Wr}:∀ h,(critN hz sw ws h).length≤h:=fun h=>by
 induction h with
 | zero=>exact Nat.le_refl _
 | succ h ih=>rw [critN];split <;> (try rw [List.length_append,List.length_singleton]) <;> omega
theorem vL {k sz:Nat} {cell:Nat→Nat→Value} {vs:List Value} (h:∀ j,j<sz→vs.getD j undef=cell k j):∀ q j,q<k+1→j<sz→capp k cell (fun k' j=>([vs].getD k' []).getD j undef) q j=cell q j:=by
  intro q j hq hj;unfold capp;by_cases hc:q<k
  · rw [if_pos hc]
  · rw [if_neg hc]
    obtain rfl:q=k:=by omega
    rw [←h j hj];simp
theorem one {p:Nat→Prop} (h0:p 0):∀ j,j<1→p j:=by
 intro j hj;have:j=0:=by omega
 subst this;exact h0
theorem jA {sz:Nat} {vs:List Value} (h:∀ j,j<sz→(vs.getD j undef).oneCell'=true):∀ k j,k<1→j<sz→(([vs].getD k []).getD j undef).oneCell'=true:=by
 intro k j hk hj;have e:k=0:=by omega
 subst e;exact h j hj
theorem Ck (hz:Int) (sw:List Int) (SA:Option Addr) (sc:Nat) (ws:List Wr) (QA:Option Addr) (qc:Nat) (OA:Nat→Option Addr) (oc:Nat→Nat) (cl:Int) (w:World) (hsw:InS w noF 1 SA sw.length (icl sw)) (hws:InS w noF 2 QA ws.length (gJ ws OA oc)) (hof:∀ k,k<ws.length→InS w noF 1 (OA k) (ws.getD k Wr.zero).of.length (icl (ws.getD k Wr.zero).of)) (V:CirV hz sw ws) (hcl:0≤cl∧cl≤4095) :
    Calls Tryz.prog 79 [.agg [.int .i64 hz,.slice SA sw.length sc,.slice QA ws.length qc].toArray,.int .i64 cl].toArray w (Ret (fun u w'=>∃ A' c',u = .slice A' (wkN hz sw ws cl hz.toNat).length c'∧St w noF [ownM 3 1 A' (wkN hz sw ws cl hz.toNat).length c' (icl (wkN hz sw ws cl hz.toNat))] w')):=by
 have hzb:=V.hzb
 have hnw:=V.nws
 refine enter Tryz.func79 rfl Tryz.ntmps79 rfl (fun a H=>?_)
 have S:=St.start w
 refine seq_list fun K1 k1=>?_
 refine aO H rfl S G G ?_;intro b2 _ a hb2 hbw2 S H
 refine ls 1 H<|sr 1 G<|sE ?_;intro a H
 refine k1 _ _ ?_;refine wp_seq_k fun K2 k2=>?_
 refine sS H fun K3 k3=>sf qG rfl<|sl S 0 aD G G G<|sr 1 G<|sE ?_;intro a H
 refine k3 _ ?_;refine wp_block ?_;replace S:=S.newNil 3 1 (icl []);refine loop_st (X:=Nat×List Int×Option Addr×Nat) (R0:=_) [1,2,7] H rfl (fun ⟨h,L9,A9,c9⟩=>[(4,.slice A9 L9.length c9),(8,.int .i64 (h:Int))]) (fun ⟨h,L9,A9,c9⟩=>[ownM 3 1 A9 L9.length c9 (icl L9)]) (fun g ⟨h,L9,A9,c9⟩=>(h:Int)≤hz∧(g:Int)+h=hz∧L9=wkN hz sw ws cl h) (hz.toNat) (0,[],none,0) ?_ (S.sel [0,1] G G) (H.keep [4,8,1,2,7] rfl) ?_
 · exact ⟨by omega,by omega,rfl⟩
 clear H S a;intro g1 x1 a w1 hp S H K4 k4;obtain ⟨h,L9,A9,c9⟩:=x1;dsimp only at hp S H;refine sS H fun K5 k5=>sr 1 G<|sE ?_;intro a H
 refine k5 _ ?_;refine wp_seq_k fun K6 k6=>?_
 refine condL H rfl (fun hc1=>?_) (fun hc1=>?_)
 ·skip
  refine wp_skip ?_;refine k6 _ _ ?_;refine wp_seq_k fun K7 k7=>?_
  refine wp_block ?_;refine sS H fun K8 k8=>sr 2 G<|sE ?_;intro a H
  refine k8 _ ?_;have hsh:=pwc (h:=h) (by omega);have hL9:L9.length≤h:=by rw [hp.2.2];exact tX h
  replace S:=S.drew;refine seq_wq [(0,true),(1,true),(2,true),(3,true),(4,true),(5,false)] (by kernel_rfl) (by kernel_rfl) (S.sel [0,1] G G) fun K9 k9=>?_
  refine qF H<|qd G (fun _ S=>(aB dS cI rfl S (i:=1) G G))<|qr 1 G<|qd G (fun _ S=>dU G G (by omega) (by omega) (by unfold i64ok;omega))<|qr 1 G<|qd G (fun _ S=>aN aAn G G)<|qK ?_;intro a H
  refine aT rfl ?_
  refine aA H G G Tryz.func122 G G (Ps hz sw SA sc ws QA qc OA oc (1*2^(h:Int).toNat) cl 0 V (by omega) hcl (by omega) ws.length 0 _ (by omega) (by omega) (hsw.now S) (hws.now S) (fun k hk=>(hof k hk).now S)) ?_;clear H a
  rintro _ _ a ⟨rfl,S2⟩ H;replace S:=S.call S2;clear S2;refine wpList_nil (And.intro (S.sel [0,1] rfl rfl) ?_);refine bL ?_;refine k9 _ _ ?_;refine cond_ H rfl (fun hc2=>?_) (fun hc2=>?_)
  ·skip
   try simp only [oz] at hc2
   replace H:=H.keep [1,2,4,5,7,8] rfl;refine one_list ?_;refine ls 2 H<|sr 2 G<|sE ?_;intro a H
   refine aY H rfl S aP aX fD G G G G G G G G G ?_;intro A1 _ a hA1 S H
   refine bM H rfl S aP aX fD mQ G G (i:=1) G G G (aEi S (i:=0) rfl) (jA (one rfl)) (by omega) (by omega) ?_;intro A2 c2 _ a S H
   replace S:=S.recell (i:=1) rfl (cell':=icl (L9++[(h:Int)])) (vK rfl);rw [show L9.length+1=(L9++[(h:Int)]).length by simp] at H S;refine ls 1 H<|sr 1 G<|sE ?_;intro a H
   refine k7 _ _ ?_;refine sO H<|sd (aI G G (by unfold i64ok;omega))<|sr 1 G<|sE ?_;intro a H
   exact k4 (g1-1) (h+1,_,_,_) a _ (by omega) (⟨by omega,by omega,by rw [wkN];first|rw [if_pos hc2,←hp.2.2]|rw [if_neg (by simpa using hc2),←hp.2.2]⟩) (S.sel [1,2] G G) (H.keep [4,8,1,2,7] rfl)
  try simp only [oz] at hc2
  refine wp_skip ?_;refine k7 _ _ ?_;refine sO H<|sd (aI G G (by unfold i64ok;omega))<|sr 1 G<|sE ?_;intro a H
  exact k4 (g1-1) (h+1,_,_,_) a _ (by omega) (⟨by omega,by omega,by rw [wkN];first|rw [if_pos hc2,←hp.2.2]|rw [if_neg (by simpa using hc2),←hp.2.2]⟩) (S.sel [0,1] G G) (H.keep [4,8,1,2,7] rfl)
 refine wp_exit ?_;refine k2 _ _ ?_;replace H:=H.keep [4] rfl;refine sS H fun K13 k13=>sr 2 G<|sE ?_;intro a H
 refine k13 _ ?_;refine wp_ret ?_;refine ret1 (fn:=Tryz.f79) rfl H rfl ?_;have hh9:h=hz.toNat:=by omega
 rw [hh9] at hp;rw [←hp.2.2];exact ⟨_,_,rfl,(S.sel [0] G G)⟩
end
section
structure Psg where
 a:Int
 b:Int
 kind:Int
 ticks:Int
 wide:Int
 mach:Int
 still:Int
def aFf:Psg:=⟨0,0,0,0,0,0,0⟩
def Psg.cell (p:Psg):Nat→Value
 | 0 => .int .i64 p.a
 | 1 => .int .i64 p.b
 | 2 => .int .i64 p.kind
 | 3 => .int .i64 p.ticks
 | 4 => .int .i64 p.wide
 | 5 => .int .i64 p.mach
 | _ => .int .i64 p.still
def pcell (l:List Psg) (k j:Nat):Value:=(l.getD k aFf).cell j
structure Mv where
 pas:Int
 fr:Int
 at_:Int
 many:Int
def aFk:Mv:=⟨0,0,0,0⟩
def Mv.none:Mv:=⟨-1,0,0,0⟩
def Mv.cells (m:Mv):List Value:=[.int .i64 m.pas,.int .i64 m.fr,.int .i64 m.at_,.int .i64 m.many]
def Mv.cell (m:Mv):Nat→Value
 | 0 => .int .i64 m.pas
 | 1 => .int .i64 m.fr
 | 2 => .int .i64 m.at_
 | _ => .int .i64 m.many
structure Ent where
 to:Nat
 room:Int
 back:Nat
 mv:Mv
def Ent.zero:Ent:=⟨0,0,0,aFk⟩
def Ent.cell (x:Ent):Nat→Value
 | 0 => .int .i64 (x.to:Int)
 | 1 => .int .i64 x.room
 | 2 => .int .i64 (x.back:Int)
 | 3 => .int .i64 x.mv.pas
 | 4 => .int .i64 x.mv.fr
 | 5 => .int .i64 x.mv.at_
 | _ => .int .i64 x.mv.many
abbrev Tab:=Nat→List Ent
def tcell (T:Tab) (i k j:Nat):Value:=((T i).getD k Ent.zero).cell j
def hdc (A:Nat→Option Addr) (n c:Nat→Nat) (i _j:Nat):Value := .slice (A i) (n i) (c i)
def tlen (T:Tab) (i:Nat):Nat:=(T i).length
def joinT (T:Tab) (f t:Nat) (room:Int) (mv:Mv):Tab:=
 upd (upd T f (T f++[⟨t,room,(T t).length,mv⟩])) t (T t++[⟨f,0,(T f).length,Mv.none⟩])
def Tab.net (T:Tab) (k:Nat):Net:=⟨k,tlen T,fun i j=>((T i).getD j Ent.zero).to,fun i j=>((T i).getD j Ent.zero).back⟩
def Tab.room (T:Tab):RM:=fun i j=>((T i).getD j Ent.zero).room
def Tab.mv (T:Tab):Nat→Nat→Mv:=fun i j=>((T i).getD j Ent.zero).mv
def edgeC (N:Net) (r:RM) (mv:Nat→Nat→Mv) (i k:Nat):Nat→Value
 | 0 => .int .i64 (N.to i k:Int)
 | 1 => .int .i64 (r i k)
 | 2 => .int .i64 (N.back i k:Int)
 | 3 => .int .i64 (mv i k).pas
 | 4 => .int .i64 (mv i k).fr
 | 5 => .int .i64 (mv i k).at_
 | _ => .int .i64 (mv i k).many
theorem Fv (T:Tab) (k:Nat):tcell T=edgeC (T.net k) T.room T.mv:=by
 funext i q j
 unfold tcell edgeC Ent.cell Tab.net Tab.room Tab.mv
 match j with
 | 0=>rfl
 | 1=>rfl
 | 2=>rfl
 | 3=>rfl
 | 4=>rfl
 | 5=>rfl
 | _+6=>rfl
theorem Ko {N:Net} {r:RM} {mv:Nat→Nat→Mv} {p q:Nat} {v:Int}:upd (edgeC N r mv) p (cput (edgeC N r mv p) q 1 (.int .i64 v))=edgeC N (put2 r p q v) mv:=by
  funext i k j
  unfold upd cput
  by_cases h:i=p
  · subst h
    rw [if_pos rfl];by_cases h2:k=q∧j=1
    · obtain ⟨rfl,rfl⟩:=h2
      rw [if_pos ⟨rfl,rfl⟩];simp only [edgeC,nT]
    · skip
      rw [if_neg h2];match j with
      | 0=>rfl
      | 1=>simp only [edgeC];rw [kC (fun h=>h2 ⟨h.2,rfl⟩)]
      | 2=>rfl
      | 3=>rfl
      | 4=>rfl
      | 5=>rfl
      | _+6=>rfl
  · rw [if_neg h]
    match j with
    | 0=>rfl
    | 1=>simp only [edgeC];rw [kC (fun h2=>h h2.1)]
    | 2=>rfl
    | 3=>rfl
    | 4=>rfl
    | 5=>rfl
    | _+6=>rfl
def lcl (L:Nat→Int) (i _j:Nat):Value := .int .i64 (L i)
def ncl (n:Nat→Nat) (i _j:Nat):Value := .int .i64 (n i:Int)
theorem Uw {n:Nat→Nat} {p v:Nat} {x:Int} (h:x=(v:Int)):cput (ncl n) p 0 (.int .i64 x)=fun i j=>if j=0 then ncl (upd n p v) i j else ncl n i j:=by
 subst h;funext i j;unfold cput ncl upd;by_cases h1:i=p <;> by_cases h2:j=0 <;> simp [h1,h2]
def hasI (l:List Int) (x:Int):Bool:=l.any fun y=>decide (x=y)
structure Hd where
 pas:Int
 fr:Int
 to:Int
 ticks:Int
 wide:Int
def aFl:Hd:=⟨0,0,0,0,0⟩
def Hd.cells (h:Hd):List Value:=[.int .i64 h.pas,.int .i64 h.fr,.int .i64 h.to,.int .i64 h.ticks,.int .i64 h.wide]
def bitI (out m:Int):Int:=out/2^m.toNat%2
def iF (out:Int) (p:Psg):Int:=if p.kind=3∧¬ bitI out p.mach=0 then p.still else p.ticks
def mI (out:Int) (p:Psg):Bool:=!(decide (p.kind=3)&&decide (bitI out p.mach=0))
theorem Pt {out:Int} {p:Psg} (h:p.kind=3∧out/2^p.mach.toNat%2=0):false=mI out p:=by unfold mI bitI;rw [decide_eq_true h.1,decide_eq_true h.2];rfl
theorem Cl {out:Int} {p:Psg} (h:¬ p.kind=3∨¬ out/2^p.mach.toNat%2=0):true=mI out p:=by
 unfold mI bitI
 rcases h with h|h
 ·rw [decide_eq_false h];rfl
 ·rw [decide_eq_false h,Bool.and_false];rfl
def hdsA (out:Int) (xs:List Int) (k:Nat) (p:Psg):List Hd:=if hasI xs p.a=true then [] else [⟨k,p.a,p.b,iF out p,p.wide⟩]
def hdsB (out:Int) (xs:List Int) (k:Nat) (p:Psg):List Hd:=if (mI out p&&!hasI xs p.b)=true then [⟨k,p.b,p.a,iF out p,p.wide⟩] else []
def hdsOf (out:Int) (xs:List Int) (k:Nat) (p:Psg):List Hd:=if p.kind=4 then [] else hdsA out xs k p++hdsB out xs k p
def hdsTo (out:Int) (xs:List Int) (ps:List Psg):Nat→List Hd
 | 0=>[]
 | k+1=>hdsTo out xs ps k++hdsOf out xs k (ps.getD k aFf)
def hds (out:Int) (xs:List Int) (ps:List Psg):List Hd:=hdsTo out xs ps ps.length
section
variable {out:Int} {xs:List Int} {ps:List Psg} {k:Nat}
theorem Ux:∀ {n k:Nat},k≤n→∃ t,hdsTo out xs ps n=hdsTo out xs ps k++t:=by
  intro n;induction n with
  | zero => intro k hk;have:k=0:=by omega
            subst this;exact ⟨[],by simp⟩
  | succ n ih=>
    intro k hk;by_cases e:k=n+1
    · subst e;exact ⟨[],by simp⟩
    · obtain ⟨t,ht⟩:=ih (k:=k) (by omega)
      exact ⟨t++hdsOf out xs n (ps.getD n aFf),by rw [hdsTo,ht,List.append_assoc]⟩
theorem Pu (hk:k<ps.length) {j:Nat} {h:Hd} (hj:(hdsOf out xs k (ps.getD k aFf))[j]?=some h):(hds out xs ps).getD ((hdsTo out xs ps k).length+j) aFl=h∧(hdsTo out xs ps k).length+j<(hds out xs ps).length:=by
 obtain ⟨t,ht⟩:=Ux (out:=out) (xs:=xs) (ps:=ps) (n:=ps.length) (k:=k+1) (by omega);have hjl:=(List.getElem?_eq_some_iff.1 hj).1;unfold hds;rw [ht,hdsTo];refine ⟨?_,by simp only [List.length_append];omega⟩;rw [List.getD_eq_getElem?_getD,List.append_assoc,List.getElem?_append_right (by omega),List.getElem?_append_left (by omega),show (hdsTo out xs ps k).length+j-(hdsTo out xs ps k).length=j by omega,hj];rfl
theorem Kp (hk:k<ps.length) (h4:¬ (ps.getD k aFf).kind=4) (ha:hasI xs (ps.getD k aFf).a=false) :
  (hds out xs ps).getD (hdsTo out xs ps k).length aFl=⟨k,(ps.getD k aFf).a,(ps.getD k aFf).b,iF out (ps.getD k aFf),(ps.getD k aFf).wide⟩∧(hdsTo out xs ps k).length<(hds out xs ps).length:=
 Pu (out:=out) (xs:=xs) hk (j:=0) (by unfold hdsOf hdsA;rw [if_neg h4,if_neg (by rw [ha];simp)];rfl)
def qA (xs:List Int) (p:Psg):Nat:=if hasI xs p.a=true then 0 else 1
def qB (out:Int) (xs:List Int) (p:Psg):Nat:=if (mI out p&&!hasI xs p.b)=true then 1 else 0
theorem Fw (hk:k<ps.length) (h4:¬ (ps.getD k aFf).kind=4) (hb:(mI out (ps.getD k aFf)&&!hasI xs (ps.getD k aFf).b)=true) :
  (hds out xs ps).getD ((hdsTo out xs ps k).length+qA xs (ps.getD k aFf)) aFl=⟨k,(ps.getD k aFf).b,(ps.getD k aFf).a,iF out (ps.getD k aFf),(ps.getD k aFf).wide⟩∧(hdsTo out xs ps k).length+qA xs (ps.getD k aFf)<(hds out xs ps).length:=
 Pu (out:=out) (xs:=xs) hk (j:=qA xs (ps.getD k aFf)) (by
  unfold hdsOf hdsA hdsB qA
  rw [if_neg h4,if_pos hb];by_cases h:hasI xs (ps.getD k aFf).a=true
  ·rw [if_pos h,if_pos h];rfl
  ·rw [if_neg h,if_neg h];rfl)
theorem kD (h4:¬ (ps.getD k aFf).kind=4):(hdsTo out xs ps (k+1)).length=(hdsTo out xs ps k).length+qA xs (ps.getD k aFf)+qB out xs (ps.getD k aFf):=by
 rw [hdsTo,List.length_append];unfold hdsOf hdsA hdsB qA qB;rw [if_neg h4,List.length_append];split <;> split <;> simp
theorem nI (h4:(ps.getD k aFf).kind=4):(hdsTo out xs ps (k+1)).length=(hdsTo out xs ps k).length:=by
 rw [hdsTo,List.length_append];unfold hdsOf;rw [if_pos h4];rfl
theorem aAp:∀ k,(hdsTo out xs ps k).length≤2*k:=by
  intro k;induction k with
  | zero=>simp [hdsTo]
  | succ k ih=>
    by_cases h4:(ps.getD k aFf).kind=4
    · rw [nI h4];omega
    · rw [kD h4]
      have h1:qA xs (ps.getD k aFf)≤1:=by unfold qA;split <;> omega
      have h2:qB out xs (ps.getD k aFf)≤1:=by unfold qB;split <;> omega
      omega
theorem bk3 (b h:Bool):b=false∨(b=true∧h=true)∨(b=true∧h=false):=by cases b <;> cases h <;> simp
end
structure Jn where
 f:Nat
 t:Nat
 room:Int
 mv:Mv
def joins (J:List Jn):Tab:=J.foldl (fun T j=>joinT T j.f j.t j.room j.mv) (fun _=>[])
theorem jB (J:List Jn) (j:Jn):joins (J++[j])=joinT (joins J) j.f j.t j.room j.mv:=by unfold joins;rw [List.foldl_append];rfl
theorem Kq (J:List Jn) (hne:∀ j ∈ J,j.f≠j.t) (i:Nat):(joins J i).length≤J.length:=by
  have key:∀ (n:Nat) (J:List Jn),J.length=n→(∀ j ∈ J,j.f≠j.t)→(joins J i).length≤n:=by
    intro n;induction n with
    | zero => intro J h _;have:J=[]:=List.eq_nil_of_length_eq_zero h
              subst this;exact Nat.le_refl 0
    | succ n ih=>
      intro J h hn;obtain ⟨J',j,rfl⟩:∃ J' j,J=J'++[j]:=⟨J.dropLast,J.getLast (by intro e;subst e;simp at h),(List.dropLast_concat_getLast _).symm⟩;have h1:=ih J' (by simpa using h) (fun x hx=>hn x (List.mem_append_left _ hx));have h2:=hn j (List.mem_append_right _ (by simp));rw [jB];unfold joinT upd;split
      · rename_i e
        subst e;simp;omega
      · split
        · rename_i e;subst e;simp;omega
        · omega
  exact key _ J rfl hne
def nd (P t p:Nat):Nat:=P*t+p
theorem qL {P T t p:Nat} (ht:t≤T) (hp:p<P):nd P t p<P*(T+1):=by
 have:P*(t+1)≤P*(T+1):=Nat.mul_le_mul_left _ (by omega)
 rw [Nat.mul_add] at this;unfold nd;omega
theorem Zh {P t t' p p':Nat} (ht:t<t') (hp:p<P):nd P t p≠nd P t' p':=by
 have:P*(t+1)≤P*t':=Nat.mul_le_mul_left _ (by omega)
 rw [Nat.mul_add] at this;unfold nd;omega
def zW:Int:=1099511627776
def jBeg (P T:Nat) (pe:List Int) (p:Nat):Jn:=⟨P*(T+1),nd P 0 p,pe.getD p 0,Mv.none⟩
def jWait (P p t:Nat):Jn:=⟨nd P t p,nd P (t+1) p,zW,Mv.none⟩
def jExit (P T p t:Nat):Jn:=⟨nd P t p,P*(T+1)+1,zW,Mv.none⟩
def cT (P p n:Nat):List Jn:=(List.range n).map (jWait P p)
def eX (P T p n:Nat):List Jn:=(List.range n).map (jExit P T p)
def kQ (P T:Nat) (pe xs:List Int) (p:Nat):List Jn:=jBeg P T pe p::(cT P p T++(if hasI xs p=true then eX P T p (T+1) else []))
def bB (P T:Nat) (pe xs:List Int):Nat→List Jn
 | 0=>[]
 | p+1=>bB P T pe xs p++kQ P T pe xs p
def jHead (P:Nat) (h:Hd) (t:Nat):Jn:=⟨nd P t h.fr.toNat,nd P (t+h.ticks.toNat) h.to.toNat,h.wide,⟨h.pas,h.fr,t,0⟩⟩
def gK (P:Nat) (h:Hd) (n:Nat):List Jn:=(List.range n).map (jHead P h)
def eB (P T:Nat) (hs:List Hd):Nat→List Jn
 | 0=>[]
 | i+1=>eB P T hs i++gK P (hs.getD i aFl) (T+1-(hs.getD i aFl).ticks.toNat)
def jAll (P T:Nat) (pe xs:List Int) (hs:List Hd):List Jn:=bB P T pe xs P++eB P T hs hs.length
theorem oY {f:Nat→Jn} (n:Nat):(List.range (n+1)).map f=(List.range n).map f++[f n]:=by rw [List.range_succ,List.map_append];rfl
section
variable {P T:Nat} {pe xs:List Int} {hs:List Hd}
def JOk (P T:Nat) (j:Jn):Prop:=j.f≠j.t∧j.f<P*(T+1)+2∧j.t<P*(T+1)+2
theorem qM {p:Nat} (hp:p<P):JOk P T (jBeg P T pe p):=by
 have:=qL (P:=P) (T:=T) (Nat.zero_le T) hp
 exact ⟨by show P*(T+1)≠nd P 0 p;omega,by show P*(T+1)<_;omega,by show nd P 0 p<_;omega⟩
theorem nJ {p t:Nat} (hp:p<P) (ht:t<T):JOk P T (jWait P p t):=by
 have h1:=qL (P:=P) (T:=T) (show t≤T by omega) hp
 have h2:=qL (P:=P) (T:=T) (show t+1≤T by omega) hp
 exact ⟨Zh (by omega) hp,by show nd P t p<_;omega,by show nd P (t+1) p<_;omega⟩
theorem nK {p t:Nat} (hp:p<P) (ht:t≤T):JOk P T (jExit P T p t):=by
 have h1:=qL (P:=P) (T:=T) ht hp
 exact ⟨by show nd P t p≠P*(T+1)+1;omega,by show nd P t p<_;omega,by show P*(T+1)+1<_;omega⟩
theorem nL {h:Hd} {t:Nat} (h1:h.fr.toNat<P) (h2:h.to.toNat<P) (hd:1≤h.ticks.toNat) (ht:t+h.ticks.toNat≤T):JOk P T (jHead P h t):=by
 have h3:=qL (P:=P) (T:=T) (show t≤T by omega) h1
 have h4:=qL (P:=P) (T:=T) ht h2
 exact ⟨Zh (by omega) h1,by show nd P t h.fr.toNat<_;omega,by show nd P (t+h.ticks.toNat) h.to.toNat<_;omega⟩
theorem Kr {p:Nat} (hp:p<P):∀ j ∈ kQ P T pe xs p,JOk P T j:=by
  intro j hj;unfold kQ cT eX at hj;rcases List.mem_cons.1 hj with rfl|hj
  · exact qM hp
  · rcases List.mem_append.1 hj with hj|hj
    · obtain ⟨t,ht,rfl⟩:=List.mem_map.1 hj
      exact nJ hp (List.mem_range.1 ht)
    · split at hj
      · obtain ⟨t,ht,rfl⟩:=List.mem_map.1 hj
        exact nK hp (by have:=List.mem_range.1 ht;omega)
      · cases hj
theorem oZ:∀ {n:Nat},n≤P→∀ j ∈ bB P T pe xs n,JOk P T j:=by
  intro n;induction n with
  | zero=>intro _ j hj;cases hj
  | succ n ih=>
    intro hn j hj;rcases List.mem_append.1 hj with hj|hj
    · exact ih (by omega) j hj
    · exact Kr (by omega) j hj
theorem sZ:∀ n,(bB P T pe xs n).length≤n*(2*T+2):=by
  intro n;induction n with
  | zero=>simp [bB]
  | succ n ih=>
    have:(kQ P T pe xs n).length≤2*T+2:=by
      unfold kQ cT eX
      split <;> simp <;> omega
    rw [bB,List.length_append,Nat.add_mul];omega
def HdOk (P:Nat) (h:Hd):Prop:=(0≤h.fr∧h.fr<P)∧(0≤h.to∧h.to<P)∧(1≤h.ticks∧h.ticks≤20)
theorem xX (hh:∀ i,i<hs.length→HdOk P (hs.getD i aFl)):∀ {n:Nat},n≤hs.length→∀ j ∈ eB P T hs n,JOk P T j:=by
  intro n;induction n with
  | zero=>intro _ j hj;cases hj
  | succ n ih=>
    intro hn j hj;rcases List.mem_append.1 hj with hj|hj
    · exact ih (by omega) j hj
    · obtain ⟨t,ht,rfl⟩:=List.mem_map.1 hj
      have h1:=hh n (by omega)
      unfold HdOk at h1
      have:=List.mem_range.1 ht
      exact nL (by omega) (by omega) (by omega) (by omega)
theorem Fx:∀ n,(eB P T hs n).length≤n*(T+1):=by
  intro n;induction n with
  | zero=>simp [eB]
  | succ n ih=>
    rw [eB,List.length_append,Nat.add_mul];have:(gK P (hs.getD n aFl) (T+1-(hs.getD n aFl).ticks.toNat)).length≤T+1:=by unfold gK;simp
    omega
end
def allN (p:Nat→Bool):Nat→Bool
 | 0=>true
 | n+1=>allN p n&&p n
theorem bI {p:Nat→Bool}:∀ {n:Nat},allN p n=true↔∀ k,k<n→p k=true:=by
  intro n;induction n with
  | zero=>exact ⟨fun _ k hk=>absurd hk (Nat.not_lt_zero k),fun _=>rfl⟩
  | succ n ih=>
    simp only [allN,Bool.and_eq_true,ih]
    constructor
    · rintro ⟨h1,h2⟩ k hk
      by_cases e:k=n
      · subst e;exact h2
      · exact h1 k (by omega)
    · intro h
      exact ⟨fun k hk=>h k (by omega),h n (by omega)⟩
theorem cM {p:Nat→Bool} {n:Nat} (h:allN p n=true) (hp:p n=true):allN p (n+1)=true:=by simp only [allN,h,hp];rfl
theorem gL {p:Nat→Bool} {n k:Nat} (hk:k<n) (h:p k=false):allN p n=false:=by
 cases ha:allN p n with
 | false=>rfl
 | true=>rw [bI.1 ha k hk] at h;cases h
def psgOk (P:Int) (p:Psg):Bool:=decide (0≤p.a∧p.a<P∧0≤p.b∧p.b<P∧p.a≠p.b∧1≤p.ticks∧p.ticks≤20∧1≤p.wide∧p.wide≤50 ∧
 ((p.kind=1∨p.kind=2∨p.kind=5)∧p.mach = -1∧p.still=0∨p.kind=3∧(0≤p.mach∧p.mach≤11)∧(1≤p.still∧p.still≤20)∨p.kind=4∧(0≤p.mach∧p.mach≤11)∧p.still=0))
def cH (ps:List Psg) (k:Nat):Int:=(ps.getD k aFf).mach
def cntM (ps:List Psg) (m:Int) (k:Nat):Int:=sm (fun j=>if cH ps j=m then 1 else 0) k
theorem Hs {ps:List Psg} {m:Int} {k:Nat}:0≤cntM ps m k:=kH fun i _=>by split <;> omega
theorem Uy {ps:List Psg} {m:Int}:∀ k,cntM ps m k≤k:=by
 intro k;induction k with
 | zero=>exact Int.le_refl 0
 | succ k ih=>unfold cntM at ih ⊢;rw [sm];split <;> omega
theorem Ks {ps:List Psg} {m:Int} {k:Nat}:cntM ps m k=0↔∀ j,j<k→cH ps j≠m:=by
  constructor
  · intro h j hj e
    have:=Fd (f:=fun j=>if cH ps j=m then 1 else 0) (fun i _=>by split <;> omega) h j hj
    simp [e] at this
  · intro h
    exact tL fun i hi=>if_neg (h i hi)
def pasOk (P:Int) (ps:List Psg) (k:Nat):Bool:=psgOk P (ps.getD k aFf)&&decide (cH ps k<0∨cntM ps (cH ps k) k=0)
def exOk (P:Int) (xs:List Int) (k:Nat):Bool:=decide (0≤xs.getD k 0∧xs.getD k 0<P∧(k=0∨xs.getD (k-1) 0<xs.getD k 0))
def stOk (P:Int) (ps:List Psg) (xs:List Int):Bool:=(decide (1≤P∧P≤10∧ps.length≤24)&&allN (pasOk P ps) ps.length)&&allN (exOk P xs) xs.length
def stE (P:Int) (ps:List Psg) (xs:List Int):Int:=if stOk P ps xs=true then 0 else 80
theorem Ht {P:Int} {ps:List Psg} {xs:List Int} (h:¬ (1≤P∧P≤10∧ps.length≤24)):stE P ps xs=80:=by
 unfold stE stOk;rw [decide_eq_false h];rfl
theorem mJ {P:Int} {ps:List Psg} {xs:List Int} {k:Nat} (hk:k<ps.length) (h:pasOk P ps k=false):stE P ps xs=80:=by
 unfold stE stOk;rw [gL hk h,Bool.and_false];rfl
theorem Zi {P:Int} {ps:List Psg} {xs:List Int} {k:Nat} (hk:k<xs.length) (h:exOk P xs k=false):stE P ps xs=80:=by
 unfold stE stOk;rw [gL hk h,Bool.and_false];rfl
theorem Zj {P:Int} {ps:List Psg} {xs:List Int} (h1:1≤P∧P≤10∧ps.length≤24) (h2:allN (pasOk P ps) ps.length=true) (h3:allN (exOk P xs) xs.length=true):stE P ps xs=0:=by
 unfold stE stOk;rw [decide_eq_true h1,h2,h3];rfl
theorem Uz {P:Int} {ps:List Psg} {xs:List Int}:stE P ps xs=0↔stOk P ps xs=true:=by
 unfold stE;split <;> simp [*]
def CntMap (ps:List Psg) (k:Nat) (l:List (Int×Value)):Prop:=∀ m:Int,(getL l m).getD (.int .i64 0) = .int .i64 (cntM ps m k)
theorem CntMap.nil (ps:List Psg):CntMap ps 0 []:=fun m=>rfl
theorem CntMap.step {ps:List Psg} {k:Nat} {l:List (Int×Value)} (h:CntMap ps k l):CntMap ps (k+1) (setL l (cH ps k) (.int .i64 (cntM ps (cH ps k) k+1))):=by
 intro m;rw [Bw];unfold cntM;rw [sm];by_cases e:m=cH ps k
 ·subst e;rw [if_pos rfl,if_pos rfl];rfl
 ·rw [if_neg e,if_neg (fun h=>e h.symm),Int.add_zero];exact h m
structure StV (P:Int) (ps:List Psg) (xs:List Int):Prop where
 size:1≤P∧P≤10∧ps.length≤24
 pas:∀ k,k<ps.length→psgOk P (ps.getD k aFf)=true
 mach:∀ k,k<ps.length→0≤cH ps k→∀ j,j<k→cH ps j≠cH ps k
 ex:∀ k,k<xs.length→0≤xs.getD k 0∧xs.getD k 0<P∧(k=0∨xs.getD (k-1) 0<xs.getD k 0)
theorem jW {P:Int} {ps:List Psg} {xs:List Int} (h:stE P ps xs=0):StV P ps xs:=by
  have h1:=Uz.1 h
  unfold stOk at h1
  simp only [Bool.and_eq_true,decide_eq_true_eq] at h1
  obtain ⟨⟨h1,h2⟩,h3⟩:=h1;refine ⟨h1,fun k hk=>?_,fun k hk h0=>?_,fun k hk=>?_⟩
  · have:=bI.1 h2 k hk
    unfold pasOk at this
    rw [Bool.and_eq_true] at this;exact this.1
  · have:=bI.1 h2 k hk
    unfold pasOk at this
    simp only [Bool.and_eq_true,decide_eq_true_eq] at this
    exact Ks.1 (by omega)
  · have:=bI.1 h3 k hk
    unfold exOk at this
    simpa using this
theorem dL {P:Int} {p:Psg}:psgOk P p=true↔(0≤p.a∧p.a<P∧0≤p.b∧p.b<P∧p.a≠p.b∧1≤p.ticks∧p.ticks≤20∧1≤p.wide∧p.wide≤50 ∧
 ((p.kind=1∨p.kind=2∨p.kind=5)∧p.mach = -1∧p.still=0∨p.kind=3∧(0≤p.mach∧p.mach≤11)∧(1≤p.still∧p.still≤20)∨p.kind=4∧(0≤p.mach∧p.mach≤11)∧p.still=0)):=by
 unfold psgOk;rw [decide_eq_true_eq]
theorem fU {P:Int} {p:Psg} (h:¬ (0≤p.a∧p.a<P∧0≤p.b∧p.b<P∧p.a≠p.b∧1≤p.ticks∧p.ticks≤20∧1≤p.wide∧p.wide≤50 ∧
 ((p.kind=1∨p.kind=2∨p.kind=5)∧p.mach = -1∧p.still=0∨p.kind=3∧(0≤p.mach∧p.mach≤11)∧(1≤p.still∧p.still≤20)∨p.kind=4∧(0≤p.mach∧p.mach≤11)∧p.still=0))):psgOk P p=false:=by
 unfold psgOk;exact decide_eq_false h
theorem Fy {P:Nat} {ps:List Psg} {xs:List Int} {out:Int} (h:StV P ps xs):∀ i,i<(hds out xs ps).length→HdOk P ((hds out xs ps).getD i aFl):=by
  have key:∀ n,n≤ps.length→∀ x ∈ hdsTo out xs ps n,HdOk P x:=by
    intro n;induction n with
    | zero=>intro _ x hx;cases hx
    | succ n ih=>
      intro hn x hx;rcases List.mem_append.1 hx with hx|hx
      · exact ih (by omega) x hx
      · have hp:=dL.1 (h.pas n (by omega))
        have ht:1≤iF out (ps.getD n aFf)∧iF out (ps.getD n aFf)≤20:=by
          unfold iF;split <;> omega
        unfold hdsOf hdsA hdsB at hx
        unfold HdOk
        split at hx
        · cases hx
        · rcases List.mem_append.1 hx with hx|hx
          · split at hx
            · cases hx
            · rw [List.mem_singleton.1 hx];dsimp only;omega
          · split at hx
            · rw [List.mem_singleton.1 hx];dsimp only;omega
            · cases hx
  intro i hi;rw [List.getD_eq_getElem?_getD,List.getElem?_eq_getElem hi];exact key _ (Nat.le_refl _) _ (List.getElem_mem hi)
def eN (P:Int) (pe:List Int):Bool:=allN (fun k=>decide (0≤pe.getD k 0∧pe.getD k 0≤1000)) pe.length&&decide ((pe.length:Int)=P)
def dO (P:Int) (ps:List Psg) (xs:List Int) (out:Int) (pe:List Int) (T:Int):Int:=
 if stE P ps xs≠0 then stE P ps xs else if (decide (0≤out∧out≤4095)&&eN P pe&&decide (0≤T∧T≤60))=true then 0 else 1
theorem jC {P:Int} {ps:List Psg} {xs:List Int} {out:Int} {pe:List Int} {T:Int} (h:dO P ps xs out pe T=0):stE P ps xs=0∧(0≤out∧out≤4095)∧eN P pe=true∧(0≤T∧T≤60):=by
  unfold dO at h
  split at h
  · omega
  · rename_i h1
    split at h
    · rename_i h2
      simp only [Bool.and_eq_true,decide_eq_true_eq] at h2
      exact ⟨by omega,h2.1.1,h2.1.2,h2.2⟩
    · cases h
theorem qN {P:Int} {pe:List Int} (h:eN P pe=true):(∀ k,k<pe.length→0≤pe.getD k 0∧pe.getD k 0≤1000)∧(pe.length:Int)=P:=by
 unfold eN at h
 simp only [Bool.and_eq_true,decide_eq_true_eq] at h
 exact ⟨fun k hk=>by simpa using bI.1 h.1 k hk,h.2⟩
theorem oB {l:List Ent} {e:Ent} {j:Nat}:(l++[e]).getD j Ent.zero=if j=l.length then e else l.getD j Ent.zero:=by
  rw [List.getD_eq_getElem?_getD,List.getD_eq_getElem?_getD];by_cases h:j=l.length
  · subst h;rw [if_pos rfl,List.getElem?_append_right (Nat.le_refl _),Nat.sub_self];rfl
  · rw [if_neg h]
    rcases Nat.lt_or_ge j l.length with h1|h1
    · rw [List.getElem?_append_left h1]
    · rw [List.getElem?_append_right h1,List.getElem?_eq_none (by simp;omega),List.getElem?_eq_none h1]
section
variable {T:Tab} {f t k:Nat} {room:Int} {mv:Mv}
theorem Cm (hft:f≠t) (i:Nat):tlen (joinT T f t room mv) i=tlen T i+(if i=f then 1 else 0)+(if i=t then 1 else 0):=by
  unfold tlen joinT upd
  by_cases h1:i=t
  · subst h1
    rw [if_pos rfl,if_neg (fun e=>hft e.symm),if_pos rfl];simp
  · rw [if_neg h1,if_neg h1]
    by_cases h2:i=f
    · subst h2;rw [if_pos rfl,if_pos rfl];simp
    · rw [if_neg h2,if_neg h2];rfl
def entAt (T:Tab) (i j:Nat):Ent:=(T i).getD j Ent.zero
theorem Hu (hft:f≠t) (i j:Nat):entAt (joinT T f t room mv) i j=if i=f∧j=tlen T f then ⟨t,room,tlen T t,mv⟩ else if i=t∧j=tlen T t then ⟨f,0,tlen T f,Mv.none⟩ else entAt T i j:=by
  unfold entAt joinT upd tlen
  by_cases h1:i=t
  · subst h1
    rw [if_pos rfl,if_neg (fun h=>hft h.1.symm),oB];by_cases h2:j=(T i).length
    · rw [if_pos h2,if_pos ⟨rfl,h2⟩]
    · rw [if_neg h2,if_neg (fun h=>h2 h.2)]
  · rw [if_neg h1]
    by_cases h2:i=f
    · subst h2
      rw [if_pos rfl,oB];by_cases h3:j=(T i).length
      · rw [if_pos h3,if_pos ⟨rfl,h3⟩]
      · rw [if_neg h3,if_neg (fun h=>h3 h.2),if_neg (fun h=>h1 h.1)]
    · rw [if_neg h2,if_neg (fun h=>h2 h.1),if_neg (fun h=>h1 h.1)]
theorem tA (hft:f≠t) (hf:f<k) (ht:t<k) (W:(T.net k).Wf):((joinT T f t room mv).net k).Wf:=by
  have hlen:=Cm (T:=T) (room:=room) (mv:=mv) hft
  have hat:=Hu (T:=T) (room:=room) (mv:=mv) hft
  have key:∀ i,i<k→∀ j,j<tlen (joinT T f t room mv) i→(i=f∧j=tlen T f)∨(i=t∧j=tlen T t)∨(¬ (i=f∧j=tlen T f)∧¬ (i=t∧j=tlen T t)∧j<tlen T i):=by
    intro i hi j hj;rw [hlen] at hj;by_cases h1:i=f∧j=tlen T f
    · exact .inl h1
    · by_cases h2:i=t∧j=tlen T t
      · exact .inr (.inl h2)
      · refine .inr (.inr ⟨h1,h2,?_⟩)
        by_cases e1:i=f
        · subst e1;rw [if_pos rfl,if_neg hft] at hj;have:j≠tlen T i:=fun e=>h1 ⟨rfl,e⟩;omega
        · by_cases e2:i=t
          · subst e2;rw [if_neg e1,if_pos rfl] at hj;have:j≠tlen T i:=fun e=>h2 ⟨rfl,e⟩;omega
          · rw [if_neg e1,if_neg e2] at hj;omega
  have hne':¬ (t=f∧tlen T t=tlen T f):=fun h=>hft h.1.symm
  have kold:∀ i,i<k→∀ j,j<tlen T i→entAt (joinT T f t room mv) i j=entAt T i j:=by
    intro i hi j hj;rw [hat,if_neg (fun h=>by rw [h.1,h.2] at hj;omega),if_neg (fun h=>by rw [h.1,h.2] at hj;omega)]
  have hW:∀ i,i<k→∀ j,j<tlen T i→(entAt T i j).to<k∧(entAt T i j).to≠i∧(entAt T i j).back<tlen T (entAt T i j).to∧(entAt T (entAt T i j).to (entAt T i j).back).to=i∧(entAt T (entAt T i j).to (entAt T i j).back).back=j:=
    fun i hi j hj=>⟨W.to_lt i hi j hj,W.to_ne i hi j hj,W.bk_lt i hi j hj,W.bk_to i hi j hj,W.bk_bk i hi j hj⟩
  have all:∀ i,i<k→∀ j,j<tlen (joinT T f t room mv) i→(entAt (joinT T f t room mv) i j).to<k∧(entAt (joinT T f t room mv) i j).to≠i∧(entAt (joinT T f t room mv) i j).back<tlen (joinT T f t room mv) (entAt (joinT T f t room mv) i j).to ∧
      (entAt (joinT T f t room mv) (entAt (joinT T f t room mv) i j).to (entAt (joinT T f t room mv) i j).back).to=i∧(entAt (joinT T f t room mv) (entAt (joinT T f t room mv) i j).to (entAt (joinT T f t room mv) i j).back).back=j:=by
    intro i hi j hj;rcases key i hi j hj with ⟨rfl,rfl⟩|⟨rfl,rfl⟩|⟨h1,h2,h3⟩
    · have e1:entAt (joinT T i t room mv) i (tlen T i)=⟨t,room,tlen T t,mv⟩:=by rw [hat,if_pos ⟨rfl,rfl⟩]
      have e2:entAt (joinT T i t room mv) t (tlen T t)=⟨i,0,tlen T i,Mv.none⟩:=by rw [hat,if_neg hne',if_pos ⟨rfl,rfl⟩]
      rw [e1];dsimp only;rw [e2];refine ⟨ht,fun h=>hft h.symm,?_,rfl,rfl⟩;rw [hlen,if_pos rfl];omega
    · have e1:entAt (joinT T f i room mv) i (tlen T i)=⟨f,0,tlen T f,Mv.none⟩:=by rw [hat,if_neg hne',if_pos ⟨rfl,rfl⟩]
      have e2:entAt (joinT T f i room mv) f (tlen T f)=⟨i,room,tlen T i,mv⟩:=by rw [hat,if_pos ⟨rfl,rfl⟩]
      rw [e1];dsimp only;rw [e2];refine ⟨hf,hft,?_,rfl,rfl⟩;rw [hlen,if_pos rfl];omega
    · rw [kold i hi j h3]
      obtain ⟨g1,g2,g3,g4,g5⟩:=hW i hi j h3;rw [kold _ g1 _ g3];refine ⟨g1,g2,?_,g4,g5⟩;rw [hlen];omega
  exact ⟨fun i hi j hj=>(all i hi j hj).1,fun i hi j hj=>(all i hi j hj).2.1,fun i hi j hj=>(all i hi j hj).2.2.1,fun i hi j hj=>(all i hi j hj).2.2.2.1,fun i hi j hj=>(all i hi j hj).2.2.2.2⟩
theorem Cn {B:Int} (hft:f≠t) (hf:f<k) (ht:t<k) (hr:0≤room∧room≤B) (W:(T.net k).Wf) (O:Ok (T.net k) T.room B):Ok ((joinT T f t room mv).net k) (joinT T f t room mv).room B:=by
  have hlen:=Cm (T:=T) (room:=room) (mv:=mv) hft
  have hat:=Hu (T:=T) (room:=room) (mv:=mv) hft
  have W':=tA (room:=room) (mv:=mv) hft hf ht W
  have hroom:∀ i j,(joinT T f t room mv).room i j=if i=f∧j=tlen T f then room else if i=t∧j=tlen T t then 0 else T.room i j:=by
    intro i j;show (entAt (joinT T f t room mv) i j).room=_;rw [hat];split
    · rfl
    · split <;> rfl
  have hold:∀ i,i<k→∀ j,j<tlen (joinT T f t room mv) i→¬ (i=f∧j=tlen T f)→¬ (i=t∧j=tlen T t)→j<tlen T i:=by
    intro i hi j hj h1 h2;rw [hlen] at hj;by_cases e1:i=f
    · subst e1;rw [if_pos rfl,if_neg hft] at hj;have:j≠tlen T i:=fun e=>h1 ⟨rfl,e⟩;omega
    · by_cases e2:i=t
      · subst e2;rw [if_neg e1,if_pos rfl] at hj;have:j≠tlen T i:=fun e=>h2 ⟨rfl,e⟩;omega
      · rw [if_neg e1,if_neg e2] at hj;omega
  refine ⟨fun i hi j hj=>?_,fun i hi j hj=>?_⟩
  · rw [hroom]
    split
    · exact hr.1
    · rename_i h1
      split
      · exact Int.le_refl _
      · rename_i h2
        exact O.nn i hi j (hold i hi j hj h1 h2)
  · have hne':¬ (t=f∧tlen T t=tlen T f):=fun h=>hft h.1.symm
    show (joinT T f t room mv).room i j+(joinT T f t room mv).room (entAt (joinT T f t room mv) i j).to (entAt (joinT T f t room mv) i j).back≤B
    by_cases h1:i=f∧j=tlen T f
    · rw [hat,if_pos h1]
      dsimp only;rw [hroom,hroom,if_pos h1,if_neg hne',if_pos ⟨rfl,rfl⟩];omega
    · by_cases h2:i=t∧j=tlen T t
      · rw [hat,if_neg h1,if_pos h2]
        dsimp only;rw [hroom,hroom,if_neg h1,if_pos h2,if_pos ⟨rfl,rfl⟩];omega
      · have h3:=hold i hi j hj h1 h2
        have g1:=W.to_lt i hi j h3
        have g3:=W.bk_lt i hi j h3
        rw [hat,if_neg h1,if_neg h2,hroom,hroom,if_neg h1,if_neg h2]
        have e1:¬ ((entAt T i j).to=f∧(entAt T i j).back=tlen T f):=fun h=>by
          have:(entAt T i j).back<tlen T (entAt T i j).to:=g3
          rw [h.1,h.2] at this;omega
        have e2:¬ ((entAt T i j).to=t∧(entAt T i j).back=tlen T t):=fun h=>by
          have:(entAt T i j).back<tlen T (entAt T i j).to:=g3
          rw [h.1,h.2] at this;omega
        rw [if_neg e1,if_neg e2];exact O.pair i hi j h3
theorem vM {e:Ent} {S:Nat→Bool} (hf:f<k):resid (Tab.net (upd T f (T f++[e])) k) (Tab.room (upd T f (T f++[e]))) S=resid (T.net k) T.room S+(if S f=true∧S e.to=false then e.room else 0):=by
 unfold resid
 have hrow:∀ i,i≠f→upd T f (T f++[e]) i=T i:=fun i h=>cC _ _ h
 have h:=rL (f:=fun i=>sm (fun j=>if S i=true∧S ((T.net k).to i j)=false then T.room i j else 0) ((T.net k).n i))
  (g:=fun i=>sm (fun j=>if S i=true∧S ((Tab.net (upd T f (T f++[e])) k).to i j)=false then Tab.room (upd T f (T f++[e])) i j else 0) ((Tab.net (upd T f (T f++[e])) k).n i)) hf
  (fun i hi hne=>by
   show sm (fun j=>if S i=true∧S (entAt (upd T f (T f++[e])) i j).to=false then (entAt (upd T f (T f++[e])) i j).room else 0) (tlen (upd T f (T f++[e])) i)=_
   unfold entAt tlen
   rw [hrow i hne];rfl)
 show sm _ k=_
 refine h.trans ?_
 congr 1
 have e1:sm (fun j=>if S f=true∧S (entAt (upd T f (T f++[e])) f j).to=false then (entAt (upd T f (T f++[e])) f j).room else 0) (tlen (upd T f (T f++[e])) f) =
   sm (fun j=>if S f=true∧S (entAt T f j).to=false then (entAt T f j).room else 0) (tlen T f)+(if S f=true∧S e.to=false then e.room else 0):=by
  have hl:tlen (upd T f (T f++[e])) f=tlen T f+1:=by unfold tlen;rw [bQ];simp
  rw [hl,sm];have hlast:entAt (upd T f (T f++[e])) f (tlen T f)=e:=by unfold entAt tlen;rw [bQ,oB,if_pos rfl]
  rw [hlast];congr 1;refine pS fun j hj=>?_
  have:entAt (upd T f (T f++[e])) f j=entAt T f j:=by unfold entAt;rw [bQ,oB,if_neg (by unfold tlen at hj;omega)]
  rw [this]
 show sm (fun j=>if S f=true∧S (entAt (upd T f (T f++[e])) f j).to=false then (entAt (upd T f (T f++[e])) f j).room else 0) (tlen (upd T f (T f++[e])) f) -
   sm (fun j=>if S f=true∧S (entAt T f j).to=false then (entAt T f j).room else 0) (tlen T f)=_
 omega
end
def capJ (S:Nat→Bool):List Jn→Int
 | []=>0
 | j::J=>(if S j.f=true∧S j.t=false then j.room else 0)+capJ S J
theorem lB (S:Nat→Bool) (J J':List Jn):capJ S (J++J')=capJ S J+capJ S J':=by
 induction J with
 | nil=>simp [capJ]
 | cons j J ih=>simp only [List.cons_append,capJ,ih];omega
theorem xY {S:Nat→Bool} {J:List Jn} (h:∀ j ∈ J,S j.f=true→S j.t=false→j.room=0):capJ S J=0:=by
  induction J with
  | nil=>rfl
  | cons j J ih=>
    rw [capJ,ih (fun x hx=>h x (List.mem_cons_of_mem _ hx))];split
    · rename_i h1;rw [h j (List.mem_cons_self ..) h1.1 h1.2];rfl
    · rfl
theorem Kt {k:Nat} {S:Nat→Bool}:resid (Tab.net (fun _=>[]) k) (Tab.room (fun _=>[])) S=0:=tL fun i _=>rfl
theorem Ku {k:Nat} {B:Int} (hB:0≤B):∀ (J:List Jn),(∀ j ∈ J,j.f≠j.t∧j.f<k∧j.t<k∧0≤j.room∧j.room≤B)→((joins J).net k).Wf∧Ok ((joins J).net k) (joins J).room B∧∀ S,resid ((joins J).net k) (joins J).room S=capJ S J:=by
  have key:∀ (n:Nat) (J:List Jn),J.length=n→(∀ j ∈ J,j.f≠j.t∧j.f<k∧j.t<k∧0≤j.room∧j.room≤B)→((joins J).net k).Wf∧Ok ((joins J).net k) (joins J).room B∧∀ S,resid ((joins J).net k) (joins J).room S=capJ S J:=by
    intro n;induction n with
    | zero=>
      intro J h _;have:J=[]:=List.eq_nil_of_length_eq_zero h;subst this
      exact ⟨⟨fun i _ j hj=>absurd hj (Nat.not_lt_zero j),fun i _ j hj=>absurd hj (Nat.not_lt_zero j),fun i _ j hj=>absurd hj (Nat.not_lt_zero j),fun i _ j hj=>absurd hj (Nat.not_lt_zero j),fun i _ j hj=>absurd hj (Nat.not_lt_zero j)⟩,
        ⟨fun i _ j hj=>absurd hj (Nat.not_lt_zero j),fun i _ j hj=>absurd hj (Nat.not_lt_zero j)⟩,fun S=>Kt⟩
    | succ n ih=>
      intro J h hn;obtain ⟨J',j,rfl⟩:∃ J' j,J=J'++[j]:=⟨J.dropLast,J.getLast (by intro e;subst e;simp at h),(List.dropLast_concat_getLast _).symm⟩;obtain ⟨W,O,hr⟩:=ih J' (by simpa using h) (fun x hx=>hn x (List.mem_append_left _ hx));obtain ⟨h1,h2,h3,h4,h5⟩:=hn j (List.mem_append_right _ (by simp));rw [jB];refine ⟨tA h1 h2 h3 W,Cn h1 h2 h3 ⟨h4,h5⟩ W O,fun S=>?_⟩;rw [lB];unfold joinT;have e1:=vM (T:=joins J') (f:=j.f) (k:=k) (e:=⟨j.t,j.room,(joins J' j.t).length,j.mv⟩) (S:=S) h2;have e2:=vM (T:=upd (joins J') j.f (joins J' j.f++[⟨j.t,j.room,(joins J' j.t).length,j.mv⟩])) (f:=j.t) (k:=k) (e:=⟨j.f,0,(joins J' j.f).length,Mv.none⟩) (S:=S) h3;rw [cC (i:=j.t) _ _ (fun e=>h1 e.symm)] at e2;rw [e2,e1,hr S];simp only [capJ];split <;> split <;> omega
  intro J h;exact key _ J rfl h
section
variable {P T:Nat} {pe xs:List Int} {hs:List Hd}
def JRoom (B:Int) (j:Jn):Prop:=0≤j.room∧j.room≤B
theorem Fz {p:Nat} (hpe:∀ k,k<pe.length→0≤pe.getD k 0∧pe.getD k 0≤1000):∀ j ∈ kQ P T pe xs p,JRoom 1099511627776 j:=by
  intro j hj;unfold kQ cT eX at hj;rcases List.mem_cons.1 hj with rfl|hj
  · unfold JRoom jBeg
    dsimp only;by_cases h:p<pe.length
    · have:=hpe p h;omega
    · rw [List.getD_eq_getElem?_getD,List.getElem?_eq_none (by omega)];simp
  · rcases List.mem_append.1 hj with hj|hj
    · obtain ⟨t,_,rfl⟩:=List.mem_map.1 hj
      unfold JRoom jWait zW;dsimp only;omega
    · split at hj
      · obtain ⟨t,_,rfl⟩:=List.mem_map.1 hj
        unfold JRoom jExit zW;dsimp only;omega
      · cases hj
theorem Co (hpe:∀ k,k<pe.length→0≤pe.getD k 0∧pe.getD k 0≤1000):∀ n,∀ j ∈ bB P T pe xs n,JRoom 1099511627776 j:=by
  intro n;induction n with
  | zero=>intro j hj;cases hj
  | succ n ih=>
    intro j hj;rcases List.mem_append.1 hj with hj|hj
    · exact ih j hj
    · exact Fz hpe j hj
theorem Ga (hw:∀ i,i<hs.length→1≤(hs.getD i aFl).wide∧(hs.getD i aFl).wide≤50):∀ {n},n≤hs.length→∀ j ∈ eB P T hs n,JRoom 1099511627776 j:=by
  intro n;induction n with
  | zero=>intro _ j hj;cases hj
  | succ n ih=>
    intro hn j hj;rcases List.mem_append.1 hj with hj|hj
    · exact ih (by omega) j hj
    · obtain ⟨t,_,rfl⟩:=List.mem_map.1 hj
      have:=hw n (by omega)
      unfold JRoom jHead;dsimp only;omega
theorem Kv (hpe:∀ k,k<pe.length→0≤pe.getD k 0∧pe.getD k 0≤1000) (hh:∀ i,i<hs.length→HdOk P (hs.getD i aFl)):capJ (fun v=>decide (v=P*(T+1))) (jAll P T pe xs hs)≤1000*P:=by
  have h1 : ∀ n,n≤P→capJ (fun v=>decide (v=P*(T+1))) (bB P T pe xs n)≤1000*n:=by
    intro n;induction n with
    | zero=>intro _;simp [bB,capJ]
    | succ n ih=>
      intro hn;rw [bB,lB];have h2:=ih (by omega)
      have h3 : capJ (fun v=>decide (v=P*(T+1))) (kQ P T pe xs n)≤1000:=by
        unfold kQ
        rw [capJ,xY (J:=cT P n T++_)]
        · have hb:(jBeg P T pe n).room≤1000:=by
            unfold jBeg;dsimp only
            by_cases h:n<pe.length
            · have:=hpe n h;omega
            · rw [List.getD_eq_getElem?_getD,List.getElem?_eq_none (by omega)];simp
          split <;> omega
        · intro j hj hf
          exfalso
          have hf':j.f=P*(T+1):=by simpa using hf
          unfold cT eX at hj
          rcases List.mem_append.1 hj with hj|hj
          · obtain ⟨t,ht,rfl⟩:=List.mem_map.1 hj
            have:=qL (P:=P) (T:=T) (t:=t) (p:=n) (by have:=List.mem_range.1 ht;omega) (by omega)
            have e:(jWait P n t).f=nd P t n:=rfl
            omega
          · split at hj
            · obtain ⟨t,ht,rfl⟩:=List.mem_map.1 hj
              have:=qL (P:=P) (T:=T) (t:=t) (p:=n) (by have:=List.mem_range.1 ht;omega) (by omega)
              have e:(jExit P T n t).f=nd P t n:=rfl
              omega
            · cases hj
      push_cast
      omega
  have h2:∀ n,n≤hs.length→capJ (fun v=>decide (v=P*(T+1))) (eB P T hs n)=0:=by
    intro n;induction n with
    | zero=>intro _;rfl
    | succ n ih=>
      intro hn;rw [eB,lB,ih (by omega),xY]
      · rfl
      · intro j hj hf
        exfalso
        have hf':j.f=P*(T+1):=by simpa using hf
        obtain ⟨t,ht,rfl⟩:=List.mem_map.1 hj;have h9:=hh n (by omega);unfold HdOk at h9;have:=qL (P:=P) (T:=T) (t:=t) (p:=(hs.getD n aFl).fr.toNat) (by have:=List.mem_range.1 ht;omega) (by omega);have e:(jHead P (hs.getD n aFl) t).f=nd P t (hs.getD n aFl).fr.toNat:=rfl;omega
  unfold jAll
  rw [lB,h2 _ (Nat.le_refl _)];have:=h1 P (Nat.le_refl _);omega
end
def layT (P T:Nat) (pe xs:List Int) (hs:List Hd):Tab:=joins (jAll P T pe xs hs)
def layN (P T:Nat) (pe xs:List Int) (hs:List Hd):Net:=(layT P T pe xs hs).net (P*(T+1)+2)
structure LayOk (P T:Nat) (pe xs:List Int) (hs:List Hd):Prop where
 wf:(layN P T pe xs hs).Wf
 ok:Ok (layN P T pe xs hs) (layT P T pe xs hs).room 2199023255552
 cap:∀ S,resid (layN P T pe xs hs) (layT P T pe xs hs).room S=capJ S (jAll P T pe xs hs)
 beg:resid (layN P T pe xs hs) (layT P T pe xs hs).room (fun v=>decide (v=P*(T+1)))≤1000*P
theorem Pv {P:Int} {ps:List Psg} {xs:List Int} {out:Int} (h:StV P ps xs):∀ i,i<(hds out xs ps).length→1≤((hds out xs ps).getD i aFl).wide∧((hds out xs ps).getD i aFl).wide≤50:=by
  have key:∀ n,n≤ps.length→∀ x ∈ hdsTo out xs ps n,1≤x.wide∧x.wide≤50:=by
    intro n;induction n with
    | zero=>intro _ x hx;cases hx
    | succ n ih=>
      intro hn x hx;rcases List.mem_append.1 hx with hx|hx
      · exact ih (by omega) x hx
      · have hp:=dL.1 (h.pas n (by omega))
        unfold hdsOf hdsA hdsB at hx
        split at hx
        · cases hx
        · rcases List.mem_append.1 hx with hx|hx
          · split at hx
            · cases hx
            · rw [List.mem_singleton.1 hx];dsimp only;omega
          · split at hx
            · rw [List.mem_singleton.1 hx];dsimp only;omega
            · cases hx
  intro i hi;rw [List.getD_eq_getElem?_getD,List.getElem?_eq_getElem hi];exact key _ (Nat.le_refl _) _ (List.getElem_mem hi)
theorem Pw {P T:Nat} {ps:List Psg} {pe xs:List Int} {out:Int} (h:StV P ps xs) (hpe:∀ k,k<pe.length→0≤pe.getD k 0∧pe.getD k 0≤1000):LayOk P T pe xs (hds out xs ps):=by
 obtain ⟨W,O,hr⟩:=Ku (k:=P*(T+1)+2) (B:=2199023255552) (by omega) (jAll P T pe xs (hds out xs ps)) (by
  intro j hj
  have h1:JOk P T j∧JRoom 1099511627776 j:=by
   rcases List.mem_append.1 hj with hj|hj
   ·exact ⟨oZ (Nat.le_refl _) j hj,Co hpe P j hj⟩
   ·exact ⟨xX (Fy h) (Nat.le_refl _) j hj,Ga (Pv h) (Nat.le_refl _) j hj⟩
  obtain ⟨⟨a1,a2,a3⟩,a4,a5⟩:=h1;exact ⟨a1,a2,a3,a4,by omega⟩)
 exact ⟨W,O,hr,Int.le_trans (Int.le_of_eq (hr _)) (Kv hpe (Fy h))⟩
structure EndP (P T:Nat) (pe xs:List Int) (hs:List Hd) (v:Int) (r:RM) (L:Nat→Int):Prop where
 fl:Fl (layN P T pe xs hs) (layT P T pe xs hs).room r (P*(T+1)) (P*(T+1)+1) v
 nn:0≤v
 lev:LevOk (layN P T pe xs hs) r (P*(T+1)) L
 full:L (P*(T+1)+1)<0
def fstB (f:Nat→Bool):Nat→Nat
 | 0=>0
 | n+1=>if fstB f n<n then fstB f n else if f n=true then n else n+1
theorem Gb {f:Nat→Bool}:∀ n,fstB f n≤n:=by
 intro n;induction n with
 | zero=>exact Nat.le_refl _
 | succ n ih=>rw [fstB];split;omega;split <;> omega
theorem jX {f:Nat→Bool}:∀ {n},(∀ q,q<n→f q=false)→fstB f n=n:=by
 intro n;induction n with
 | zero=>intro _;rfl
 | succ n ih=>intro h;rw [fstB,ih (fun q hq=>h q (by omega)),if_neg (by omega),if_neg (by rw [h n (by omega)];simp)]
theorem pB {f:Nat→Bool} {t:Nat} (h1:∀ q,q<t→f q=false) (h2:f t=true):∀ {n},t<n→fstB f n=t:=by
  intro n;induction n with
  | zero=>intro h;omega
  | succ n ih=>
    intro h;by_cases e:t=n
    · subst e;rw [fstB,jX h1,if_neg (by omega),if_pos h2]
    · rw [fstB,ih (by omega),if_pos (by omega)]
def sumI (l:List Int):Nat→Int:=sm (fun k=>l.getD k 0)
def kE (L:Nat→Int) (v:Nat):Bool:=decide (0≤L v)
section
variable {P T:Nat} {pe xs:List Int} {hs:List Hd} {v v':Int} {r r':RM} {L L':Nat→Int}
theorem Hv {S:Nat→Bool} (hb:S (P*(T+1))=true) (hx:S (P*(T+1)+1)=false):ind S (P*(T+1))-ind S (P*(T+1)+1)=1:=by
 unfold ind;rw [hb,hx];rfl
theorem EndP.bound (O:LayOk P T pe xs hs) (h:EndP P T pe xs hs v r L) {S:Nat→Bool} (hb:S (P*(T+1))=true) (hx:S (P*(T+1)+1)=false):v≤capJ S (jAll P T pe xs hs):=by
 have h1:=uP (S:=S) (h.fl.ok O.ok)
 rw [h.fl.cut,O.cap,Hv hb hx] at h1;omega
theorem EndP.at_reach (O:LayOk P T pe xs hs) (h:EndP P T pe xs hs v r L):kE L (P*(T+1))=true∧kE L (P*(T+1)+1)=false∧capJ (kE L) (jAll P T pe xs hs)=v:=by
  have hb:kE L (P*(T+1))=true:=by unfold kE;rw [h.lev.b0];rfl
  have hx:kE L (P*(T+1)+1)=false:=by unfold kE;rw [decide_eq_false_iff_not];have:=h.full;omega
  refine ⟨hb,hx,?_⟩
  have h0:resid (layN P T pe xs hs) r (kE L)=0:=tL fun i hi=>tL fun j hj=>by
    split
    · rename_i hc
      obtain ⟨h1,h2⟩:=hc;unfold kE at h1 h2;simp only [decide_eq_true_eq,decide_eq_false_iff_not] at h1 h2;have h3:=h.fl.nn i hi j hj;by_cases h4:0<r i j
      · exact absurd (h.lev.cl i hi h1 j hj h4) h2
      · omega
    · rfl
  rw [h.fl.cut,O.cap,Hv hb hx] at h0;omega
theorem EndP.unique (O:LayOk P T pe xs hs) (h:EndP P T pe xs hs v r L) (h':EndP P T pe xs hs v' r' L'):v=v':=by
 obtain ⟨a1,a2,a3⟩:=h.at_reach O;obtain ⟨b1,b2,b3⟩:=h'.at_reach O;have h1:=h.bound O b1 b2;have h2:=h'.bound O a1 a2;omega
end
open Classical in
noncomputable def mfv (P T:Nat) (pe xs:List Int) (hs:List Hd):Int:=if h:∃ v,∃ r L,EndP P T pe xs hs v r L then Classical.choose h else 0
section
variable {P T:Nat} {pe xs:List Int} {hs:List Hd} {v:Int} {r:RM} {L:Nat→Int}
theorem Px (O:LayOk P T pe xs hs) (h:EndP P T pe xs hs v r L):mfv P T pe xs hs=v:=by
 have he:∃ v,∃ r L,EndP P T pe xs hs v r L:=⟨v,r,L,h⟩
 unfold mfv
 rw [dif_pos he];obtain ⟨r',L',h'⟩:=Classical.choose_spec he;exact h'.unique O h
end
def opn (out:Int) (help:Bool) (p:Psg):Bool:=(decide (p.kind=1)||(decide (p.kind=4)&&decide (bitI out p.mach=0)))||(decide (p.kind=5)&&help)
theorem Py {out:Int} {help:Bool} {p:Psg} (h:(p.kind=1∨p.kind=4∧out/2^p.mach.toNat%2=0)∨p.kind=5∧help=true):opn out help p=true:=by
 unfold opn bitI
 simp only [Bool.or_eq_true,Bool.and_eq_true,decide_eq_true_eq]
 exact h
theorem aDm {out:Int} {help:Bool} {p:Psg} (h:(¬p.kind=1∧(¬p.kind=4∨¬out/2^p.mach.toNat%2=0))∧(¬p.kind=5∨help=false)):opn out help p=false:=by
 unfold opn bitI
 simp only [Bool.or_eq_false_iff,Bool.and_eq_false_iff,decide_eq_false_iff_not]
 exact h
def othr (p:Psg) (a:Int):Int:=if p.a=a then p.b else if p.b=a then p.a else -1
def oth (out:Int) (help:Bool) (p:Psg) (a:Int):Int:=if opn out help p=false then -1 else othr p a
inductive Wk (ps:List Psg) (out:Int) (help:Bool):Nat→Nat→Nat→List Nat→Prop
 | nil (a:Nat):Wk ps out help a a 0 []
 | cons {a b c n k:Nat} {l:List Nat} (hk:k<ps.length) (ho:oth out help (ps.getD k aFf) a=(b:Int)) (h:Wk ps out help b c n l):Wk ps out help a c ((ps.getD k aFf).ticks.toNat+n) (k::l)
def PsV (P:Nat) (ps:List Psg):Prop:=∀ k,k<ps.length→(0≤(ps.getD k aFf).a∧(ps.getD k aFf).a<P)∧(0≤(ps.getD k aFf).b∧(ps.getD k aFf).b<P)∧1≤(ps.getD k aFf).ticks∧(ps.getD k aFf).ticks≤20
theorem StV.psv {P:Nat} {ps:List Psg} {xs:List Int} (h:StV P ps xs):PsV P ps:=fun k hk=>by
 have:=dL.1 (h.pas k hk)
 omega
theorem rW {P:Nat} {ps:List Psg} (V:PsV P ps) {out:Int} {help:Bool} {k:Nat} (hk:k<ps.length) {a:Int} (h:0≤oth out help (ps.getD k aFf) a):opn out help (ps.getD k aFf)=true∧oth out help (ps.getD k aFf) a<P∧((ps.getD k aFf).a=a∧oth out help (ps.getD k aFf) a=(ps.getD k aFf).b∨(ps.getD k aFf).b=a∧oth out help (ps.getD k aFf) a=(ps.getD k aFf).a):=by
  have:=V k hk
  unfold oth othr at h ⊢
  split at h
  · omega
  · rename_i h1
    refine ⟨by simpa using h1,?_⟩
    rw [if_neg h1];split at h
    · rename_i h2;rw [if_pos h2];exact ⟨by omega,.inl ⟨h2,rfl⟩⟩
    · rename_i h2
      rw [if_neg h2];split at h
      · rename_i h3;rw [if_pos h3];exact ⟨by omega,.inr ⟨h3,rfl⟩⟩
      · omega
def FixAt (ps:List Psg) (out:Int) (help:Bool) (tk:Nat→Int) (i k:Nat):Prop:=∀ b:Nat,oth out help (ps.getD k aFf) i=(b:Int)→0≤tk b→0≤tk i∧tk i≤tk b+(ps.getD k aFf).ticks
def potF (P:Nat) (tk:Nat→Int):Int:=sm (fun i=>if tk i<0 then 1000 else tk i) P
def cntF (P:Nat) (tk:Nat→Int):Int:=sm (fun i=>if tk i<0 then 0 else 1) P
structure FarI (P:Nat) (ps:List Psg) (out:Int) (help:Bool) (to:Nat) (tk:Nat→Int):Prop where
 to0:tk to=0
 low:∀ i,-1≤tk i
 walk:∀ i,i<P→0≤tk i→∃ l,Wk ps out help i to (tk i).toNat l
 bd:∀ i,i<P→tk i≤20*(cntF P tk-1)
theorem Va {P:Nat} {tk:Nat→Int}:cntF P tk≤P:=by
 unfold cntF
 induction P with
 | zero=>exact Int.le_refl 0
 | succ n ih=>rw [sm];split <;> omega
theorem Hw {P:Nat} {tk:Nat→Int}:0≤potF P tk:=kH fun i _=>by split <;> omega
def tk0 (to:Nat) (i:Nat):Int:=if i=to then 0 else -1
section
variable {P:Nat} {ps:List Psg} {out:Int} {help:Bool} {to:Nat} {tk:Nat→Int}
theorem FarI.init (hto:to<P):FarI P ps out help to (tk0 to):=by
  have h1:tk0 to to=0:=by unfold tk0;rw [if_pos rfl]
  have hc:1≤cntF P (tk0 to):=by
    have:=Zs (f:=fun i=>if tk0 to i<0 then 0 else 1) (fun i _=>by split <;> omega) hto
    rw [h1] at this;exact this
  refine ⟨h1,fun i=>?_,fun i _ h0=>?_,fun i _=>?_⟩
  · unfold tk0;split <;> omega
  · unfold tk0 at h0 ⊢
    split at h0
    · rename_i e;subst e;rw [if_pos rfl];exact ⟨_,Wk.nil _⟩
    · omega
  · unfold tk0 at hc ⊢;split <;> omega
theorem FarI.small (I:FarI P ps out help to tk) (hP:P≤10) {i:Nat} (hi:i<P):tk i≤180:=by
 have:=I.bd i hi
 have:=Va (P:=P) (tk:=tk)
 omega
theorem FarI.relax (I:FarI P ps out help to tk) (V:PsV P ps) {i b k:Nat} (hi:i<P) (hb:b<P) (hk:k<ps.length) (ho:oth out help (ps.getD k aFf) i=(b:Int)) (h0:0≤tk b) (hl:tk i<0∨tk b+(ps.getD k aFf).ticks<tk i) :
    FarI P ps out help to (upd tk i (tk b+(ps.getD k aFf).ticks))∧potF P (upd tk i (tk b+(ps.getD k aFf).ticks))+1≤potF P tk∨900<tk b+(ps.getD k aFf).ticks:=by
  by_cases hbig:900<tk b+(ps.getD k aFf).ticks
  · exact .inr hbig
  refine .inl ?_
  have ht:1≤(ps.getD k aFf).ticks∧(ps.getD k aFf).ticks≤20:=(V k hk).2.2
  have hti:i≠to:=fun e=>by subst e;have:=I.to0;omega
  have hbi:b≠i:=fun e=>by subst e;omega
  have hc:cntF P (upd tk i (tk b+(ps.getD k aFf).ticks))=cntF P tk+(if tk i<0 then 1 else 0):=by
    unfold cntF
    rw [rL (f:=fun i=>if tk i<0 then 0 else 1) hi (fun j _ hj=>by rw [cC _ _ hj]),bQ,if_neg (by omega)];split <;> omega
  refine ⟨⟨by rw [cC _ _ (fun e=>hti e.symm)];exact I.to0,fun j=>?_,fun j hj h=>?_,fun j hj=>?_⟩,?_⟩
  · by_cases e:j=i
    · subst e;rw [bQ];omega
    · rw [cC _ _ e];exact I.low j
  · by_cases e:j=i
    · subst e
      rw [bQ];obtain ⟨l,hw⟩:=I.walk b hb h0;have:=Wk.cons hk ho hw;rw [show (tk b+(ps.getD k aFf).ticks).toNat=(ps.getD k aFf).ticks.toNat+(tk b).toNat by omega];exact ⟨_,this⟩
    · rw [cC _ _ e] at h ⊢;exact I.walk j hj h
  · rw [hc]
    have hbb:=I.bd b hb
    by_cases e:j=i
    · subst e
      rw [bQ];have:=I.bd j hj;split <;> omega
    · rw [cC _ _ e];have:=I.bd j hj;split <;> omega
  · unfold potF
    rw [rL (f:=fun i=>if tk i<0 then 1000 else tk i) hi (fun j _ hj=>by rw [cC _ _ hj]),bQ,if_neg (by omega)];split <;> omega
theorem FarI.step (I:FarI P ps out help to tk) (V:PsV P ps) (hP:P≤10) {i b k:Nat} (hi:i<P) (hb:b<P) (hk:k<ps.length) (ho:oth out help (ps.getD k aFf) i=(b:Int)) (h0:0≤tk b) (hl:tk i<0∨tk b+(ps.getD k aFf).ticks<tk i) :
    FarI P ps out help to (upd tk i (tk b+(ps.getD k aFf).ticks))∧potF P (upd tk i (tk b+(ps.getD k aFf).ticks))+1≤potF P tk:=by
  rcases I.relax V hi hb hk ho h0 hl with h|h
  · exact h
  · exfalso
    have:=I.small hP hb
    have:(ps.getD k aFf).ticks≤20:=(V k hk).2.2.2
    omega
end
theorem vN {ps:List Psg} {out:Int} {help:Bool} {tk:Nat→Int} {i k:Nat} (h:oth out help (ps.getD k aFf) i<0∨tk (oth out help (ps.getD k aFf) i).toNat<0∨(0≤tk i∧tk i≤tk (oth out help (ps.getD k aFf) i).toNat+(ps.getD k aFf).ticks)):FixAt ps out help tk i k:=fun b hb h0=>by
 rw [hb,Int.toNat_natCast] at h;omega
def b2i (b:Bool):Int:=if b=true then 1 else 0
theorem zX {P:Nat} {ps:List Psg} {out:Int} {help:Bool} {tk:Nat→Int} {m:Bool} {f k:Nat} (h:m=false→(∀ i,i<f→∀ k,k<ps.length→FixAt ps out help tk i k)∧∀ q,q<k→FixAt ps out help tk f q) (hk:FixAt ps out help tk f k) :
  m=false→(∀ i,i<f→∀ k,k<ps.length→FixAt ps out help tk i k)∧∀ q,q<k+1→FixAt ps out help tk f q:=fun e=>⟨(h e).1,fun q hq=>by
 by_cases e2:q=k
 ·subst e2;exact hk
 ·exact (h e).2 q (by omega)⟩
theorem aAq {P:Nat} {ps:List Psg} {out:Int} {help:Bool} {tk:Nat→Int} {m:Bool} {f k:Nat} (hk:ps.length≤k) (h:m=false→(∀ i,i<f→∀ k,k<ps.length→FixAt ps out help tk i k)∧∀ q,q<k→FixAt ps out help tk f q) :
  m=false→∀ i,i<f+1→∀ k,k<ps.length→FixAt ps out help tk i k:=fun e i hi q hq=>by
 by_cases e2:i=f
 ·subst e2;exact (h e).2 q (by omega)
 ·exact (h e).1 i (by omega) q hq
theorem FarI.up {P:Nat} {ps:List Psg} {out:Int} {help:Bool} {to:Nat} {tk:Nat→Int} (I:FarI P ps out help to tk) (V:PsV P ps) (hP:P≤10) {i k:Nat} {X:Int} {m:Bool} {Q:Prop} (hi:i<P) (hk:k<ps.length) (ho:0≤oth out help (ps.getD k aFf) i) (hb:oth out help (ps.getD k aFf) i<P) (h0:0≤tk (oth out help (ps.getD k aFf) i).toNat)
  (hl:tk i<0∨tk (oth out help (ps.getD k aFf) i).toNat+(ps.getD k aFf).ticks<tk i) (hp:potF P tk+b2i m≤X) :
  FarI P ps out help to (upd tk i (tk (oth out help (ps.getD k aFf) i).toNat+(ps.getD k aFf).ticks))∧potF P (upd tk i (tk (oth out help (ps.getD k aFf) i).toNat+(ps.getD k aFf).ticks))+b2i true≤X∧(true=false→Q):=by
 have h:=I.step V hP hi (b:=(oth out help (ps.getD k aFf) i).toNat) (by omega) hk (by omega) h0 hl
 have h8:b2i true=1:=rfl
 have h9:0≤b2i m:=by unfold b2i;split <;> omega
 exact ⟨h.1,by omega,fun e=>by cases e⟩
structure FarOk (P:Nat) (ps:List Psg) (out:Int) (help:Bool) (to:Nat) (tk:Nat→Int):Prop where
 to0:tk to=0
 low:∀ i,-1≤tk i
 walk:∀ i,i<P→0≤tk i→∃ l,Wk ps out help i to (tk i).toNat l
 fix:∀ i,i<P→∀ k,k<ps.length→FixAt ps out help tk i k
 sml:∀ i,i<P→tk i≤200
section
variable {P:Nat} {ps:List Psg} {out:Int} {help:Bool} {to:Nat} {tk tk':Nat→Int}
theorem FarI.done (I:FarI P ps out help to tk) (hP:P≤10) (h:∀ i,i<P→∀ k,k<ps.length→FixAt ps out help tk i k):FarOk P ps out help to tk:=
 ⟨I.to0,I.low,I.walk,h,fun i hi=>by have:=I.small hP hi;omega⟩
theorem FarOk.least (h:FarOk P ps out help to tk) (V:PsV P ps) {a c n:Nat} {l:List Nat} (W:Wk ps out help a c n l):a<P→c=to→0≤tk a∧tk a≤n:=by
  induction W with
  | nil a=>intro _ e;subst e;rw [h.to0];exact ⟨Int.le_refl 0,Int.le_refl 0⟩
  | @cons a b c n k l hk ho _ ih=>
    intro ha e;have hb:=(rW V hk (a:=(a:Int)) (by rw [ho];omega)).2.1;rw [ho] at hb;have h1:=ih (by omega) e;have h2:=h.fix a ha k hk b ho h1.1;have:=(V k hk).2.2;omega
theorem FarOk.unique (h:FarOk P ps out help to tk) (h':FarOk P ps out help to tk') (V:PsV P ps) {i:Nat} (hi:i<P):tk i=tk' i:=by
  have key:∀ {t t':Nat→Int},FarOk P ps out help to t→FarOk P ps out help to t'→0≤t i→0≤t' i∧t' i≤t i:=fun {t t'} H H' h0=>by
    obtain ⟨l,W⟩:=H.walk i hi h0;have:=H'.least V W hi rfl;omega
  have l1:=h.low i
  have l2:=h'.low i
  by_cases h0:0≤tk i
  · have h1:=key h h' h0
    have h2:=key h' h h1.1
    omega
  · by_cases h1:0≤tk' i
    · have:=key h' h h1;omega
    · omega
end
open Classical in
noncomputable def dst (P:Nat) (ps:List Psg) (out:Int) (help:Bool) (to:Nat) (i:Nat):Int:=if h:∃ tk,FarOk P ps out help to tk then (if i<P then Classical.choose h i else -1) else 0
section
variable {P:Nat} {ps:List Psg} {out:Int} {help:Bool} {to:Nat} {tk:Nat→Int}
theorem pD (V:PsV P ps) (h:FarOk P ps out help to tk) {i:Nat} (hi:i<P):dst P ps out help to i=tk i:=by
 have he:∃ tk,FarOk P ps out help to tk:=⟨tk,h⟩
 unfold dst
 rw [dif_pos he,if_pos hi];exact (Classical.choose_spec he).unique h V hi
theorem aAr (V:PsV P ps) (hto:to<P) (h:FarOk P ps out help to tk):FarOk P ps out help to (dst P ps out help to):=by
  have he:∃ tk,FarOk P ps out help to tk:=⟨tk,h⟩
  have hd:∀ i,¬ i<P→dst P ps out help to i = -1:=fun i hi=>by unfold dst;rw [dif_pos he,if_neg hi]
  refine ⟨(pD V h hto).trans h.to0,fun i=>?_,fun i hi=>?_,fun i hi k hk b hb h0=>?_,fun i hi=>?_⟩
  · by_cases hi:i<P
    · rw [pD V h hi];exact h.low i
    · rw [hd i hi];omega
  · rw [pD V h hi];exact h.walk i hi
  · have hb2:=(rW V hk (a:=(i:Int)) (by rw [hb];omega)).2.1
    rw [hb] at hb2;rw [pD V h (i:=b) (by omega)] at h0 ⊢;rw [pD V h hi];exact h.fix i hi k hk b hb h0
  · rw [pD V h hi];exact h.sml i hi
end
def stepB (ps:List Psg) (out:Int) (help:Bool) (d:Nat→Int) (at_ k:Nat):Bool:=
 decide (0≤oth out help (ps.getD k aFf) at_)&&(decide (0≤d (oth out help (ps.getD k aFf) at_).toNat)&&decide (d (oth out help (ps.getD k aFf) at_).toNat+(ps.getD k aFf).ticks=d at_))
def stepK (ps:List Psg) (out:Int) (help:Bool) (d:Nat→Int) (at_:Nat):Nat:=fstB (stepB ps out help d at_) ps.length
def wayG (ps:List Psg) (out:Int) (help:Bool) (d:Nat→Int) (to:Nat):Nat→Nat→List Nat
 | 0,_=>[]
 | g+1,a=>if a=to then [] else stepK ps out help d a::wayG ps out help d to g (oth out help (ps.getD (stepK ps out help d a) aFf) a).toNat
section
variable {P:Nat} {ps:List Psg} {out:Int} {help:Bool} {to:Nat} {d:Nat→Int}
theorem Vb {g:Nat}:wayG ps out help d to g to=[]:=by
 cases g with
 | zero=>rfl
 | succ g=>unfold wayG;rw [if_pos rfl]
theorem Vc {a k:Nat} (h1:∀ q,q<k→stepB ps out help d a q=false) (h2:stepB ps out help d a k=true) (hk:k<ps.length):stepK ps out help d a=k:=pB h1 h2 hk
theorem Vd (V:PsV P ps) {a k:Nat} (hk:k<ps.length) (h:stepB ps out help d a k=true):∃ b:Nat,oth out help (ps.getD k aFf) a=(b:Int)∧b<P∧0≤d b∧d b+(ps.getD k aFf).ticks=d a∧1≤(ps.getD k aFf).ticks:=by
 unfold stepB at h
 simp only [Bool.and_eq_true,decide_eq_true_eq] at h
 have h1:=rW V hk h.1
 have hV:=(V k hk).2.2
 exact ⟨(oth out help (ps.getD k aFf) a).toNat,by omega,by omega,h.2.1,h.2.2,hV.1⟩
theorem FarOk.step_ex (h:FarOk P ps out help to d) (V:PsV P ps) {a:Nat} (ha:a<P) (h0:0≤d a) (hne:a≠to):∃ k,k<ps.length∧stepB ps out help d a k=true:=by
  obtain ⟨l,W⟩:=h.walk a ha h0;generalize hn:(d a).toNat=n at W;cases W with
  | nil=>exact absurd rfl hne
  | @cons _ b _ n2 k l2 hk ho W2=>
    have hb:=(rW V hk (a:=(a:Int)) (by rw [ho];omega)).2.1
    rw [ho] at hb;have h1:=h.least V W2 (by omega) rfl;have h2:=h.fix a ha k hk b ho h1.1;have:=(V k hk).2.2;refine ⟨k,hk,?_⟩;unfold stepB;simp only [Bool.and_eq_true,decide_eq_true_eq];rw [ho,Int.toNat_natCast];omega
theorem FarOk.stp (h:FarOk P ps out help to d) (V:PsV P ps) {a:Nat} (ha:a<P) (h0:0≤d a) (hne:a≠to):stepK ps out help d a<ps.length∧stepB ps out help d a (stepK ps out help d a)=true∧∀ q,q<stepK ps out help d a→stepB ps out help d a q=false:=by
  obtain ⟨k,hk,hs⟩:=h.step_ex V ha h0 hne
  have key:∀ n,(∃ k,k<n∧stepB ps out help d a k=true)→fstB (stepB ps out help d a) n<n∧stepB ps out help d a (fstB (stepB ps out help d a) n)=true∧∀ q,q<fstB (stepB ps out help d a) n→stepB ps out help d a q=false:=by
    intro n;induction n with
    | zero=>rintro ⟨k,hk,_⟩;omega
    | succ n ih=>
      rintro ⟨k,hk,hs⟩;by_cases he:∃ k,k<n∧stepB ps out help d a k=true
      · obtain ⟨h1,h2,h3⟩:=ih he
        rw [fstB,if_pos h1];exact ⟨by omega,h2,h3⟩
      · have hno:∀ q,q<n→stepB ps out help d a q=false:=fun q hq=>by
          cases hb:stepB ps out help d a q with
          | false=>rfl
          | true=>exact absurd ⟨q,hq,hb⟩ he
        have hkn:k=n:=by
          by_cases e:k<n
          · exact absurd ⟨k,e,hs⟩ he
          · omega
        subst hkn;rw [fstB,jX hno,if_neg (by omega),if_pos hs];exact ⟨by omega,hs,hno⟩
  exact key _ ⟨k,hk,hs⟩
theorem Kw {a k g:Nat} (hne:a≠to) (h:stepK ps out help d a=k):wayG ps out help d to (g+1) a=k::wayG ps out help d to g (oth out help (ps.getD k aFf) a).toNat:=by
 rw [wayG,if_neg hne,h]
end
noncomputable def wayL (P:Nat) (ps:List Psg) (out:Int) (help:Bool) (fr to:Nat):List Nat:=wayG ps out help (dst P ps out help to) to (dst P ps out help to fr).toNat fr
def plOk (P:Int) (l:List Int):Bool:=allN (fun k=>decide (0≤l.getD k 0∧l.getD k 0≤P-1)) l.length
def askE (P:Int) (ps:List Psg) (xs:List Int) (out:Int) (l:List Int):Int:=
 if stE P ps xs≠0 then stE P ps xs else if (decide (0≤out∧out≤4095)&&plOk P l)=true then 0 else 1
theorem Ve {P:Int} {ps:List Psg} {xs:List Int} {out:Int} {l:List Int} (h:askE P ps xs out l=0):stE P ps xs=0∧(0≤out∧out≤4095)∧∀ k,k<l.length→0≤l.getD k 0∧l.getD k 0≤P-1:=by
  unfold askE at h
  split at h
  · omega
  · rename_i h1
    split at h
    · rename_i h2
      simp only [Bool.and_eq_true,decide_eq_true_eq] at h2
      refine ⟨by omega,h2.1,fun k hk=>?_⟩
      have:=bI.1 h2.2 k hk
      simpa using this
    · cases h
theorem Gc {P:Int} {l:List Int} {k:Nat} (hk:k<l.length) (h:¬ (0≤l.getD k 0∧l.getD k 0≤P-1)):plOk P l=false:=gL hk (decide_eq_false h)
theorem Pz {ps:List Psg} {out:Int} {help:Bool} {d:Nat→Int} {to:Nat}:∀ g a,(wayG ps out help d to g a).length≤g:=by
 intro g;induction g with
 | zero=>intro a;exact Nat.le_refl 0
 | succ g ih=>intro a;unfold wayG;split;exact Nat.zero_le _;simp only [List.length_cons];have:=ih (oth out help (ps.getD (stepK ps out help d a) aFf) a).toNat;omega
def wcl (l:List Nat) (k _j:Nat):Value := .int .i64 ((l.getD k 0:Nat):Int)
theorem Cp {l:List Nat} {x:Nat} {v:Value} (hv:v = .int .i64 (x:Int)):∀ k j,k<l.length+1→j<1→capp l.length (wcl l) (fun k' j=>([[v]].getD k' []).getD j undef) k j=wcl (l++[x]) k j:=by
  intro k j hk hj;have:j=0:=by omega
  subst this;subst hv;unfold capp wcl;by_cases h:k<l.length
  · rw [if_pos h,List.getD_eq_getElem?_getD,List.getD_eq_getElem?_getD,List.getElem?_append_left h]
  · have e:k=l.length:=by omega
    subst e;rw [if_neg h,Nat.sub_self,List.getD_eq_getElem?_getD,List.getElem?_append_right (Nat.le_refl _),Nat.sub_self];rfl
theorem xZ {x y:Int}:∀ k j,k<2→j<1→([[Value.int .i64 x],[Value.int .i64 y]].getD k []).getD j undef=icl [x,y] k j:=by
 intro k j hk hj;have:j=0:=by omega
 subst this;match k,hk with
 | 0,_=>rfl
 | 1,_=>rfl
theorem Qa {ps:List Psg} {out:Int} {help:Bool} {d:Nat→Int} {to g p k b:Nat} {wl W:List Nat} (h:wl++wayG ps out help d to g p=W) (hg:1≤g) (hne:p≠to) (hk:stepK ps out help d p=k) (hb:oth out help (ps.getD k aFf) p=(b:Int)):(wl++[k])++wayG ps out help d to (g-1) b=W:=by
 obtain ⟨g,rfl⟩:∃ n,g=n+1:=⟨g-1,by omega⟩;rw [Kw hne hk,hb,Int.toNat_natCast] at h;rw [←h,Nat.add_sub_cancel,List.append_assoc];rfl
theorem Vf {ps:List Psg} {out:Int} {help:Bool} {d:Nat→Int} {to g:Nat} {wl W:List Nat} (h:wl++wayG ps out help d to g to=W):wl=W:=by rw [Vb,List.append_nil] at h;exact h
theorem Vg {ps:List Psg} {out:Int} {help:Bool} {d:Nat→Int} {p k:Nat} (h:(0≤oth out help (ps.getD k aFf) p∧0≤d (oth out help (ps.getD k aFf) p).toNat)∧d (oth out help (ps.getD k aFf) p).toNat+(ps.getD k aFf).ticks=d p):stepB ps out help d p k=true:=by
 unfold stepB
 simp only [Bool.and_eq_true,decide_eq_true_eq]
 exact ⟨h.1.1,h.1.2,h.2⟩
theorem Vh {ps:List Psg} {out:Int} {help:Bool} {d:Nat→Int} {p k:Nat} (h:(oth out help (ps.getD k aFf) p<0∨d (oth out help (ps.getD k aFf) p).toNat<0)∨¬ d (oth out help (ps.getD k aFf) p).toNat+(ps.getD k aFf).ticks=d p):stepB ps out help d p k=false:=by
 unfold stepB
 simp only [Bool.and_eq_false_iff,decide_eq_false_iff_not]
 omega
theorem Vi {f:Nat→Bool} {k:Nat} (h:∀ q,q<k→f q=false) (hk:f k=false):∀ q,q<k+1→f q=false:=fun q hq=>by
 by_cases e:q=k
 ·subst e;exact hk
 ·exact h q (by omega)
section
variable {ps:List Psg} {out:Int} {help:Bool} {d:Nat→Int} {p:Nat} {k:Nat}
end
section
variable {ps:List Psg} {out kind:Int}
end
end
section
structure Jq where
 mach:Int
 nights:Int
 after:List Int
def Jq.zero:Jq:=⟨0,0,[]⟩
def jD (js:List Jq) (AA:Nat→Option Addr) (ac:Nat→Nat) (k:Nat):Nat→Value
 | 0 => .int .i64 (js.getD k Jq.zero).mach
 | 1 => .int .i64 (js.getD k Jq.zero).nights
 | _ => .slice (AA k) (js.getD k Jq.zero).after.length (ac k)
structure Jb where
 mach:Int
 nights:Int
 after:List Int
 A:Option Addr
 c:Nat
def Jb.zero:Jb:=⟨0,0,[],none,0⟩
def Jb.cell (h:Jb):Nat→Value
 | 0 => .int .i64 h.mach
 | 1 => .int .i64 h.nights
 | _ => .slice h.A h.after.length h.c
def rX (l:List Jb) (k j:Nat):Value:=(l.getD k Jb.zero).cell j
def Jb.q (h:Jb):Jq:=⟨h.mach,h.nights,h.after⟩
theorem aAs (l:List Jb) (k:Nat):(l.map Jb.q).getD k Jq.zero=(l.getD k Jb.zero).q:=by
 rw [List.getD_eq_getElem?_getD,List.getD_eq_getElem?_getD,List.getElem?_map];cases l[k]? <;> rfl
theorem Kx (l:List Jb):rX l=jD (l.map Jb.q) (fun k=>(l.getD k Jb.zero).A) (fun k=>(l.getD k Jb.zero).c):=by
 funext k j
 unfold rX Jb.cell jD
 rw [aAs];match j with
 | 0=>rfl
 | 1=>rfl
 | _+2=>rfl
def afP (l:List Int) (i:Nat) (q:Nat):Bool:=decide (lowA l 0 q≤l.getD q 0∧l.getD q 0≤(i:Int)-1)
def jobOk (mm:Int) (js:List Jq) (i:Nat):Bool:=decide ((0≤(js.getD i Jq.zero).mach∧(js.getD i Jq.zero).mach≤mm-1)∧(1≤(js.getD i Jq.zero).nights∧(js.getD i Jq.zero).nights≤24))&&allN (afP (js.getD i Jq.zero).after i) (js.getD i Jq.zero).after.length
def nvOk (mm n:Int):Bool:=decide (1≤n∧n≤1*2^mm.toNat-1)
def wksSz (mm:Int) (js:List Jq) (nv:List Int) (cr un:Int):Bool:=decide ((1≤mm∧mm≤12)∧(1≤js.length∧js.length≤6)∧nv.length≤20∧(1≤cr∧cr≤6)∧(1≤un∧un≤24))
def wksOk (mm:Int) (js:List Jq) (nv:List Int) (cr un:Int):Bool:=wksSz mm js nv cr un&&(allN (jobOk mm js) js.length&&allN (fun q=>nvOk mm (nv.getD q 0)) nv.length)
def wksE (mm:Int) (js:List Jq) (nv:List Int) (cr un:Int):Int:=if wksOk mm js nv cr un=true then 0 else 92
structure WkV (mm:Int) (js:List Jq) (nv:List Int) (cr un:Int):Prop where
 mmb:1≤mm∧mm≤12
 nj:1≤js.length∧js.length≤6
 nn:nv.length≤20
 crb:1≤cr∧cr≤6
 unb:1≤un∧un≤24
 job:∀ i,i<js.length→(0≤(js.getD i Jq.zero).mach∧(js.getD i Jq.zero).mach≤mm-1)∧(1≤(js.getD i Jq.zero).nights∧(js.getD i Jq.zero).nights≤24)
 aft:∀ i,i<js.length→∀ q,q<(js.getD i Jq.zero).after.length→lowA (js.getD i Jq.zero).after 0 q≤(js.getD i Jq.zero).after.getD q 0∧(js.getD i Jq.zero).after.getD q 0≤(i:Int)-1
 nev:∀ q,q<nv.length→1≤nv.getD q 0∧nv.getD q 0≤1*2^mm.toNat-1
section
variable {mm cr un:Int} {js:List Jq} {nv:List Int} {i k q:Nat}
theorem rY (h:wksE mm js nv cr un=0):WkV mm js nv cr un:=by
  unfold wksE at h
  split at h
  · rename_i h1
    unfold wksOk wksSz at h1
    rw [Bool.and_eq_true,Bool.and_eq_true,decide_eq_true_eq,bI,bI] at h1;obtain ⟨⟨h2,h3,h4,h5,h6⟩,h7,h8⟩:=h1;refine ⟨h2,h3,h4,h5,h6,fun i hi=>?_,fun i hi q hq=>?_,fun q hq=>of_decide_eq_true (h8 q hq)⟩
    · have h9:=h7 i hi
      unfold jobOk at h9
      rw [Bool.and_eq_true] at h9;exact of_decide_eq_true h9.1
    · have h9:=h7 i hi
      unfold jobOk at h9
      rw [Bool.and_eq_true,bI] at h9;exact of_decide_eq_true (h9.2 q hq)
  · cases h
theorem Cq (h:WkV mm js nv cr un):wksE mm js nv cr un=0:=by
 unfold wksE
 rw [if_pos];unfold wksOk wksSz;rw [Bool.and_eq_true,Bool.and_eq_true,decide_eq_true_eq,bI,bI];refine ⟨⟨h.mmb,h.nj,h.nn,h.crb,h.unb⟩,fun i hi=>?_,fun q hq=>decide_eq_true (h.nev q hq)⟩;unfold jobOk;rw [Bool.and_eq_true,bI];exact ⟨decide_eq_true (h.job i hi),fun q hq=>decide_eq_true (h.aft i hi q hq)⟩
theorem tY (h:¬ WkV mm js nv cr un):wksE mm js nv cr un=92:=by
 unfold wksE
 rw [if_neg];intro h2;exact h (rY (by unfold wksE;rw [if_pos h2]))
theorem WkV.never (h:WkV mm js nv cr un) {nv':List Int} (h1:nv'.length≤20) (h2:∀ q,q<nv'.length→1≤nv'.getD q 0∧nv'.getD q 0≤1*2^mm.toNat-1):WkV mm js nv' cr un:=
 ⟨h.mmb,h.nj,h1,h.crb,h.unb,h.job,h.aft,h2⟩
end
def lorW (a b:Int):Int:=((a.toNat ||| b.toNat:Nat):Int)
section
variable {P:Program} {L:List (Nat×Value)} {w:World} {d:Option Nat} {ty:TypeId} {pos:String} {af:Array Edge} {g:Option (Nat×Bool)}
theorem Ky {x y:Operand} {xt yt:TypeId} {m k:Int} (hx:ev L x=some (.int .i64 m)) (hy:ev L y=some (.int .i64 k)) (hm:0≤m∧m<2^20) (hk:0≤k∧k<2^20) :
  Does P L ⟨d,.binOp .or xt x y yt,ty,pos,af,g⟩ w (.int .i64 (lorW m k)):=fun ρ hρ=>by
 obtain ⟨m,rfl⟩:∃ n:Nat,m=n:=⟨m.toNat,by omega⟩;obtain ⟨k,rfl⟩:∃ n:Nat,k=n:=⟨k.toNat,by omega⟩
 have e0:((BitVec.ofInt 64 (m:Int) ||| BitVec.ofInt 64 (k:Int)).toNat)=m ||| k:=by
  rw [BitVec.toNat_or,BitVec.ofInt_natCast,BitVec.ofInt_natCast,BitVec.toNat_ofNat,BitVec.toNat_ofNat,Nat.mod_eq_of_lt (by omega),Nat.mod_eq_of_lt (by omega)]
 have hle:m ||| k<2^20:=Nat.or_lt_two_pow (by have:=hm.2;omega) (by have:=hk.2;omega)
 have e1:IntKind.i64.wrap ((BitVec.ofInt 64 (m:Int) ||| BitVec.ofInt 64 (k:Int)).toNat:Int)=((m ||| k:Nat):Int):=by
  rw [e0];exact i64ok.eq ⟨by omega,by omega⟩
 have e:Op.intBits .or .i64 (m:Int) (k:Int)=pure (.int .i64 (lorW m k)):=by
  unfold lorW
  rw [Int.toNat_natCast,Int.toNat_natCast];exact congrArg (fun z=>(pure (Value.int .i64 z):Sem Value)) e1
 simp [execOp,hρ _ _ hx,hρ _ _ hy,eqGuard,binOp,e]
end
section
variable (js:List Jq) (st:List Int) (d:Int)
def atB (i:Nat):Bool:=decide (st.getD i 0≤d)&&decide (d<st.getD i 0+(js.getD i Jq.zero).nights)
def nSet:Nat→Int
 | 0=>0
 | i+1=>if atB js st d i=true then lorW (nSet i) (1*2^(js.getD i Jq.zero).mach.toNat) else nSet i
def nJobs:Nat→Int
 | 0=>0
 | i+1=>if atB js st d i=true then nJobs i+1 else nJobs i
def iG:Nat→Bool
 | 0=>false
 | i+1=>if atB js st d i=true then iG i||decide (nSet js st d i/2^(js.getD i Jq.zero).mach.toNat%2=1) else iG i
end
structure WkR (js:List Jq) (nv:List Int) (cr un:Int) (st:List Int):Prop where
 start:∀ i,i<js.length→0≤st.getD i 0∧st.getD i 0≤un-(js.getD i Jq.zero).nights
 tw:∀ n:Nat,(n:Int)<un→iG js st n js.length=false
 crew:∀ n:Nat,(n:Int)<un→nJobs js st n js.length≤cr
 nev:∀ n:Nat,(n:Int)<un→∀ q,q<nv.length→¬ landI (nSet js st n js.length) (nv.getD q 0)=nv.getD q 0
section
variable {mm cr un d:Int} {js:List Jq} {nv st:List Int} {i k:Nat}
theorem tZ (V:WkV mm js nv cr un):∀ i,i≤js.length→0≤nSet js st d i∧nSet js st d i<2^mm.toNat:=by
  intro i;induction i with
  | zero=>
    intro _;refine ⟨Int.le_refl 0,?_⟩;have e:(2:Int)^mm.toNat=((2^mm.toNat:Nat):Int):=(Int.natCast_pow 2 mm.toNat).symm;rw [e];have:=Nat.pow_pos (n:=mm.toNat) (show 0<2 by decide);show (0:Int)<_;omega
  | succ i ih=>
    intro hi;have h1:=ih (by omega);rw [nSet];split
    · have hj:=(V.job i (by omega)).1
      have e:(2:Int)^mm.toNat=((2^mm.toNat:Nat):Int):=(Int.natCast_pow 2 mm.toNat).symm
      have e2:(1:Int)*2^(js.getD i Jq.zero).mach.toNat=((2^(js.getD i Jq.zero).mach.toNat:Nat):Int):=by rw [Int.one_mul];exact (Int.natCast_pow 2 _).symm
      have hlt:2^(js.getD i Jq.zero).mach.toNat<2^mm.toNat:=Nat.pow_lt_pow_right (by decide) (by omega)
      unfold lorW
      rw [e2,Int.toNat_natCast,e];refine ⟨Int.natCast_nonneg _,?_⟩;rw [e] at h1;exact_mod_cast Nat.or_lt_two_pow (by omega) hlt
    · exact h1
theorem Qb:∀ i,0≤nJobs js st d i∧nJobs js st d i≤i:=by
 intro i;induction i with
 | zero=>exact ⟨Int.le_refl 0,Int.le_refl 0⟩
 | succ i ih=>rw [nJobs];split <;> omega
theorem pw12 {m:Int} (h:0≤m∧m≤12):(1:Int)≤2^m.toNat∧(2:Int)^m.toNat≤4096:=by
 have e:(2:Int)^m.toNat=((2^m.toNat:Nat):Int):=(Int.natCast_pow 2 m.toNat).symm
 have h1:=Nat.pow_pos (n:=m.toNat) (show 0<2 by decide)
 have h2:2^m.toNat≤2^12:=Nat.pow_le_pow_right (by decide) (by omega)
 rw [e];omega
end
end
section
def odV (U:Nat) (l:List Int):Nat→Nat
 | 0=>0
 | n+1=>odV U l n*U+(l.getD n 0).toNat
section
variable {U n i:Nat} {l l':List Int}
theorem aAt (h:∀ k,k<n→0≤l.getD k 0∧l.getD k 0<U):odV U l n<U^n:=by
  induction n with
  | zero=>exact Nat.lt_succ_self 0
  | succ n ih=>
    have h1:=ih fun k hk=>h k (by omega)
    have h2:=h n (by omega)
    have h3:(odV U l n+1)*U≤U^n*U:=Nat.mul_le_mul_right U h1
    rw [odV,Nat.pow_succ];rw [Nat.add_mul,Nat.one_mul] at h3;omega
theorem Vj (h:∀ k,k<n→l'.getD k 0=l.getD k 0):odV U l' n=odV U l n:=by
 induction n with
 | zero=>rfl
 | succ n ih=>rw [odV,odV,ih fun k hk=>h k (by omega),h n (by omega)]
theorem Qc (hp:∀ k,k<i→l'.getD k 0=l.getD k 0) (h0:0≤l.getD i 0) (h1:l'.getD i 0=l.getD i 0+1):∀ m,(∀ k,i<k→k<i+1+m→l.getD k 0=(U:Int)-1∧1≤U∧l'.getD k 0=0)→odV U l' (i+1+m)=odV U l (i+1+m)+1:=by
  intro m;induction m with
  | zero=>
    intro _;show odV U l' (i+1)=odV U l (i+1)+1;rw [odV,odV,Vj hp,h1];omega
  | succ m ih=>
    intro h;have h2:=ih fun k hk hk2=>h k hk (by omega)
    obtain ⟨h3,h4,h5⟩:=h (i+1+m) (by omega) (by omega);show odV U l' (i+1+m+1)=odV U l (i+1+m+1)+1;rw [odV,odV,h2,h3,h5,Nat.add_mul,Nat.one_mul];have h6:((U:Int)-1).toNat=U-1:=by omega
    rw [h6];show _+0=_;omega
end
def endV (js:List Jq) (st:List Int):Nat→Int
 | 0=>0
 | i+1=>max (endV js st i) (st.getD i 0+(js.getD i Jq.zero).nights)
theorem Vk {js:List Jq} {st:List Int} {B:Int} (hB:0≤B):∀ i,(∀ k,k<i→st.getD k 0+(js.getD k Jq.zero).nights≤B)→0≤endV js st i∧endV js st i≤B:=by
  intro i;induction i with
  | zero=>intro _;exact ⟨Int.le_refl 0,hB⟩
  | succ i ih=>
    intro h;have h1:=ih fun k hk=>h k (by omega)
    have h2:=h i (by omega)
    rw [endV];omega
def odZ (pl:List Int) (i:Int):List Int:=(List.range pl.length).map fun (q:Nat)=>if i<(q:Int) then 0 else pl.getD q 0
def odN (pl:List Int) (i:Int):List Int:=(List.range pl.length).map fun (q:Nat)=>if i<(q:Int) then 0 else if (q:Int)=i then pl.getD q 0+1 else pl.getD q 0
section
variable {pl:List Int} {i:Int} {q:Nat}
theorem odN_len:(odN pl i).length=pl.length:=by unfold odN;rw [List.length_map,List.length_range]
theorem pE (h:q<pl.length):(odZ pl i).getD q 0=if i<(q:Int) then 0 else pl.getD q 0:=by
 unfold odZ
 rw [List.getD_eq_getElem?_getD,List.getElem?_map,List.getElem?_range h];rfl
theorem vO (h:q<pl.length):(odN pl i).getD q 0=if i<(q:Int) then 0 else if (q:Int)=i then pl.getD q 0+1 else pl.getD q 0:=by
 unfold odN
 rw [List.getD_eq_getElem?_getD,List.getElem?_map,List.getElem?_range h];rfl
theorem Qd:∀ k j,k<pl.length→j<1→icl pl k j=icl (odZ pl ((pl.length:Int)-1)) k j:=fun k j hk _=>by
 unfold icl
 rw [pE hk,if_neg (by omega)]
theorem Vl (h:0≤i):∀ k j,k<pl.length→j<1→cput (icl (odZ pl i)) i.toNat 0 (.int .i64 0) k j=icl (odZ pl (i-1)) k j:=fun k j hk hj=>by
  have:j=0:=by omega
  subst this;unfold cput icl;rw [pE hk];by_cases e:k=i.toNat
  · rw [if_pos ⟨e,rfl⟩,pE hk,if_pos (by omega)]
  · rw [if_neg (fun h=>e h.1),pE hk]
    by_cases h2:i<(k:Int)
    · rw [if_pos h2,if_pos (by omega)]
    · rw [if_neg h2,if_neg (by omega)]
theorem Vm (h:0≤i) (hi:i.toNat<pl.length):∀ k j,k<pl.length→j<1→cput (icl (odZ pl i)) i.toNat 0 (.int .i64 ((odZ pl i).getD i.toNat 0+1)) k j=icl (odN pl i) k j:=fun k j hk hj=>by
  have:j=0:=by omega
  subst this;unfold cput icl;rw [vO hk,pE hi,if_neg (show ¬ i<((i.toNat:Nat):Int) by omega)];by_cases e:k=i.toNat
  · subst e;rw [if_pos ⟨rfl,rfl⟩,if_neg (by omega),if_pos (by omega)]
  · rw [if_neg (fun h=>e h.1),pE hk]
    by_cases h2:i<(k:Int)
    · rw [if_pos h2,if_pos h2]
    · rw [if_neg h2,if_neg h2,if_neg (by omega)]
theorem Qe {un:Int} (hu:1≤un) (h:∀ k,k<pl.length→0≤pl.getD k 0∧pl.getD k 0≤un-1) (h0:0≤i) (hi:i<pl.length) (hn:¬ pl.getD i.toNat 0=un-1) (ha:∀ k:Nat,i<(k:Int)→k<pl.length→pl.getD k 0=un-1) :
    (∀ k,k<(odN pl i).length→0≤(odN pl i).getD k 0∧(odN pl i).getD k 0≤un-1)∧odV un.toNat (odN pl i) pl.length=odV un.toNat pl pl.length+1:=by
  obtain ⟨n,rfl⟩:∃ n:Nat,i=n:=⟨i.toNat,by omega⟩;rw [Int.toNat_natCast] at hn;refine ⟨fun k hk=>?_,?_⟩
  · rw [odN_len] at hk
    have h1:=h k hk
    rw [vO hk];split
    · omega
    · split
      · have e:k=n:=by omega
        subst e;omega
      · exact h1
  · have h1:=Qc (U:=un.toNat) (l:=pl) (l':=odN pl n) (i:=n) (fun k hk=>by rw [vO (by omega),if_neg (by omega),if_neg (by omega)]) (h n (by omega)).1 (by rw [vO (by omega),if_neg (by omega),if_pos rfl]) (pl.length-n-1) (fun k hk hk2=>⟨by have:=ha k (by omega) (by omega);omega,by omega,by rw [vO (by omega),if_pos (by omega)]⟩)
    rw [show n+1+(pl.length-n-1)=pl.length by omega] at h1;exact h1
end
end
section
theorem Qf {l:List Int} {i:Int} {q:Nat} {n:Nat} (hi:i=n) (h:lowA l 0 q≤l.getD q 0∧l.getD q 0≤i-1):afP l n q=true:=by
 subst hi;unfold afP;exact decide_eq_true h
theorem Qg {l:List Int} {q:Nat} {n:Nat} (h:l.getD q 0<lowA l 0 q∨(n:Int)-1<l.getD q 0):afP l n q=false:=by
 unfold afP;exact decide_eq_false (by omega)
theorem Hx {l:List Int} {k:Nat}:lowA l 0 (k+1)=l.getD k 0+1:=by unfold lowA;rw [if_neg (by omega)];rfl
section
variable {mm cr un:Int} {js:List Jq} {nv:List Int} {i k q:Nat}
theorem Hy (h:¬ ((1≤mm∧mm≤12)∧(1≤js.length∧js.length≤6)∧nv.length≤20∧(1≤cr∧cr≤6)∧(1≤un∧un≤24))):wksE mm js nv cr un=92:=tY fun V=>h ⟨V.mmb,V.nj,V.nn,V.crb,V.unb⟩
theorem Hz (hi:i<js.length) (h:¬ ((0≤(js.getD i Jq.zero).mach∧(js.getD i Jq.zero).mach≤mm-1)∧(1≤(js.getD i Jq.zero).nights∧(js.getD i Jq.zero).nights≤24))):wksE mm js nv cr un=92:=tY fun V=>h (V.job i hi)
theorem Ia (hi:i<js.length) (hq:q<(js.getD i Jq.zero).after.length) (h:afP (js.getD i Jq.zero).after i q=false):wksE mm js nv cr un=92:=tY fun V=>by
 unfold afP at h
 exact of_decide_eq_false h (V.aft i hi q hq)
theorem Ib (hq:q<nv.length) (h:nvOk mm (nv.getD q 0)=false):wksE mm js nv cr un=92:=tY fun V=>by
 unfold nvOk at h
 exact of_decide_eq_false h (V.nev q hq)
theorem Zk (h1:(1≤mm∧mm≤12)∧(1≤js.length∧js.length≤6)∧nv.length≤20∧(1≤cr∧cr≤6)∧(1≤un∧un≤24)) (h2:∀ i,i<js.length→((0≤(js.getD i Jq.zero).mach∧(js.getD i Jq.zero).mach≤mm-1)∧(1≤(js.getD i Jq.zero).nights∧(js.getD i Jq.zero).nights≤24))∧∀ q,q<(js.getD i Jq.zero).after.length→afP (js.getD i Jq.zero).after i q=true)
  (h3:∀ q,q<nv.length→nvOk mm (nv.getD q 0)=true):wksE mm js nv cr un=0:=Cq ⟨h1.1,h1.2.1,h1.2.2.1,h1.2.2.2.1,h1.2.2.2.2,fun i hi=>(h2 i hi).1,fun i hi q hq=>by
 have h4:=(h2 i hi).2 q hq
 unfold afP at h4
 exact of_decide_eq_true h4,fun q hq=>by
 have h4:=h3 q hq
 unfold nvOk at h4
 exact of_decide_eq_true h4⟩
theorem kR {p:Nat→Prop} (h:∀ z,z<q→p z) (h1:p q):∀ z,z<q+1→p z:=fun z hz=>by
 by_cases e:z=q
 ·subst e;exact h1
 ·exact h z (by omega)
theorem pwm (h:1≤mm∧mm≤12):(2:Int)≤1*2^mm.toNat∧(1:Int)*2^mm.toNat≤4096:=by
 have e:(2:Int)^mm.toNat=((2^mm.toNat:Nat):Int):=(Int.natCast_pow 2 mm.toNat).symm
 have h1:2^1≤2^mm.toNat:=Nat.pow_le_pow_right (by decide) (by omega)
 have h2:2^mm.toNat≤2^12:=Nat.pow_le_pow_right (by decide) (by omega)
 rw [Int.one_mul,e];omega
def farN (un:Int):Nat→Int
 | 0=>1
 | i+1=>if (0<un∧un≤24)∧farN un i≤20000 then farN un i*un else farN un i
def farW (js:List Jq) (nv:List Int) (un:Int):Bool:=(decide (10<(js.length:Int))||decide (30<(nv.length:Int)))||(!allN (fun i=>!decide (10<((js.getD i Jq.zero).after.length:Int))) js.length||(decide (20000<farN un js.length)&&decide (farN un js.length≤200000)))
theorem zY:∀ i,1≤farN un i∧farN un i≤480000:=by
  intro i;induction i with
  | zero=>exact ⟨Int.le_refl 1,by show (1:Int)≤480000;decide⟩
  | succ i ih=>
    rw [farN];split
    · rename_i h
      have h1:farN un i*un≤20000*24:=Int.mul_le_mul h.2 h.1.2 (by omega) (by decide)
      have h2:1*1≤farN un i*un:=Int.mul_le_mul ih.1 (by omega) (by omega) (by omega)
      omega
    · exact ih
theorem Qh (h:(0<un∧un≤24)∧farN un i≤20000):0≤farN un i*un∧farN un i*un≤480000:=by
 have h1:=zY (un:=un) i
 have h2:farN un i*un≤20000*24:=Int.mul_le_mul h.2 h.1.2 (by omega) (by decide)
 exact ⟨Int.mul_nonneg (by omega) (by omega),by omega⟩
theorem aAu (h:(0<un∧un≤24)∧farN un i≤20000):farN un i*un=farN un (i+1):=by rw [farN,if_pos h]
theorem aAv (h:¬ ((0<un∧un≤24)∧farN un i≤20000)):farN un i=farN un (i+1):=by rw [farN,if_neg h]
theorem aAw (h:10<(js.length:Int)∨30<(nv.length:Int)):farW js nv un=true:=by
 unfold farW
 rcases h with h|h
 ·rw [decide_eq_true h];rfl
 ·rw [decide_eq_true h];simp
theorem aAx (hi:i<js.length) (h:10<((js.getD i Jq.zero).after.length:Int)):farW js nv un=true:=by
 unfold farW
 have h2:allN (fun i=>!decide (10<((js.getD i Jq.zero).after.length:Int))) js.length=false:=by
  rw [←Bool.not_eq_true,bI];intro h3;have:=h3 i hi;rw [decide_eq_true h] at this;cases this
 rw [h2];simp
theorem aAy (h0:¬ (10<(js.length:Int)∨30<(nv.length:Int))) (h:∀ i,i<js.length→¬ 10<((js.getD i Jq.zero).after.length:Int)):farW js nv un=(decide (20000<farN un js.length)&&decide (farN un js.length≤200000)):=by
 unfold farW
 have h2:allN (fun i=>!decide (10<((js.getD i Jq.zero).after.length:Int))) js.length=true:=bI.2 fun i hi=>by rw [decide_eq_false (h i hi)];rfl
 rw [h2,decide_eq_false (fun h9=>h0 (.inl h9)),decide_eq_false (fun h9=>h0 (.inr h9))];rfl
end
def lstW (l:List Int) (i:Int):Nat→Int
 | 0=>i
 | q+1=>l.getD q 0
theorem oD {l:List Int}:∀ {q},lowA l 0 q=lstW l (-1) q+1:=fun {q}=>by
 cases q with
 | zero=>rfl
 | succ q=>unfold lowA;rw [if_neg (by omega)];rfl
theorem Qi {l:List Int} {i q:Nat} (hi:i≤6) (h:∀ z,z<q→afP l i z=true) : -1≤lstW l (-1) q∧lstW l (-1) q≤1000:=by
  have hb:∀ q,(∀ z,z<q→afP l i z=true)→0≤lowA l 0 q∧lowA l 0 q≤i:=by
    intro q;induction q with
    | zero=>intro _;exact ⟨Int.le_refl 0,by show (0:Int)≤(i:Int);omega⟩
    | succ q ih=>
      intro h;have h1:=ih fun z hz=>h z (by omega)
      have h2:=h q (by omega)
      unfold afP at h2
      have h3:=of_decide_eq_true h2
      rw [Hx];omega
  have:=hb q h
  rw [oD] at this;omega
theorem gP (n lo hi:Int) (w:World) :
    Calls Tryz.prog 67 [.int .i64 n,.int .i64 lo,.int .i64 hi].toArray w (Ret (fun v w'=>v = .bool (decide (lo≤n)&&decide (n≤hi))∧w'=w)):=by
 refine enter Tryz.func67 rfl Tryz.ntmps67 rfl (fun a H=>?_)
 have S:=St.start w
 refine sS H fun K1 k1=>sr 1 G<|sE ?_;intro a H
 refine k1 _ ?_;replace H:=H.keep [0,1,2] rfl;refine sS H fun K2 k2=>sr 4 G<|sg 3 3 10 13 true G G (fun hg4=>sy hg4<|sr 1 G<|sy hg4<|sr 1 G<|sy hg4<|sr 1 G<|sz 3 G G G)<|sa G G G<|sr 1 G<|sE ?_;intro a H
 refine k2 _ ?_;refine wp_ret ?_;refine ret1 (fn:=Tryz.f67) rfl H rfl ?_;exact ⟨rfl,rfl⟩
theorem aAz (mm:Int) (js:List Jq) (JA:Option Addr) (jc:Nat) (AA:Nat→Option Addr) (ac:Nat→Nat) (nv:List Int) (NA:Option Addr) (nc:Nat) (cr un:Int) (w:World) (hjs:InS w noF 3 JA js.length (jD js AA ac)) (hnv:InS w noF 1 NA nv.length (icl nv)) (haf:∀ k,k<js.length→InS w noF 1 (AA k) (js.getD k Jq.zero).after.length (icl (js.getD k Jq.zero).after)) (hjn:js.length≤9223372036854775807) (hnn:nv.length≤9223372036854775807) (han:∀ k,k<js.length→(js.getD k Jq.zero).after.length≤9223372036854775807) :
    Calls Tryz.prog 7 [.agg [.int .i64 mm,.slice JA js.length jc,.slice NA nv.length nc,.int .i64 cr,.int .i64 un].toArray].toArray w (Ret (fun u w'=>u = .bool (farW js nv un)∧St w noF [] w')):=by
 refine enter Tryz.func7 rfl Tryz.ntmps7 rfl (fun a H=>?_)
 have S:=St.start w
 refine seq_list fun K1 k1=>?_
 refine aO H rfl S G G ?_;intro b1 _ a hb1 hbw1 S H
 refine ls 1 H<|sr 1 G<|sE ?_;clear H a;intro a H
 refine k1 _ _ ?_;refine wp_seq_k fun K2 k2=>?_
 replace H:=H.keep [1] rfl
 refine sS H fun K3 k3=>sf dC rfl<|sl S 0 eJ G G G<|sL eW rfl<|sr 2 G<|sg 4 4 9 13 false G G (fun hg5=>by
     have hq5:=hg5;try simp only [oz] at hq5
     exact sy hg5<|sf jM rfl<|sy hg5<|sl S 0 bE G G G<|sy hg5<|sL aP rfl<|sy hg5<|sr 1 G<|sz 4 G G G)<|so G G G<|sE ?_;clear H a;intro a H
 refine k3 _ ?_;refine cond_ H rfl (fun hc1=>?_) (fun hc1=>?_)
 ·skip
  try simp only [oz] at hc1
  replace H:=H.keep [] rfl;refine sS H fun K4 k4=>sr 1 G<|sE ?_;clear H a;intro a H
  refine k4 _ ?_;refine wp_ret ?_;refine ret1 (fn:=Tryz.f7) rfl H rfl ?_;rw [aAw (by omega)];exact ⟨rfl,(S.sel [] G G)⟩
 try simp only [oz] at hc1
 refine wp_skip ?_;refine k2 _ _ ?_;refine sS H fun K5 k5=>sr 1 G<|sE ?_;clear H a;intro a H
 refine k5 _ ?_;refine wp_seq_k fun K6 k6=>?_
 refine sS H fun K7 k7=>sr 1 G<|sE ?_;clear H a;intro a H
 refine k7 _ ?_;refine wp_block ?_;rw [show (1:Int)=farN un 0 from rfl] at H;refine loop_st (X:=Nat) (R0:=_) [1] H rfl (fun i=>[(3,.int .i64 (farN un i)),(4,.int .i64 (i:Int))]) (fun i=>[]) (fun g i=>i≤js.length∧g+i=js.length∧∀ k,k<i→¬ 10<((js.getD k Jq.zero).after.length:Int)) (js.length) 0 ?_ (S.sel [0] G G) (H.keep [3,4,1] rfl) ?_
 · exact ⟨by omega,by omega,fun k hk=>absurd hk (Nat.not_lt_zero k)⟩
 clear H S a;intro g1 x1 a w1 hp S H K8 k8;obtain ⟨i,rfl⟩:∃ y,y=x1:=⟨_,rfl⟩;refine wp_seq_k fun K9 k9=>?_
 refine sS H fun K10 k10=>sr 1 G<|sf dC rfl<|sl S 0 eJ G G G<|sL eW rfl<|sr 1 G<|sE ?_;clear H a;intro a H
 refine k10 _ ?_;refine condL H rfl (fun hc2=>?_) (fun hc2=>?_)
 ·skip
  refine wp_skip ?_;refine k9 _ _ ?_;refine wp_seq_k fun K11 k11=>?_
  refine wp_block ?_;refine wp_seq_k fun K12 k12=>?_
  replace H:=H.keep [1,3,4] rfl;refine sS H fun K13 k13=>sf dC rfl<|sl S 0 eJ G G G<|sr 1 G<|si eW dV G G (hjs.adr (by omega)) (by omega)<|sp lN rfl<|slm bE rfl (hjs.rd S (by omega) (by omega))<|sL aP rfl<|sr 1 G<|sE ?_;clear H a;intro a H
  refine k13 _ ?_;refine condL H rfl (fun hc3=>?_) (fun hc3=>?_)
  ·skip
   refine sS H fun K14 k14=>sr 1 G<|sE ?_;clear H a;intro a H
   refine k14 _ ?_;refine wp_ret ?_;refine ret1 (fn:=Tryz.f7) rfl H rfl ?_;rw [aAx (i:=i) (by omega) hc3];exact ⟨rfl,(S.sel [] G G)⟩
  refine wp_skip ?_;refine k12 _ _ ?_;have hfb:=zY (un:=un) i;replace H:=H.keep [1,3,4] rfl
  refine sS H fun K15 k15=>sf fI rfl<|sl S 0 aD G G G<|sr 2 G<|sg 3 3 33 36 true G G (fun hg4=>by
      have hq4:=hg4;try simp only [oz] at hq4
      exact sy hg4<|sf fI rfl<|sy hg4<|sl S 0 aD G G G<|sy hg4<|sr 1 G<|sz 3 G G G)<|sa G G G<|sr 1 G<|sg 2 8 38 40 true G G (fun hg9=>by
      have hq9:=hg9;try simp only [oz] at hq9
      exact sy hg9<|sr 1 G<|sy hg9<|sr 1 G<|sz 2 G G G)<|sa G G G<|sE ?_;clear H a;intro a H
  refine k15 _ ?_;refine cond_ H rfl (fun hc4=>?_) (fun hc4=>?_)
  ·skip
   try simp only [oz] at hc4
   have hfm:=Qh hc4
   replace H:=H.keep [1,3,4] rfl;refine sO H<|sr 1 G<|sf fI rfl<|sl S 0 aD G G G<|sd (fY G G (by unfold i64ok;omega))<|sr 1 G<|sE ?_;clear H a;intro a H
   refine k11 _ _ ?_;refine sO H<|sr 1 G<|sd (aI G G (by unfold i64ok;omega))<|sr 1 G<|sE ?_;clear H a;intro a H
   rw [aAu hc4] at H;exact k8 (g1-1) (i+1) a _ (by omega) (⟨by omega,by omega,kR hp.2.2 (by omega)⟩) (S.sel [0] G G) (H.keep [3,4,1] rfl)
  try simp only [oz] at hc4
  refine wp_skip ?_;refine k11 _ _ ?_;replace H:=H.keep [1,3,4] rfl;refine sO H<|sr 1 G<|sd (aI G G (by unfold i64ok;omega))<|sr 1 G<|sE ?_;clear H a;intro a H
  rw [aAv (by omega)] at H;exact k8 (g1-1) (i+1) a _ (by omega) (⟨by omega,by omega,kR hp.2.2 (by omega)⟩) (S.sel [0] G G) (H.keep [3,4,1] rfl)
 refine wp_exit ?_;refine k6 _ _ ?_;obtain rfl:i=js.length:=by omega
 have hfb:=zY (un:=un) js.length
 replace H:=H.keep [3] rfl
 refine sS H fun K19 k19=>sr 3 G<|sg 2 2 48 50 true G G (fun hg3=>by
     have hq3:=hg3;try simp only [oz] at hq3
     exact sy hg3<|sr 1 G<|sy hg3<|sr 1 G<|sz 2 G G G)<|sa G G G<|sr 1 G<|sE ?_;intro a H
 refine k19 _ ?_;refine wp_ret ?_;refine ret1 (fn:=Tryz.f7) rfl H rfl ?_;rw [aAy (by omega) hp.2.2];exact ⟨rfl,(S.sel [] G G)⟩
theorem xJ (mm:Int) (js:List Jq) (JA:Option Addr) (jc:Nat) (AA:Nat→Option Addr) (ac:Nat→Nat) (nv:List Int) (NA:Option Addr) (nc:Nat) (cr un:Int) (w:World) (hjs:InS w noF 3 JA js.length (jD js AA ac)) (hnv:InS w noF 1 NA nv.length (icl nv)) (haf:∀ k,k<js.length→InS w noF 1 (AA k) (js.getD k Jq.zero).after.length (icl (js.getD k Jq.zero).after)) (hjn:js.length≤9223372036854775807) (hnn:nv.length≤9223372036854775807) (han:∀ k,k<js.length→(js.getD k Jq.zero).after.length≤9223372036854775807) :
    Calls Tryz.prog 26 [.agg [.int .i64 mm,.slice JA js.length jc,.slice NA nv.length nc,.int .i64 cr,.int .i64 un].toArray].toArray w (Ret (fun u w'=>u = .int .i64 (wksE mm js nv cr un)∧St w noF [] w')):=by
 refine enter Tryz.func26 rfl Tryz.ntmps26 rfl (fun a H=>?_)
 have S:=St.start w
 refine seq_list fun K1 k1=>?_
 refine aO H rfl S G G ?_;intro b1 _ a hb1 hbw1 S H
 refine ls 1 H<|sr 1 G<|sE ?_;clear H a;intro a H
 refine k1 _ _ ?_;refine wp_seq_k fun K2 k2=>?_
 replace H:=H.keep [1] rfl
 refine sS H fun K3 k3=>sf jL rfl<|sl S 0 aD G G G<|sc rfl Tryz.func67 G G (gP _ _ _ _)<|sr 2 G<|sg 5 4 12 17 false G G (fun hg5=>by
     have hq5:=hg5;try simp only [oz] at hq5
     exact sy hg5<|sf dC rfl<|sy hg5<|sl S 0 eJ G G G<|sy hg5<|sL eW rfl<|sy hg5<|sc rfl Tryz.func67 G G (gP _ _ _ _)<|sy hg5<|sr 1 G<|sz 5 G G G)<|so G G G<|sr 1 G<|sg 4 11 19 23 false G G (fun hg12=>by
     have hq12:=hg12;try simp only [oz] at hq12
     exact sy hg12<|sf jM rfl<|sy hg12<|sl S 0 bE G G G<|sy hg12<|sL aP rfl<|sy hg12<|sr 1 G<|sz 4 G G G)<|so G G G<|sr 1 G<|sg 4 17 25 29 false G G (fun hg18=>by
     have hq18:=hg18;try simp only [oz] at hq18
     exact sy hg18<|sf tP rfl<|sy hg18<|sl S 0 aD G G G<|sy hg18<|sc rfl Tryz.func67 G G (gP _ _ _ _)<|sy hg18<|sr 1 G<|sz 4 G G G)<|so G G G<|sr 1 G<|sg 4 23 31 35 false G G (fun hg24=>by
     have hq24:=hg24;try simp only [oz] at hq24
     exact sy hg24<|sf fI rfl<|sy hg24<|sl S 0 aD G G G<|sy hg24<|sc rfl Tryz.func67 G G (gP _ _ _ _)<|sy hg24<|sr 1 G<|sz 4 G G G)<|so G G G<|sE ?_;clear H a;intro a H
 refine k3 _ ?_;refine cond_ H rfl (fun hc1=>?_) (fun hc1=>?_)
 ·skip
  try simp only [oz] at hc1
  replace H:=H.keep [] rfl;refine sS H fun K4 k4=>sr 1 G<|sE ?_;clear H a;intro a H
  refine k4 _ ?_;refine wp_ret ?_;refine ret1 (fn:=Tryz.f26) rfl H rfl ?_;rw [Hy (by omega)];exact ⟨rfl,(S.sel [] G G)⟩
 try simp only [oz] at hc1
 have hsz:((1≤mm∧mm≤12)∧(1≤js.length∧js.length≤6)∧nv.length≤20∧(1≤cr∧cr≤6)∧(1≤un∧un≤24)):=by omega
 obtain ⟨hmb,hjb,hnb,hcb,hub⟩:=hsz;have hpm:=pwm hmb;refine wp_skip ?_;refine k2 _ _ ?_;refine wp_seq_k fun K5 k5=>?_
 refine sS H fun K6 k6=>sr 1 G<|sE ?_;clear H a;intro a H
 refine k6 _ ?_;refine wp_block ?_;refine loop_st (X:=Nat) (R0:=_) [1] H rfl (fun i=>[(3,.int .i64 (i:Int))]) (fun i=>[]) (fun g i=>i≤js.length∧g+i=js.length∧∀ k,k<i→(fun i=>((0≤(js.getD i Jq.zero).mach∧(js.getD i Jq.zero).mach≤mm-1)∧(1≤(js.getD i Jq.zero).nights∧(js.getD i Jq.zero).nights≤24))∧∀ q,q<(js.getD i Jq.zero).after.length→afP (js.getD i Jq.zero).after i q=true) k) (js.length) 0 ?_ (S.sel [0] G G) (H.keep [3,1] rfl) ?_
 · exact ⟨by omega,by omega,fun k hk=>absurd hk (Nat.not_lt_zero k)⟩
 clear H S a;intro g1 x1 a w1 hp S H K7 k7;obtain ⟨i,rfl⟩:∃ y,y=x1:=⟨_,rfl⟩;obtain ⟨hil,hgi,hja⟩:=hp;refine wp_seq_k fun K8 k8=>?_
 refine sS H fun K9 k9=>sr 1 G<|sf dC rfl<|sl S 0 eJ G G G<|sL eW rfl<|sr 1 G<|sE ?_;clear H a;intro a H
 refine k9 _ ?_;refine condL H rfl (fun hc2=>?_) (fun hc2=>?_)
 ·skip
  refine wp_skip ?_;refine k8 _ _ ?_;refine wp_seq_k fun K10 k10=>?_
  refine wp_block ?_;replace H:=H.keep [1,3] rfl;refine seq_list fun K11 k11=>?_
  refine ls 5 H<|sf dC rfl<|sl S 0 eJ G G G<|sr 1 G<|si eW dV G G (hjs.adr (by omega)) (by omega)<|sd ((aU nU dV rfl S hjs (by omega) (by omega)))<|sE ?_;clear H a;intro a H
  refine aJ H rfl S rQ ?_;intro b4 _ a hb4 hbw4 S H
  refine aE H S (i:=0) G G G G dV G G ?_
  clear H a S;intro _ a S H;refine k11 _ _ ?_;refine wp_seq_k fun K12 k12=>?_
  replace H:=H.keep [1,3,4] rfl
  refine sS H fun K13 k13=>sf lM rfl<|sl S 0 aD G G G<|sf jL rfl<|sl S 1 aD G G G<|sd (aR G G (by unfold i64ok;omega))<|sc rfl Tryz.func67 G G (gP _ _ _ _)<|sr 2 G<|sg 4 7 56 60 false G G (fun hg8=>by
      have hq8:=hg8;try simp only [oz] at hq8
      exact sy hg8<|sf kM rfl<|sy hg8<|sl S 0 aD G G G<|sy hg8<|sc rfl Tryz.func67 G G (gP _ _ _ _)<|sy hg8<|sr 1 G<|sz 4 G G G)<|so G G G<|sE ?_;clear H a;intro a H
  refine k13 _ ?_;refine cond_ H rfl (fun hc3=>?_) (fun hc3=>?_)
  ·skip
   try simp only [oz] at hc3
   replace H:=H.keep [] rfl;refine sS H fun K14 k14=>sr 1 G<|sE ?_;clear H a;intro a H
   refine k14 _ ?_;refine wp_ret ?_;refine ret1 (fn:=Tryz.f26) rfl H rfl ?_;rw [Hz (i:=i) (by omega) (by omega)];exact ⟨rfl,(S.sel [] G G)⟩
  try simp only [oz] at hc3
  have hjo:=hc3
  refine wp_skip ?_;refine k12 _ _ ?_;refine sS H fun K15 k15=>sr 1 G<|sE ?_;clear H a;intro a H
  refine k15 _ ?_;refine sS H fun K16 k16=>sr 1 G<|sE ?_;clear H a;intro a H
  refine k16 _ ?_;refine wp_block ?_;have hai:=han i (by omega);refine loop_st (X:=Nat) (R0:=_) [1,3,4] H rfl (fun q=>[(5,.int .i64 (lstW (js.getD i Jq.zero).after (-1) q)),(6,.int .i64 (q:Int))]) (fun q=>[]) (fun g q=>q≤(js.getD i Jq.zero).after.length∧g+q=(js.getD i Jq.zero).after.length∧∀ z,z<q→afP (js.getD i Jq.zero).after i z=true) ((js.getD i Jq.zero).after.length) 0 ?_ (S.sel [0,1] G G) (H.keep [5,6,1,3,4] rfl) ?_
  · exact ⟨by omega,by omega,fun k hk=>absurd hk (Nat.not_lt_zero k)⟩
  clear H S a;intro g2 x2 a w2 hp S H K17 k17;obtain ⟨q,rfl⟩:∃ y,y=x2:=⟨_,rfl⟩;refine wp_seq_k fun K18 k18=>?_
  refine sS H fun K19 k19=>sr 1 G<|sf lN rfl<|sl S 0 bE G G G<|sL aP rfl<|sr 1 G<|sE ?_;clear H a;intro a H
  refine k19 _ ?_;refine condL H rfl (fun hc4=>?_) (fun hc4=>?_)
  ·skip
   refine wp_skip ?_;refine k18 _ _ ?_;refine wp_seq_k fun K20 k20=>?_
   refine wp_block ?_;refine wp_seq_k fun K21 k21=>?_
   have hlb : -1≤lstW (js.getD i Jq.zero).after (-1) q∧lstW (js.getD i Jq.zero).after (-1) q≤1000:=Qi (by omega) hp.2.2
   replace H:=H.keep [1,3,4,5,6] rfl;refine sS H fun K22 k22=>sf lN rfl<|sl S 0 bE G G G<|sr 1 G<|si aP aX G G ((haf i (by omega)).adr (by omega)) (by omega)<|slm aD rfl ((haf i (by omega)).rd S (by omega) (by omega))<|sr 1 G<|sd (aI G G (by unfold i64ok;omega))<|sr 1 G<|sd (aR G G (by unfold i64ok;omega))<|sc rfl Tryz.func67 G G (gP _ _ _ _)<|sr 1 G<|sE ?_;clear H a;intro a H
   refine k22 _ ?_;refine cond_ H rfl (fun hc5=>?_) (fun hc5=>?_)
   ·skip
    try simp only [oz] at hc5
    replace H:=H.keep [] rfl;refine sS H fun K23 k23=>sr 1 G<|sE ?_;clear H a;intro a H
    refine k23 _ ?_;refine wp_ret ?_;refine ret1 (fn:=Tryz.f26) rfl H rfl ?_;rw [Ia (i:=i) (q:=q) (by omega) (by omega) (Qg (by rw [oD];omega))];exact ⟨rfl,(S.sel [] G G)⟩
   try simp only [oz] at hc5
   refine wp_skip ?_;refine k21 _ _ ?_;refine sO H<|sf lN rfl<|sl S 0 bE G G G<|sr 1 G<|si aP aX G G ((haf i (by omega)).adr (by omega)) (by omega)<|slm aD rfl ((haf i (by omega)).rd S (by omega) (by omega))<|sr 1 G<|sE ?_;clear H a;intro a H
   refine k20 _ _ ?_;replace H:=H.keep [1,3,4,5,6] rfl;refine sO H<|sr 1 G<|sd (aI G G (by unfold i64ok;omega))<|sr 1 G<|sE ?_;clear H a;intro a H
   exact k17 (g2-1) (q+1) a _ (by omega) (⟨by omega,by omega,kR hp.2.2 (Qf rfl (by rw [oD];omega))⟩) (S.sel [0,1] G G) (H.keep [5,6,1,3,4] rfl)
  refine wp_exit ?_;refine k10 _ _ ?_;refine sO H<|sr 1 G<|sd (aI G G (by unfold i64ok;omega))<|sr 1 G<|sE ?_;clear H a;intro a H
  exact k7 (g1-1) (i+1) a _ (by omega) (⟨by omega,by omega,kR hja ⟨by omega,fun q9 hq9=>hp.2.2 q9 (by omega)⟩⟩) (S.sel [1] G G) (H.keep [3,1] rfl)
 refine wp_exit ?_;refine k5 _ _ ?_;refine wp_seq_k fun K27 k27=>?_
 refine sS H fun K28 k28=>sr 1 G<|sE ?_;clear H a;intro a H
 refine k28 _ ?_;refine wp_block ?_;obtain rfl:i=js.length:=by omega
 refine loop_st (X:=Nat) (R0:=_) [1] H rfl (fun z=>[(7,.int .i64 (z:Int))]) (fun z=>[]) (fun g z=>z≤nv.length∧g+z=nv.length∧∀ k,k<z→nvOk mm (nv.getD k 0)=true) (nv.length) 0 ?_ (S.sel [0] G G) (H.keep [7,1] rfl) ?_
 · exact ⟨by omega,by omega,fun k hk=>absurd hk (Nat.not_lt_zero k)⟩
 clear H S a;intro g3 x3 a w3 hp S H K29 k29;obtain ⟨z,rfl⟩:∃ y,y=x3:=⟨_,rfl⟩;refine wp_seq_k fun K30 k30=>?_
 refine sS H fun K31 k31=>sr 1 G<|sf jM rfl<|sl S 0 bE G G G<|sL aP rfl<|sr 1 G<|sE ?_;intro a H
 refine k31 _ ?_;refine condL H rfl (fun hc6=>?_) (fun hc6=>?_)
 ·skip
  refine wp_skip ?_;refine k30 _ _ ?_;refine wp_seq_k fun K32 k32=>?_
  refine wp_block ?_;replace H:=H.keep [1,7] rfl;replace S:=S.drew;refine sD H fun K33 k33=>sf jM rfl<|sl S 0 bE G G G<|sr 1 G<|si aP aX G G (hnv.adr (by omega)) (by omega)<|slm aD rfl (hnv.rd S (by omega) (by omega))<|sf jL rfl<|sl S 0 aD G G G<|sd (gY Tryz.underlying3 Tryz.underlying52 rfl (by first|omega|exact IntWalk.i64_in _ (by omega)|exact IntWalk.u64_in _ (by omega)))<|sd (dU G G (by omega) (by omega) (by unfold i64ok;omega))<|sd (aR G G (by unfold i64ok;omega))<|sc rfl Tryz.func67 G G (gP _ _ _ _)<|sr 1 G<|sE ?_;intro a H
  refine k33 _ ?_;refine cond_ H rfl (fun hc7=>?_) (fun hc7=>?_)
  ·skip
   try simp only [oz] at hc7
   replace H:=H.keep [] rfl;refine sS H fun K34 k34=>sr 1 G<|sE ?_;intro a H
   refine k34 _ ?_;refine wp_ret ?_;refine ret1 (fn:=Tryz.f26) rfl H rfl ?_;rw [Ib (q:=z) (by omega) (decide_eq_false (by omega))];exact ⟨rfl,(S.sel [] G G)⟩
  try simp only [oz] at hc7
  refine wp_skip ?_;refine k32 _ _ ?_;refine sO H<|sr 1 G<|sd (aI G G (by unfold i64ok;omega))<|sr 1 G<|sE ?_;intro a H
  exact k29 (g3-1) (z+1) a _ (by omega) (⟨by omega,by omega,kR hp.2.2 (decide_eq_true (by omega))⟩) (S.sel [0] G G) (H.keep [7,1] rfl)
 refine wp_exit ?_;refine k27 _ _ ?_;refine sS H fun K36 k36=>sr 1 G<|sE ?_;intro a H
 refine k36 _ ?_;refine wp_ret ?_;refine ret1 (fn:=Tryz.f26) rfl H rfl ?_;rw [Zk ⟨hmb,hjb,hnb,hcb,hub⟩ hja (fun q9 hq9=>hp.2.2 q9 (by omega))];exact ⟨rfl,(S.sel [] G G)⟩
theorem fK (n lo hi:Int) (w:World) :
    Calls Tryz.prog 108 [.int .i64 n,.int .i64 lo,.int .i64 hi].toArray w (Ret (fun v w'=>v = .bool (decide (lo≤n)&&decide (n≤hi))∧w'=w)):=by
 refine enter Tryz.func108 rfl Tryz.ntmps108 rfl (fun a H=>?_)
 have S:=St.start w
 refine sS H fun K1 k1=>sr 1 G<|sE ?_;intro a H
 refine k1 _ ?_;replace H:=H.keep [0,1,2] rfl;refine sS H fun K2 k2=>sr 4 G<|sg 3 3 10 13 true G G (fun hg4=>sy hg4<|sr 1 G<|sy hg4<|sr 1 G<|sy hg4<|sr 1 G<|sz 3 G G G)<|sa G G G<|sr 1 G<|sE ?_;intro a H
 refine k2 _ ?_;refine wp_ret ?_;refine ret1 (fn:=Tryz.f108) rfl H rfl ?_;exact ⟨rfl,rfl⟩
end
section
def lowW (l:List Int):Nat→Int
 | 0=>0
 | q+1=>l.getD q 0+1
theorem rZ {l:List Int}:∀ {q},lowA l 0 q=lowW l q:=fun {q}=>by
 cases q with
 | zero=>rfl
 | succ q=>unfold lowA;rw [if_neg (by omega)];rfl
theorem Vn {l:List Int} {i q:Nat} (hi:i≤6) (h:∀ z,z<q→afP l i z=true):0≤lowW l q∧lowW l q≤1001:=by
 have:=Qi hi h
 rw [←rZ,oD];omega
theorem Vo {mm n:Int}:nvOk mm n=(decide (1≤n)&&decide (n≤1*2^mm.toNat-1)):=by unfold nvOk;rw [Bool.decide_and]
section
variable {mm cr un n:Int} {js:List Jq} {nv st:List Int} {i k q:Nat}
theorem aBa (h:(nv.any fun x=>!nvOk mm x)=true):wksE mm js nv cr un=92:=by
 rw [List.any_eq_true] at h;obtain ⟨x,hx,h⟩:=h;obtain ⟨q,hq,rfl⟩:=List.getElem_of_mem hx;refine Ib (q:=q) hq ?_;rw [List.getD_eq_getElem?_getD,List.getElem?_eq_getElem hq,Option.getD_some];simpa using h
theorem Vp (h:(nv.any fun x=>!nvOk mm x)=false):∀ q,q<nv.length→nvOk mm (nv.getD q 0)=true:=fun q hq=>by
 rw [List.any_eq_false] at h;have h2:=h nv[q] (List.getElem_mem hq);rw [List.getD_eq_getElem?_getD,List.getElem?_eq_getElem hq,Option.getD_some];simpa using h2
theorem aDn (h:st.getD i 0≤n∧n<st.getD i 0+(js.getD i Jq.zero).nights):atB js st n i=true:=by unfold atB;rw [decide_eq_true h.1,decide_eq_true h.2];rfl
theorem aDo (h:¬ (st.getD i 0≤n∧n<st.getD i 0+(js.getD i Jq.zero).nights)):atB js st n i=false:=by
 unfold atB
 rw [Bool.and_eq_false_iff,decide_eq_false_iff_not,decide_eq_false_iff_not];by_cases h1:st.getD i 0≤n
 ·exact .inr fun h2=>h ⟨h1,h2⟩
 ·exact .inl h1
theorem aBb (h:atB js st n i=true):lorW (nSet js st n i) (1*2^(js.getD i Jq.zero).mach.toNat)=nSet js st n (i+1):=by rw [nSet,if_pos h]
theorem aBc (h:atB js st n i=false):nSet js st n i=nSet js st n (i+1):=by rw [nSet,if_neg (by rw [h];simp)]
theorem Vq (h:atB js st n i=true):nJobs js st n i+1=nJobs js st n (i+1):=by rw [nJobs,if_pos h]
theorem Vr (h:atB js st n i=false):nJobs js st n i=nJobs js st n (i+1):=by rw [nJobs,if_neg (by rw [h];simp)]
theorem aDp (h:atB js st n i=true):(iG js st n i||decide (nSet js st n i/2^(js.getD i Jq.zero).mach.toNat%2=1))=iG js st n (i+1):=by rw [iG,if_pos h]
theorem aDq (h:atB js st n i=false):iG js st n i=iG js st n (i+1):=by rw [iG,if_neg (by rw [h];simp)]
theorem yA (V:WkV mm js nv cr un):0≤nSet js st n js.length∧nSet js st n js.length≤4095:=by
 have h1:=tZ (st:=st) (d:=n) V js.length (Nat.le_refl _)
 have h2:=pw12 (m:=mm) (by have:=V.mmb;omega)
 omega
end
theorem Kz (mm:Int) (js:List Jq) (JA:Option Addr) (jc:Nat) (AA:Nat→Option Addr) (ac:Nat→Nat) (nv:List Int) (NA:Option Addr) (nc:Nat) (cr un:Int) (cb fb:Nat) (n:Int) (w:World) (F:Nat→Prop) (S:St w F [boxM cb 28 [.int .i64 mm,.slice JA js.length jc,.slice NA nv.length nc,.int .i64 cr,.int .i64 un],boxM fb 107 [.func (.func 108) #[] #[]]] w) (hmm:1≤mm∧mm≤12) :
    Calls Tryz.prog 109 [.int .i64 n,.pointer (some ⟨fb,0,none⟩),.pointer (some ⟨cb,0,none⟩)].toArray w (Ret (fun u w'=>u = .bool (!nvOk mm n)∧St w F [boxM cb 28 [.int .i64 mm,.slice JA js.length jc,.slice NA nv.length nc,.int .i64 cr,.int .i64 un],boxM fb 107 [.func (.func 108) #[] #[]]] w')):=by
 have hpm:=pwm hmm
 refine enter Tryz.func109 rfl Tryz.ntmps109 rfl (fun a H=>?_)
 skip
 refine sS H fun K1 k1=>sr 1 G<|sE ?_;intro a H
 refine k1 _ ?_;replace H:=H.keep [0,1,2] rfl;replace S:=S.drew;refine sD H fun K2 k2=>sl S 1 kX G G G<|sr 1 G<|sf jL rfl<|sl S 0 aD G G G<|sd (dU G G (by omega) (by omega) (by unfold i64ok;omega))<|sd (aR G G (by unfold i64ok;omega))<|scv G G Tryz.func108 G G (fK _ _ _ _)<|sr 2 G<|sE ?_;intro a H
 refine k2 _ ?_;refine wp_ret ?_;refine ret1 (fn:=Tryz.f109) rfl H rfl ?_;rw [Vo];exact ⟨rfl,(S.sel [0,1] G G)⟩
theorem La (mm:Int) (js:List Jq) (JA:Option Addr) (jc:Nat) (AA:Nat→Option Addr) (ac:Nat→Nat) (nv:List Int) (NA:Option Addr) (nc:Nat) (cr un:Int) (cb fb:Nat) (w:World) (F:Nat→Prop) (S:St w F [bun [boxM cb 28 [.int .i64 mm,.slice JA js.length jc,.slice NA nv.length nc,.int .i64 cr,.int .i64 un],boxM fb 107 [.func (.func 108) #[] #[]]]] w) (hnv:InS w F 1 NA nv.length (icl nv)) (hnn:nv.length≤9223372036854775807) (hmm:1≤mm∧mm≤12):Calls Tryz.prog 43 #[.slice NA nv.length nc,.func (.func 109) #[] #[.pointer (some ⟨fb,0,none⟩),.pointer (some ⟨cb,0,none⟩)]] w (Ret fun u w'=>u = .bool (nv.any fun n=>!nvOk mm n)∧St w F [bun [boxM cb 28 [.int .i64 mm,.slice JA js.length jc,.slice NA nv.length nc,.int .i64 cr,.int .i64 un],boxM fb 107 [.func (.func 108) #[] #[]]]] w'):=by
 have hh:=dT nv NA nc 109 _ [] [.pointer (some ⟨fb,0,none⟩),.pointer (some ⟨cb,0,none⟩)] (fun n=>!nvOk mm n) _ w F S hnv hnn Tryz.func109 G G (fun k w' hk S'=>qJ (Kz mm js JA jc AA ac nv NA nc cr un cb fb (nv.getD k 0) w' _ (St.unpack (R:=[]) S'.startR) hmm) fun v w'' h=>⟨h.1,St.pack (Ms:=[_,_]) (R:=[]) h.2⟩)
 exact hh
theorem sA (mm:Int) (js:List Jq) (JA:Option Addr) (jc:Nat) (AA:Nat→Option Addr) (ac:Nat→Nat) (nv:List Int) (NA:Option Addr) (nc:Nat) (cr un:Int) (w:World) (hjs:InS w noF 3 JA js.length (jD js AA ac)) (hnv:InS w noF 1 NA nv.length (icl nv)) (haf:∀ k,k<js.length→InS w noF 1 (AA k) (js.getD k Jq.zero).after.length (icl (js.getD k Jq.zero).after)) (hjn:js.length≤9223372036854775807) (hnn:nv.length≤9223372036854775807) (han:∀ k,k<js.length→(js.getD k Jq.zero).after.length≤9223372036854775807) :
    Calls Tryz.prog 71 [.agg [.int .i64 mm,.slice JA js.length jc,.slice NA nv.length nc,.int .i64 cr,.int .i64 un].toArray].toArray w (Ret (fun u w'=>u = .int .i64 (wksE mm js nv cr un)∧St w noF [] w')):=by
 refine enter Tryz.func71 rfl Tryz.ntmps71 rfl (fun a H=>?_)
 have S:=St.start w
 refine seq_list fun K1 k1=>?_
 refine aO H rfl S G G ?_;intro b1 _ a hb1 hbw1 S H
 refine ls 1 H<|sr 1 G<|sE ?_;clear H a;intro a H
 refine k1 _ _ ?_;refine seq_list fun K2 k2=>?_
 refine aJ H rfl S aAa ?_;intro b3 _ a hb3 hbw3 S H
 refine aE H S (i:=0) G G G G Zw G G ?_
 clear H a S;intro _ a S H;refine k2 _ _ ?_;refine wp_seq_k fun K3 k3=>?_
 replace H:=H.keep [1,3] rfl
 refine sS H fun K4 k4=>sl S 0 kX G G G<|sf jL rfl<|sl S 1 aD G G G<|scv G G Tryz.func108 G G (fK _ _ _ _)<|sr 2 G<|sg 6 5 14 20 false G G (fun hg6=>by
     have hq6:=hg6;try simp only [oz] at hq6
     exact sy hg6<|sl S 0 kX G G G<|sy hg6<|sf dC rfl<|sy hg6<|sl S 1 eJ G G G<|sy hg6<|sL eW rfl<|sy hg6<|scv G G Tryz.func108 G G (fK _ _ _ _)<|sy hg6<|sr 1 G<|sz 6 G G G)<|so G G G<|sr 1 G<|sg 4 13 22 26 false G G (fun hg14=>by
     have hq14:=hg14;try simp only [oz] at hq14
     exact sy hg14<|sf jM rfl<|sy hg14<|sl S 1 bE G G G<|sy hg14<|sL aP rfl<|sy hg14<|sr 1 G<|sz 4 G G G)<|so G G G<|sr 1 G<|sg 5 19 28 33 false G G (fun hg20=>by
     have hq20:=hg20;try simp only [oz] at hq20
     exact sy hg20<|sl S 0 kX G G G<|sy hg20<|sf tP rfl<|sy hg20<|sl S 1 aD G G G<|sy hg20<|scv G G Tryz.func108 G G (fK _ _ _ _)<|sy hg20<|sr 1 G<|sz 5 G G G)<|so G G G<|sr 1 G<|sg 5 26 35 40 false G G (fun hg27=>by
     have hq27:=hg27;try simp only [oz] at hq27
     exact sy hg27<|sl S 0 kX G G G<|sy hg27<|sf fI rfl<|sy hg27<|sl S 1 aD G G G<|sy hg27<|scv G G Tryz.func108 G G (fK _ _ _ _)<|sy hg27<|sr 1 G<|sz 5 G G G)<|so G G G<|sE ?_;clear H a;intro a H
 refine k4 _ ?_;refine cond_ H rfl (fun hc1=>?_) (fun hc1=>?_)
 ·skip
  try simp only [oz] at hc1
  replace H:=H.keep [] rfl;refine sS H fun K5 k5=>sr 1 G<|sE ?_;clear H a;intro a H
  refine k5 _ ?_;refine wp_ret ?_;refine ret1 (fn:=Tryz.f71) rfl H rfl ?_;rw [Hy (by omega)];exact ⟨rfl,(S.sel [] G G)⟩
 try simp only [oz] at hc1
 have hsz:((1≤mm∧mm≤12)∧(1≤js.length∧js.length≤6)∧nv.length≤20∧(1≤cr∧cr≤6)∧(1≤un∧un≤24)):=by omega
 obtain ⟨hmb,hjb,hnb,hcb,hub⟩:=hsz;have hpm:=pwm hmb;refine wp_skip ?_;refine k3 _ _ ?_;refine wp_seq_k fun K6 k6=>?_
 refine sS H fun K7 k7=>sf dC rfl<|sl S 1 eJ G G G<|sL eW rfl<|sr 1 G<|sE ?_;clear H a;intro a H
 refine k7 _ ?_;refine wp_block ?_;refine loop_st (X:=Nat) (R0:=_) [1,3,43,44] H rfl (fun i=>[(45,.int .i64 (i:Int))]) (fun i=>[]) (fun g i=>i≤js.length∧g+i=js.length∧∀ k,k<i→(fun i=>((0≤(js.getD i Jq.zero).mach∧(js.getD i Jq.zero).mach≤mm-1)∧(1≤(js.getD i Jq.zero).nights∧(js.getD i Jq.zero).nights≤24))∧∀ q,q<(js.getD i Jq.zero).after.length→afP (js.getD i Jq.zero).after i q=true) k) (js.length) 0 ?_ (S.sel [0,1] G G) (H.keep [45,1,3,43,44] rfl) ?_
 · exact ⟨by omega,by omega,fun k hk=>absurd hk (Nat.not_lt_zero k)⟩
 clear H S a;intro g1 x1 a w1 hp S H K8 k8;obtain ⟨i,rfl⟩:∃ y,y=x1:=⟨_,rfl⟩;obtain ⟨hil,hgi,hja⟩:=hp;refine sS H fun K9 k9=>sr 1 G<|sE ?_;clear H a;intro a H
 refine k9 _ ?_;refine wp_seq_k fun K10 k10=>?_
 refine condL H rfl (fun hc2=>?_) (fun hc2=>?_)
 ·skip
  refine wp_skip ?_;refine k10 _ _ ?_;refine wp_seq_k fun K11 k11=>?_
  refine wp_block ?_;refine seq_list fun K12 k12=>?_
  refine ls 3 H<|sr 1 G<|si eW dV G G (hjs.adr (by omega)) (by omega)<|sd ((aU nU dV rfl S hjs (by omega) (by omega)))<|sE ?_;clear H a;intro a H
  refine aJ H rfl S rQ ?_;intro b5 _ a hb5 hbw5 S H
  refine ls 1 H<|sr 1 G<|sE ?_;clear H a;intro a H
  refine aE H S (i:=0) G G G G dV G G ?_
  clear H a S;intro _ a S H;refine k12 _ _ ?_;refine wp_seq_k fun K13 k13=>?_
  replace H:=H.keep [1,3,4,5,43,44,45] rfl
  refine sS H fun K14 k14=>sl S 1 kX G G G<|sf lM rfl<|sl S 0 aD G G G<|sf jL rfl<|sl S 2 aD G G G<|sd (aR G G (by unfold i64ok;omega))<|scv G G Tryz.func108 G G (fK _ _ _ _)<|sr 2 G<|sg 5 8 58 63 false G G (fun hg9=>by
      have hq9:=hg9;try simp only [oz] at hq9
      exact sy hg9<|sl S 1 kX G G G<|sy hg9<|sf kM rfl<|sy hg9<|sl S 0 aD G G G<|sy hg9<|scv G G Tryz.func108 G G (fK _ _ _ _)<|sy hg9<|sr 1 G<|sz 5 G G G)<|so G G G<|sE ?_;clear H a;intro a H
  refine k14 _ ?_;refine cond_ H rfl (fun hc3=>?_) (fun hc3=>?_)
  ·skip
   try simp only [oz] at hc3
   replace H:=H.keep [] rfl;refine sS H fun K15 k15=>sr 1 G<|sE ?_;clear H a;intro a H
   refine k15 _ ?_;refine wp_ret ?_;refine ret1 (fn:=Tryz.f71) rfl H rfl ?_;rw [Hz (i:=i) (by omega) (by omega)];exact ⟨rfl,(S.sel [] G G)⟩
  try simp only [oz] at hc3
  have hjo:=hc3
  refine wp_skip ?_;refine k13 _ _ ?_;refine sS H fun K16 k16=>sr 1 G<|sE ?_;clear H a;intro a H
  refine k16 _ ?_;refine sS H fun K17 k17=>sf lN rfl<|sl S 0 bE G G G<|sL aP rfl<|sr 1 G<|sE ?_;clear H a;intro a H
  refine k17 _ ?_;refine wp_block ?_;have hai:=han i (by omega);refine loop_st (X:=Nat) (R0:=_) [1,3,4,43,44,45,66,67] H rfl (fun q=>[(6,.int .i64 (lowW (js.getD i Jq.zero).after q)),(68,.int .i64 (q:Int))]) (fun q=>[]) (fun g q=>q≤(js.getD i Jq.zero).after.length∧g+q=(js.getD i Jq.zero).after.length∧∀ z,z<q→afP (js.getD i Jq.zero).after i z=true) ((js.getD i Jq.zero).after.length) 0 ?_ (S.sel [0,1,2] G G) (H.keep [6,68,1,3,4,43,44,45,66,67] rfl) ?_
  · exact ⟨by omega,by omega,fun k hk=>absurd hk (Nat.not_lt_zero k)⟩
  clear H S a;intro g2 x2 a w2 hp S H K18 k18;obtain ⟨q,rfl⟩:∃ y,y=x2:=⟨_,rfl⟩;refine sS H fun K19 k19=>sr 1 G<|sE ?_;clear H a;intro a H
  refine k19 _ ?_;refine wp_seq_k fun K20 k20=>?_
  refine condL H rfl (fun hc4=>?_) (fun hc4=>?_)
  ·skip
   refine wp_skip ?_;refine k20 _ _ ?_;refine wp_seq_k fun K21 k21=>?_
   refine wp_block ?_;refine sS H fun K22 k22=>si aP aX G G ((haf i (by omega)).adr (by omega)) (by omega)<|slm aD rfl ((haf i (by omega)).rd S (by omega) (by omega))<|sr 1 G<|sE ?_;clear H a;intro a H
   refine k22 _ ?_;refine wp_seq_k fun K23 k23=>?_
   have hlb:=Vn (l:=(js.getD i Jq.zero).after) (i:=i) (q:=q) (by omega) hp.2.2
   replace H:=H.keep [1,3,4,6,8,43,44,45,66,67,68] rfl;refine sS H fun K24 k24=>sl S 1 kX G G G<|sr 3 G<|sd (aR G G (by unfold i64ok;omega))<|scv G G Tryz.func108 G G (fK _ _ _ _)<|sr 1 G<|sE ?_;clear H a;intro a H
   refine k24 _ ?_;refine cond_ H rfl (fun hc5=>?_) (fun hc5=>?_)
   ·skip
    try simp only [oz] at hc5
    refine sS H fun K25 k25=>sr 1 G<|sE ?_;clear H a;intro a H
    refine k25 _ ?_;refine wp_ret ?_;refine ret1 (fn:=Tryz.f71) rfl H rfl ?_;rw [Ia (i:=i) (q:=q) (by omega) (by omega) (Qg (by rw [rZ];omega))];exact ⟨rfl,(S.sel [] G G)⟩
   try simp only [oz] at hc5
   refine wp_skip ?_;refine k23 _ _ ?_;replace H:=H.keep [1,3,4,8,43,44,45,66,67,68] rfl;refine sO H<|sr 1 G<|sd (aI G G (by unfold i64ok;omega))<|sr 1 G<|sE ?_;clear H a;intro a H
   refine k21 _ _ ?_;refine sO H<|sd (aI G G (by unfold i64ok;omega))<|sr 1 G<|sE ?_;clear H a;intro a H
   exact k18 (g2-1) (q+1) a _ (by omega) (⟨by omega,by omega,kR hp.2.2 (Qf rfl (by rw [rZ];omega))⟩) (S.sel [0,1,2] G G) (H.keep [6,68,1,3,4,43,44,45,66,67] rfl)
  refine wp_exit ?_;refine k11 _ _ ?_;refine sO H<|sd (aI G G (by unfold i64ok;omega))<|sr 1 G<|sE ?_;clear H a;intro a H
  exact k8 (g1-1) (i+1) a _ (by omega) (⟨by omega,by omega,kR hja ⟨by omega,fun q9 hq9=>hp.2.2 q9 (by omega)⟩⟩) (S.sel [1,2] G G) (H.keep [45,1,3,43,44] rfl)
 refine wp_exit ?_;refine k6 _ _ ?_;refine wp_seq_k fun K29 k29=>?_
 obtain rfl:i=js.length:=by omega
 replace H:=H.keep [1,3] rfl;refine seq_list fun K30 k30=>?_
 refine ls 3 H<|sf jM rfl<|sl S 1 bE G G G<|sr 1 G<|sE ?_;intro a H
 have S1:=(S.sel [1,0] G G)
 have SB:=St.pack (Ms:=[_,_]) (R:=[]) S1
 refine aA H G G Tryz.func43 G G (La mm js JA jc AA ac nv NA nc cr un b1 b3 _ _ SB.startR (hnv.nowR SB) hnn hmb) ?_;clear H a
 rintro _ _ a ⟨rfl,S2⟩ H;replace S:=St.unpack ((St.pack (Ms:=[_,_]) (R:=[]) S1).callR (M:=[_]) S2);clear S1 S2 SB;refine k30 _ _ ?_;refine cond_ H rfl (fun hc6=>?_) (fun hc6=>?_)
 ·skip
  try simp only [oz] at hc6
  refine sS H fun K31 k31=>sr 1 G<|sE ?_;intro a H
  refine k31 _ ?_;refine wp_ret ?_;refine ret1 (fn:=Tryz.f71) rfl H rfl ?_;rw [aBa hc6];exact ⟨rfl,(S.sel [] G G)⟩
 try simp only [oz] at hc6
 refine wp_skip ?_;refine k29 _ _ ?_;refine sS H fun K32 k32=>sr 1 G<|sE ?_;intro a H
 refine k32 _ ?_;refine wp_ret ?_;refine ret1 (fn:=Tryz.f71) rfl H rfl ?_;rw [Zk ⟨hmb,hjb,hnb,hcb,hub⟩ hja (Vp hc6)];exact ⟨rfl,(S.sel [] G G)⟩
theorem nM (mm:Int) (js:List Jq) (JA:Option Addr) (jc:Nat) (AA:Nat→Option Addr) (ac:Nat→Nat) (nv:List Int) (NA:Option Addr) (nc:Nat) (cr un:Int) (st:List Int) (SA:Option Addr) (sc:Nat) (n:Int) (w:World) (hjs:InS w noF 3 JA js.length (jD js AA ac)) (hnv:InS w noF 1 NA nv.length (icl nv)) (haf:∀ k,k<js.length→InS w noF 1 (AA k) (js.getD k Jq.zero).after.length (icl (js.getD k Jq.zero).after)) (hst:InS w noF 1 SA st.length (icl st)) (hsl:st.length=js.length) (V:WkV mm js nv cr un) (hsb:∀ k,k<js.length→0≤st.getD k 0∧st.getD k 0≤24) :
    Calls Tryz.prog 45 [.agg [.int .i64 mm,.slice JA js.length jc,.slice NA nv.length nc,.int .i64 cr,.int .i64 un].toArray,.slice SA st.length sc,.int .i64 n].toArray w (Ret (fun u w'=>u = .tuple #[.int .i64 (nSet js st n js.length),.int .i64 (nJobs js st n js.length),.bool (iG js st n js.length)]∧St w noF [] w')):=by
 have hjl:=V.nj
 have hmb:=V.mmb
 refine enter Tryz.func45 rfl Tryz.ntmps45 rfl (fun a H=>?_)
 have S:=St.start w
 refine seq_list fun K1 k1=>?_
 refine aO H rfl S G G ?_;intro b3 _ a hb3 hbw3 S H
 refine ls 3 H<|sr 3 G<|sE ?_;clear H a;intro a H
 refine k1 _ _ ?_;refine wp_seq_k fun K2 k2=>?_
 refine sS H fun K3 k3=>sf dC rfl<|sl S 0 eJ G G G<|sL eW rfl<|sr 1 G<|sE ?_;clear H a;intro a H
 refine k3 _ ?_;refine wp_block ?_;refine loop_st (X:=Nat) (R0:=_) [1,2,12,13] H rfl (fun i=>[(6,.int .i64 (nSet js st n i)),(7,.int .i64 (nJobs js st n i)),(8,.bool (iG js st n i)),(14,.int .i64 (i:Int))]) (fun i=>[]) (fun g i=>i≤js.length∧g+i=js.length) (js.length) 0 ?_ (S.sel [0] G G) (H.keep [6,7,8,14,1,2,12,13] rfl) ?_
 · exact ⟨by omega,by omega⟩
 clear H S a;intro g1 x1 a w1 hp S H K4 k4;obtain ⟨i,rfl⟩:∃ y,y=x1:=⟨_,rfl⟩;refine sS H fun K5 k5=>sr 1 G<|sE ?_;clear H a;intro a H
 refine k5 _ ?_;refine wp_seq_k fun K6 k6=>?_
 refine condL H rfl (fun hc1=>?_) (fun hc1=>?_)
 ·skip
  refine wp_skip ?_;refine k6 _ _ ?_;refine wp_seq_k fun K7 k7=>?_
  refine wp_block ?_;refine seq_list fun K8 k8=>?_
  refine ls 3 H<|sr 1 G<|si eW dV G G (hjs.adr (by omega)) (by omega)<|sd ((aU nU dV rfl S hjs (by omega) (by omega)))<|sE ?_;clear H a;intro a H
  refine aJ H rfl S rQ ?_;intro b10 _ a hb10 hbw10 S H
  refine ls 1 H<|sr 1 G<|sE ?_;clear H a;intro a H
  refine aE H S (i:=0) G G G G dV G G ?_
  clear H a S;intro _ a S H;refine k8 _ _ ?_;have hsi:=hsb i (by omega);have hji:=V.job i (by omega);have hpj:=pw12 (m:=(js.getD i Jq.zero).mach) (by omega);have hpm:=pw12 (m:=mm) (by omega);have hnb:=tZ (st:=st) (d:=n) V i (by omega);have hjb:=Qb (js:=js) (st:=st) (d:=n) i;replace H:=H.keep [1,2,6,7,8,9,10,12,13,14] rfl;replace S:=S.drew
  refine sD H fun K9 k9=>sr 2 G<|si aP aX G G (hst.adr (by omega)) (by omega)<|slm aD rfl (hst.rd S (by omega) (by omega))<|sr 3 G<|sg 9 6 25 34 true G G (fun hg7=>by
      have hq7:=hg7;try simp only [oz] at hq7
      exact sy hg7<|sr 1 G<|sy hg7<|sr 1 G<|sy hg7<|sr 1 G<|sy hg7<|si aP aX G G (hst.adr (by omega)) (by omega)<|sy hg7<|slm aD rfl (hst.rd S (by omega) (by omega))<|sy hg7<|sf kM rfl<|sy hg7<|sl S 0 aD G G G<|sy hg7<|sd (aI G G (by unfold i64ok;omega))<|sy hg7<|sr 1 G<|sz 9 G G G)<|sa G G G<|sE ?_;clear H a;intro a H
  refine k9 _ ?_;refine cond_ H rfl (fun hc2=>?_) (fun hc2=>?_)
  ·skip
   try simp only [oz] at hc2
   replace H:=H.keep [1,2,6,7,8,10,12,13,14] rfl;refine sS H fun K10 k10=>sr 1 G<|sd (aI G G (by unfold i64ok;omega))<|sr 1 G<|sE ?_;clear H a;intro a H
   refine k10 _ ?_;replace H:=H.keep [1,2,6,7,8,10,12,13,14] rfl
   refine sS H fun K11 k11=>sr 2 G<|sg 6 1 39 45 false G G (fun hg2=>by
       have hq2:=hg2;try simp only [oz] at hq2
       exact sy hg2<|sr 1 G<|sy hg2<|sf lM rfl<|sy hg2<|sl S 0 aD G G G<|sy hg2<|sd (gV G G (by omega) (by omega))<|sy hg2<|sd (fO G G)<|sy hg2<|sr 1 G<|sz 6 G G G)<|so G G G<|sr 1 G<|sE ?_;clear H a;intro a H
   refine k11 _ ?_;replace H:=H.keep [1,2,6,7,8,10,12,13,14] rfl;refine sO H<|sr 1 G<|sf lM rfl<|sl S 0 aD G G G<|sd (dU G G (by omega) (by omega) (by unfold i64ok;omega))<|sd (Ky G G (by omega) (by omega))<|sr 1 G<|sE ?_;clear H a;intro a H
   refine k7 _ _ ?_;refine sO H<|sd (aI G G (by unfold i64ok;omega))<|sr 1 G<|sE ?_;clear H a;intro a H
   have hat:=aDn (js:=js) (st:=st) (n:=n) (i:=i) (by omega)
   rw [aDp hat,aBb hat,Vq hat] at H;exact k4 (g1-1) (i+1) a _ (by omega) (⟨by omega,by omega⟩) (S.sel [1] G G) (H.keep [6,7,8,14,1,2,12,13] rfl)
  try simp only [oz] at hc2
  refine wp_skip ?_;refine k7 _ _ ?_;replace H:=H.keep [1,2,6,7,8,12,13,14] rfl;refine sO H<|sd (aI G G (by unfold i64ok;omega))<|sr 1 G<|sE ?_;clear H a;intro a H
  have hat:=aDo (js:=js) (st:=st) (n:=n) (i:=i) (by omega)
  rw [aDq hat,aBc hat,Vr hat] at H;exact k4 (g1-1) (i+1) a _ (by omega) (⟨by omega,by omega⟩) (S.sel [1] G G) (H.keep [6,7,8,14,1,2,12,13] rfl)
 refine wp_exit ?_;refine k2 _ _ ?_;obtain rfl:i=js.length:=by omega
 refine sS H fun K15 k15=>sr 6 G<|sE ?_;intro a H
 refine k15 _ ?_;refine wp_ret ?_;refine ret3 (fn:=Tryz.f45) rfl H G G G ?_;exact ⟨rfl,(S.sel [] G G)⟩
theorem Gd (mm:Int) (js:List Jq) (JA:Option Addr) (jc:Nat) (AA:Nat→Option Addr) (ac:Nat→Nat) (nv:List Int) (NA:Option Addr) (nc:Nat) (cr un:Int) (st:List Int) (SA:Option Addr) (sc:Nat) (w:World) (hjs:InS w noF 3 JA js.length (jD js AA ac)) (hnv:InS w noF 1 NA nv.length (icl nv)) (haf:∀ k,k<js.length→InS w noF 1 (AA k) (js.getD k Jq.zero).after.length (icl (js.getD k Jq.zero).after)) (hst:InS w noF 1 SA st.length (icl st)) (hsl:st.length=js.length) (V:WkV mm js nv cr un) (hsb:∀ k,k<js.length→0≤st.getD k 0∧st.getD k 0≤24) :
    Calls Tryz.prog 72 [.agg [.int .i64 mm,.slice JA js.length jc,.slice NA nv.length nc,.int .i64 cr,.int .i64 un].toArray,.slice SA st.length sc].toArray w (Ret (fun u w'=>u = .int .i64 (endV js st js.length)∧St w noF [] w')):=by
 have hjl:=V.nj
 refine enter Tryz.func72 rfl Tryz.ntmps72 rfl (fun a H=>?_)
 have S:=St.start w
 refine seq_list fun K1 k1=>?_
 refine aO H rfl S G G ?_;intro b2 _ a hb2 hbw2 S H
 refine ls 1 H<|sr 1 G<|sE ?_;clear H a;intro a H
 refine k1 _ _ ?_;refine wp_seq_k fun K2 k2=>?_
 refine sS H fun K3 k3=>sf dC rfl<|sl S 0 eJ G G G<|sL eW rfl<|sr 1 G<|sE ?_;clear H a;intro a H
 refine k3 _ ?_;refine wp_block ?_;refine loop_st (X:=Nat) (R0:=_) [1,8,9] H rfl (fun i=>[(4,.int .i64 (endV js st i)),(10,.int .i64 (i:Int))]) (fun i=>[]) (fun g i=>i≤js.length∧g+i=js.length) (js.length) 0 ?_ (S.sel [0] G G) (H.keep [4,10,1,8,9] rfl) ?_
 · exact ⟨by omega,by omega⟩
 clear H S a;intro g1 x1 a w1 hp S H K4 k4;obtain ⟨i,rfl⟩:∃ y,y=x1:=⟨_,rfl⟩;refine sS H fun K5 k5=>sr 1 G<|sE ?_;clear H a;intro a H
 refine k5 _ ?_;refine wp_seq_k fun K6 k6=>?_
 refine condL H rfl (fun hc1=>?_) (fun hc1=>?_)
 ·skip
  refine wp_skip ?_;refine k6 _ _ ?_;refine wp_seq_k fun K7 k7=>?_
  refine wp_block ?_;refine seq_list fun K8 k8=>?_
  refine ls 3 H<|sr 1 G<|si eW dV G G (hjs.adr (by omega)) (by omega)<|sd ((aU nU dV rfl S hjs (by omega) (by omega)))<|sE ?_;clear H a;intro a H
  refine aJ H rfl S rQ ?_;intro b6 _ a hb6 hbw6 S H
  refine ls 1 H<|sr 1 G<|sE ?_;clear H a;intro a H
  refine aE H S (i:=0) G G G G dV G G ?_
  clear H a S;intro _ a S H;refine k8 _ _ ?_;have hsi:=hsb i (by omega);have hji:=V.job i (by omega);replace H:=H.keep [1,4,5,6,8,9,10] rfl;replace S:=S.drew;refine sP H<|sr 3 G<|si aP aX G G (hst.adr (by omega)) (by omega)<|slm aD rfl (hst.rd S (by omega) (by omega))<|sf kM rfl<|sl S 0 aD G G G<|sd (aI G G (by unfold i64ok;omega))<|sd (lK G G)<|sr 1 G<|sE ?_;clear H a;intro a H
  refine k7 _ _ ?_;replace H:=H.keep [1,4,8,9,10] rfl;refine sO H<|sd (aI G G (by unfold i64ok;omega))<|sr 1 G<|sE ?_;clear H a;intro a H
  exact k4 (g1-1) (i+1) a _ (by omega) (⟨by omega,by omega⟩) (S.sel [1] G G) (H.keep [4,10,1,8,9] rfl)
 refine wp_exit ?_;refine k2 _ _ ?_;obtain rfl:i=js.length:=by omega
 refine sS H fun K11 k11=>sr 2 G<|sE ?_;intro a H
 refine k11 _ ?_;refine wp_ret ?_;refine ret1 (fn:=Tryz.f72) rfl H rfl ?_;exact ⟨rfl,(S.sel [] G G)⟩
theorem zZ (s9 b9:Int) (t:Bool) (w:World) :
    Calls Tryz.prog 110 [.int .i64 s9,.int .i64 b9,.bool t].toArray w (Ret (fun u w'=>u = .bool t∧St w noF [] w')):=by
 refine enter Tryz.func110 rfl Tryz.ntmps110 rfl (fun a H=>?_)
 have S:=St.start w
 refine sS H fun K1 k1=>sr 1 G<|sE ?_;intro a H
 refine k1 _ ?_;refine sS H fun K2 k2=>sr 2 G<|sE ?_;intro a H
 refine k2 _ ?_;refine wp_ret ?_;refine ret1 (fn:=Tryz.f110) rfl H rfl ?_;exact ⟨rfl,(S.sel [] G G)⟩
theorem Aa (mm:Int) (js:List Jq) (JA:Option Addr) (jc:Nat) (AA:Nat→Option Addr) (ac:Nat→Nat) (nv:List Int) (NA:Option Addr) (nc:Nat) (cr un:Int) (cb:Nat) (s9 b9:Int) (t:Bool) (w:World) (F:Nat→Prop) (S:St w F [boxM cb 28 [.int .i64 mm,.slice JA js.length jc,.slice NA nv.length nc,.int .i64 cr,.int .i64 un]] w) :
    Calls Tryz.prog 111 [.int .i64 s9,.int .i64 b9,.bool t,.pointer (some ⟨cb,0,none⟩)].toArray w (Ret (fun u w'=>u = .bool (decide (cr<b9))∧St w F [boxM cb 28 [.int .i64 mm,.slice JA js.length jc,.slice NA nv.length nc,.int .i64 cr,.int .i64 un]] w')):=by
 refine enter Tryz.func111 rfl Tryz.ntmps111 rfl (fun a H=>?_)
 skip
 refine sS H fun K1 k1=>sr 1 G<|sE ?_;intro a H
 refine k1 _ ?_;refine sS H fun K2 k2=>sr 1 G<|sf tP rfl<|sl S 0 aD G G G<|sr 2 G<|sE ?_;intro a H
 refine k2 _ ?_;refine wp_ret ?_;refine ret1 (fn:=Tryz.f111) rfl H rfl ?_;exact ⟨rfl,(S.sel [0] G G)⟩
theorem xK (n:Int) (sb:Nat) (set:Int) (w:World) (F:Nat→Prop) (S:St w F [boxM sb 3 [.int .i64 set]] w) (hn:0≤n∧n≤4095) (hset:0≤set∧set≤4095) :
    Calls Tryz.prog 113 [.int .i64 n,.pointer (some ⟨sb,0,none⟩)].toArray w (Ret (fun u w'=>u = .bool (decide (landI set n=n))∧St w F [boxM sb 3 [.int .i64 set]] w')):=by
 refine enter Tryz.func113 rfl Tryz.ntmps113 rfl (fun a H=>?_)
 skip
 refine sS H fun K1 k1=>sr 1 G<|sE ?_;intro a H
 refine k1 _ ?_;refine sS H fun K2 k2=>sl S 0 aD G G G<|sr 1 G<|sd (xV G G (by omega) (by omega))<|sr 3 G<|sE ?_;intro a H
 refine k2 _ ?_;refine wp_ret ?_;refine ret1 (fn:=Tryz.f113) rfl H rfl ?_;exact ⟨rfl,(S.sel [0] G G)⟩
theorem Lb {mm cr un:Int} {js:List Jq} {nv:List Int} (V:WkV mm js nv cr un) (NA:Option Addr) (nc:Nat) (sb:Nat) (set:Int) (w:World) (F:Nat→Prop) (S:St w F [boxM sb 3 [.int .i64 set]] w) (hnv:InS w F 1 NA nv.length (icl nv)) (hset:0≤set∧set≤4095):Calls Tryz.prog 43 #[.slice NA nv.length nc,.func (.func 113) #[] #[.pointer (some ⟨sb,0,none⟩)]] w (Ret fun u w'=>u = .bool (nv.any fun n=>decide (landI set n=n))∧St w F [boxM sb 3 [.int .i64 set]] w'):=by
 have hh:=dT nv NA nc 113 _ [] [.pointer (some ⟨sb,0,none⟩)] (fun n=>decide (landI set n=n)) _ w F S hnv (by have:=V.nn;omega) Tryz.func113 G G (fun k w' hk S'=>by
  have h9:=V.nev k hk
  have h8:=pwm V.mmb
  exact xK (nv.getD k 0) sb set w' _ S'.startR (by omega) hset)
 exact hh
theorem Ab (mm:Int) (js:List Jq) (JA:Option Addr) (jc:Nat) (AA:Nat→Option Addr) (ac:Nat→Nat) (nv:List Int) (NA:Option Addr) (nc:Nat) (cr un:Int) (cb:Nat) (s9 b9:Int) (t:Bool) (w:World) (F:Nat→Prop) (S:St w F [boxM cb 28 [.int .i64 mm,.slice JA js.length jc,.slice NA nv.length nc,.int .i64 cr,.int .i64 un]] w) (hnv:InS w F 1 NA nv.length (icl nv)) (V:WkV mm js nv cr un) (ha:0≤s9∧s9≤4095) :
    Calls Tryz.prog 112 [.int .i64 s9,.int .i64 b9,.bool t,.pointer (some ⟨cb,0,none⟩)].toArray w (Ret (fun u w'=>u = .bool (nv.any fun n=>decide (landI s9 n=n))∧St w F [boxM cb 28 [.int .i64 mm,.slice JA js.length jc,.slice NA nv.length nc,.int .i64 cr,.int .i64 un]] w')):=by
 refine enter Tryz.func112 rfl Tryz.ntmps112 rfl (fun a H=>?_)
 skip
 refine seq_list fun K1 k1=>?_
 refine aO H rfl S G G ?_;intro b4 _ a hb4 hbw4 S H
 refine ls 1 H<|sr 1 G<|sE ?_;intro a H
 refine k1 _ _ ?_;refine seq_list fun K2 k2=>?_
 refine ls 3 H<|sf jM rfl<|sl S 1 bE G G G<|sr 1 G<|sE ?_;intro a H
 have S1:=(S.sel [0] G G)
 refine aA H G G Tryz.func43 G G (Lb V NA nc b4 s9 _ _ S1.startR (hnv.nowR S1) ha) ?_;clear H a
 rintro _ _ a ⟨rfl,S2⟩ H;replace S:=(S.sel [0,1] rfl rfl).callR (M:=[_]) S2;clear S1 S2;refine ls 1 H<|sr 1 G<|sE ?_;intro a H
 refine k2 _ _ ?_;refine wp_ret ?_;refine ret1 (fn:=Tryz.f112) rfl H rfl ?_;exact ⟨rfl,(S.sel [1] G G)⟩
end
section
section
variable {mm cr un:Int} {js:List Jq} {nv st:List Int}
theorem lT (hjs:1≤js.length) (h1:∀ i,i<js.length→0≤st.getD i 0∧st.getD i 0≤un-(js.getD i Jq.zero).nights) (h2:∀ q:Nat,(q:Int)<un→iG js st q js.length=false) (h3:∀ q:Nat,(q:Int)<un→¬ cr<nJobs js st q js.length)
  (h4:∀ q:Nat,(q:Int)<un→(nv.any fun n=>decide (landI (nSet js st q js.length) n=n))=false):WkR js nv cr un st:=⟨h1,h2,fun q hq=>by have:=h3 q hq;omega,fun q hq k hk h=>by
 have h5:=h4 q hq
 rw [List.any_eq_false] at h5;have h6:=h5 nv[k] (List.getElem_mem hk);rw [List.getD_eq_getElem?_getD,List.getElem?_eq_getElem hk,Option.getD_some] at h;rw [decide_eq_true h] at h6;exact h6 rfl⟩
theorem pw24 {al un:Int} {i:Nat} (h:0≤al∧al≤24^i) (hu:1≤un∧un≤24) (hi:i<6):(0≤al*un∧al*un≤24^(i+1))∧al*un≤191102976:=by
 have h1:al*un≤24^i*24:=Int.mul_le_mul h.2 hu.2 (by omega) (by omega)
 have h2:(24:Int)^(i+1)=24^i*24:=Int.pow_succ 24 i
 have h3:(24:Int)^(i+1)≤24^6:=by
  have h4:24^(i+1)≤24^6:=Nat.pow_le_pow_right (by decide) (by omega)
  exact_mod_cast h4
 have h5:(24:Int)^6=191102976:=by decide
 exact ⟨⟨Int.mul_nonneg h.1 (by omega),by omega⟩,by omega⟩
theorem Qj {U m:Nat}:∀ n,odV U (List.replicate m 0) n=0:=by
  intro n;induction n with
  | zero=>rfl
  | succ n ih=>
    rw [odV,ih,Nat.zero_mul]
    have:(List.replicate m (0:Int)).getD n 0=0:=by
      rw [List.getD_eq_getElem?_getD,List.getElem?_replicate];split <;> rfl
    rw [this];rfl
theorem Ic {m n:Nat}:(List.replicate m (0:Int)).getD n 0=0:=by
 rw [List.getD_eq_getElem?_getD,List.getElem?_replicate];split <;> rfl
end
theorem aBd {l:List Int} {q:Nat} (h:∀ z,z<q→lowA l 0 z≤l.getD z 0):0≤lowA l 0 q:=by
  induction q with
  | zero=>exact Int.le_refl 0
  | succ q ih=>
    have h1:=ih fun z hz=>h z (by omega)
    have h2:=h q (by omega)
    rw [Hx];omega
theorem Cr (mm:Int) (js:List Jq) (JA:Option Addr) (jc:Nat) (AA:Nat→Option Addr) (ac:Nat→Nat) (nv:List Int) (NA:Option Addr) (nc:Nat) (cr un:Int) (st:List Int) (SA:Option Addr) (sc:Nat) (w:World) (hjs:InS w noF 3 JA js.length (jD js AA ac)) (hnv:InS w noF 1 NA nv.length (icl nv)) (haf:∀ k,k<js.length→InS w noF 1 (AA k) (js.getD k Jq.zero).after.length (icl (js.getD k Jq.zero).after)) (hjn:js.length≤9223372036854775807) (hnn:nv.length≤9223372036854775807) (han:∀ k,k<js.length→(js.getD k Jq.zero).after.length≤9223372036854775807) (hst:InS w noF 1 SA st.length (icl st)) (hsl:st.length=js.length) (V:WkV mm js nv cr un) (hsb:∀ k,k<js.length→0≤st.getD k 0∧st.getD k 0≤24) :
    Calls Tryz.prog 73 [.agg [.int .i64 mm,.slice JA js.length jc,.slice NA nv.length nc,.int .i64 cr,.int .i64 un].toArray,.slice SA st.length sc].toArray w (Ret (fun u w'=>∃ r n:Int,u = .tuple #[.int .i64 r,.int .i64 n]∧(r=0→WkR js nv cr un st)∧St w noF [] w')):=by
 have hjl:=V.nj
 have hub:=V.unb
 refine enter Tryz.func73 rfl Tryz.ntmps73 rfl (fun a H=>?_)
 have S:=St.start w
 refine seq_list fun K1 k1=>?_
 refine aO H rfl S G G ?_;intro b2 _ a hb2 hbw2 S H
 refine ls 2 H<|sr 2 G<|sE ?_;clear H a;intro a H
 refine k1 _ _ ?_;refine wp_seq_k fun K2 k2=>?_
 refine sS H fun K3 k3=>sf dC rfl<|sl S 0 eJ G G G<|sL eW rfl<|sr 1 G<|sE ?_;clear H a;intro a H
 refine k3 _ ?_;refine wp_block ?_;refine loop_st (X:=Nat) (R0:=_) [1,2,17,18] H rfl (fun i=>[(19,.int .i64 (i:Int))]) (fun i=>[]) (fun g i=>i≤js.length∧g+i=js.length∧∀ k,k<i→(fun i=>0≤st.getD i 0∧st.getD i 0≤un-(js.getD i Jq.zero).nights) k) (js.length) 0 ?_ (S.sel [0] G G) (H.keep [19,1,2,17,18] rfl) ?_
 · exact ⟨by omega,by omega,fun k hk=>absurd hk (Nat.not_lt_zero k)⟩
 clear H S a;intro g1 x1 a w1 hp S H K4 k4;obtain ⟨i,rfl⟩:∃ y,y=x1:=⟨_,rfl⟩;refine sS H fun K5 k5=>sr 1 G<|sE ?_;clear H a;intro a H
 refine k5 _ ?_;refine wp_seq_k fun K6 k6=>?_
 refine condL H rfl (fun hc1=>?_) (fun hc1=>?_)
 ·skip
  refine wp_skip ?_;refine k6 _ _ ?_;refine wp_seq_k fun K7 k7=>?_
  refine wp_block ?_;refine seq_list fun K8 k8=>?_
  refine ls 3 H<|sr 1 G<|si eW dV G G (hjs.adr (by omega)) (by omega)<|sd ((aU nU dV rfl S hjs (by omega) (by omega)))<|sE ?_;clear H a;intro a H
  refine aJ H rfl S rQ ?_;intro b7 _ a hb7 hbw7 S H
  refine ls 1 H<|sr 1 G<|sE ?_;clear H a;intro a H
  refine aE H S (i:=0) G G G G dV G G ?_
  clear H a S;intro _ a S H;refine k8 _ _ ?_;have hsi:=hsb i (by omega);have hji:=V.job i (by omega);replace H:=H.keep [1,2,6,7,17,18,19] rfl;replace S:=S.drew
  refine sD H fun K9 k9=>sr 2 G<|si aP aX G G (hst.adr (by omega)) (by omega)<|slm aD rfl (hst.rd S (by omega) (by omega))<|sr 2 G<|sg 10 5 29 39 false G G (fun hg6=>by
      have hq6:=hg6;try simp only [oz] at hq6
      exact sy hg6<|sr 1 G<|sy hg6<|sr 1 G<|sy hg6<|si aP aX G G (hst.adr (by omega)) (by omega)<|sy hg6<|slm aD rfl (hst.rd S (by omega) (by omega))<|sy hg6<|sf fI rfl<|sy hg6<|sl S 1 aD G G G<|sy hg6<|sf kM rfl<|sy hg6<|sl S 0 aD G G G<|sy hg6<|sd (aR G G (by unfold i64ok;omega))<|sy hg6<|sr 1 G<|sz 10 G G G)<|so G G G<|sE ?_;clear H a;intro a H
  refine k9 _ ?_;refine cond_ H rfl (fun hc2=>?_) (fun hc2=>?_)
  ·skip
   try simp only [oz] at hc2
   replace H:=H.keep [6] rfl;refine sS H fun K10 k10=>sr 3 G<|sE ?_;clear H a;intro a H
   refine k10 _ ?_;refine wp_ret ?_;refine ret2 (fn:=Tryz.f73) rfl H G G ?_;first|exact ⟨_,_,rfl,fun h=>by omega,(S.sel [] G G)⟩|exact ⟨_,_,rfl,fun _=>lT (by omega) hR1 (hT1 (by omega)) (hT2 (by omega)) (hT3 (by omega)),(S.sel [] G G)⟩
  try simp only [oz] at hc2
  refine wp_skip ?_;refine k7 _ _ ?_;refine sO H<|sd (aI G G (by unfold i64ok;omega))<|sr 1 G<|sE ?_;clear H a;intro a H
  exact k4 (g1-1) (i+1) a _ (by omega) (⟨by omega,by omega,kR hp.2.2 (by omega)⟩) (S.sel [1] G G) (H.keep [19,1,2,17,18] rfl)
 refine wp_exit ?_;refine k2 _ _ ?_;refine wp_seq_k fun K12 k12=>?_
 refine sS H fun K13 k13=>sf dC rfl<|sl S 0 eJ G G G<|sL eW rfl<|sr 1 G<|sE ?_;clear H a;intro a H
 refine k13 _ ?_;refine wp_block ?_;obtain ⟨hil,_,hR1⟩:=hp;obtain rfl:i=js.length:=by omega
 refine loop_st (X:=Nat) (R0:=_) [1,2,44,45] H rfl (fun i=>[(46,.int .i64 (i:Int))]) (fun i=>[]) (fun g i=>i≤js.length∧g+i=js.length) (js.length) 0 ?_ (S.sel [0] G G) (H.keep [46,1,2,44,45] rfl) ?_
 · exact ⟨by omega,by omega⟩
 clear H S a;intro g2 x2 a w2 hp S H K14 k14;obtain ⟨i,rfl⟩:∃ y,y=x2:=⟨_,rfl⟩;refine sS H fun K15 k15=>sr 1 G<|sE ?_;clear H a;intro a H
 refine k15 _ ?_;refine wp_seq_k fun K16 k16=>?_
 refine condL H rfl (fun hc3=>?_) (fun hc3=>?_)
 ·skip
  refine wp_skip ?_;refine k16 _ _ ?_;refine wp_seq_k fun K17 k17=>?_
  refine wp_block ?_;refine seq_list fun K18 k18=>?_
  refine ls 3 H<|sr 1 G<|si eW dV G G (hjs.adr (by omega)) (by omega)<|sd ((aU nU dV rfl S hjs (by omega) (by omega)))<|sE ?_;clear H a;intro a H
  refine aJ H rfl S rQ ?_;intro b9 _ a hb9 hbw9 S H
  refine ls 1 H<|sr 1 G<|sE ?_;clear H a;intro a H
  refine aE H S (i:=0) G G G G dV G G ?_
  clear H a S;intro _ a S H;refine k18 _ _ ?_;replace H:=H.keep [1,2,8,9,44,45,46] rfl;refine sS H fun K19 k19=>sf lN rfl<|sl S 0 bE G G G<|sL aP rfl<|sr 1 G<|sE ?_;clear H a;intro a H
  refine k19 _ ?_;refine wp_block ?_;have hai:=han i (by omega);refine loop_st (X:=Nat) (R0:=_) [1,2,8,44,45,46,52,53] H rfl (fun q=>[(54,.int .i64 (q:Int))]) (fun q=>[]) (fun g q=>q≤(js.getD i Jq.zero).after.length∧g+q=(js.getD i Jq.zero).after.length) ((js.getD i Jq.zero).after.length) 0 ?_ (S.sel [0,1] G G) (H.keep [54,1,2,8,44,45,46,52,53] rfl) ?_
  · exact ⟨by omega,by omega⟩
  clear H S a;intro g3 x3 a w3 hp S H K20 k20;obtain ⟨q,rfl⟩:∃ y,y=x3:=⟨_,rfl⟩;refine sS H fun K21 k21=>sr 1 G<|sE ?_;clear H a;intro a H
  refine k21 _ ?_;refine wp_seq_k fun K22 k22=>?_
  refine condL H rfl (fun hc4=>?_) (fun hc4=>?_)
  ·skip
   refine wp_skip ?_;refine k22 _ _ ?_;refine wp_seq_k fun K23 k23=>?_
   refine wp_block ?_;refine sS H fun K24 k24=>si aP aX G G ((haf i (by omega)).adr (by omega)) (by omega)<|slm aD rfl ((haf i (by omega)).rd S (by omega) (by omega))<|sr 1 G<|sE ?_;clear H a;intro a H
   refine k24 _ ?_;have hai:=V.aft i (by omega) q (by omega);have hlb:=aBd (l:=(js.getD i Jq.zero).after) (q:=q) (fun z hz=>(V.aft i (by omega) z (by omega)).1);have hta:((((js.getD i Jq.zero).after.getD q 0).toNat:Nat):Int)=(js.getD i Jq.zero).after.getD q 0:=by omega
   have hsa:=hsb ((js.getD i Jq.zero).after.getD q 0).toNat (by omega)
   have hja:=V.job ((js.getD i Jq.zero).after.getD q 0).toNat (by omega)
   have hsi:=hsb i (by omega)
   replace H:=H.keep [1,2,8,11,44,45,46,52,53,54] rfl;replace S:=S.drew;refine sD H fun K25 k25=>sr 2 G<|sI aP aX G G (hst.adr (by omega)) (by omega) (by omega)<|slm aD rfl (hst.rd S (by omega) (by omega))<|sf dC rfl<|sl S 1 eJ G G G<|sr 1 G<|sI eW dV G G (hjs.adr (by omega)) (by omega) (by omega)<|sp kM rfl<|slm aD rfl (hjs.rd S (by omega) (by omega))<|sd (aI G G (by unfold i64ok;omega))<|sr 2 G<|si aP aX G G (hst.adr (by omega)) (by omega)<|slm aD rfl (hst.rd S (by omega) (by omega))<|sr 1 G<|sE ?_;clear H a;intro a H
   refine k25 _ ?_;refine condL H rfl (fun hc5=>?_) (fun hc5=>?_)
   ·skip
    replace H:=H.keep [8] rfl;refine sS H fun K26 k26=>sr 3 G<|sE ?_;clear H a;intro a H
    refine k26 _ ?_;refine wp_ret ?_;refine ret2 (fn:=Tryz.f73) rfl H G G ?_;first|exact ⟨_,_,rfl,fun h=>by omega,(S.sel [] G G)⟩|exact ⟨_,_,rfl,fun _=>lT (by omega) hR1 (hT1 (by omega)) (hT2 (by omega)) (hT3 (by omega)),(S.sel [] G G)⟩
   refine wp_skip ?_;refine k23 _ _ ?_;refine sO H<|sd (aI G G (by unfold i64ok;omega))<|sr 1 G<|sE ?_;clear H a;intro a H
   exact k20 (g3-1) (q+1) a _ (by omega) (⟨by omega,by omega⟩) (S.sel [0,1] G G) (H.keep [54,1,2,8,44,45,46,52,53] rfl)
  refine wp_exit ?_;refine k17 _ _ ?_;refine sO H<|sd (aI G G (by unfold i64ok;omega))<|sr 1 G<|sE ?_;clear H a;intro a H
  exact k14 (g2-1) (i+1) a _ (by omega) (⟨by omega,by omega⟩) (S.sel [1] G G) (H.keep [46,1,2,44,45] rfl)
 refine wp_exit ?_;refine k12 _ _ ?_;replace H:=H.keep [1,2] rfl;refine seq_list fun K29 k29=>?_
 refine ls 3 H<|sr 2 G<|sd (aN aAl G G)<|sE ?_;clear H a;intro a H
 refine aJ H rfl S Pb ?_;intro b12 _ a hb12 hbw12 S H
 refine aE H S (i:=0) G G G G Od G G ?_
 clear H a S;intro _ a S H;refine k29 _ _ ?_;refine wp_seq_k fun K30 k30=>?_
 refine sS H fun K31 k31=>sd (Does.to (aB Un Od rfl S (i:=0) G G) (show _=Value.agg #[.func (.func 110) #[] #[],.func (.func 111) #[] #[.pointer (some ⟨b2,0,none⟩)],.func (.func 112) #[] #[.pointer (some ⟨b2,0,none⟩)]] from rfl))<|sr 1 G<|sE ?_;clear H a;intro a H
 refine k31 _ ?_;refine wp_block ?_;refine loop_st (X:=Nat) (R0:=_) [1,2,80] H rfl (fun k=>[(81,.int .i64 (k:Int))]) (fun k=>[]) (fun g k=>k≤3∧g+k=3∧(1≤k→∀ q:Nat,(q:Int)<un→iG js st q js.length=false)∧(2≤k→∀ q:Nat,(q:Int)<un→¬ cr<nJobs js st q js.length)∧(3≤k→∀ q:Nat,(q:Int)<un→(nv.any fun n=>decide (landI (nSet js st q js.length) n=n))=false)) (3) 0 ?_ (S.sel [0,1] G G) (H.keep [81,1,2,80] rfl) ?_
 · exact ⟨by omega,by omega,fun h=>by omega,fun h=>by omega,fun h=>by omega⟩
 clear H S a;intro g4 x4 a w4 hp S H K32 k32;obtain ⟨k,rfl⟩:∃ y,y=x4:=⟨_,rfl⟩;obtain ⟨hk3,hgk,hT1,hT2,hT3⟩:=hp;refine sS H fun K33 k33=>sr 1 G<|sE ?_;clear H a;intro a H
 refine k33 _ ?_;refine wp_seq_k fun K34 k34=>?_
 refine condL H rfl (fun hc6=>?_) (fun hc6=>?_)
 ·skip
  refine wp_skip ?_;refine k34 _ _ ?_;refine wp_seq_k fun K35 k35=>?_
  refine wp_block ?_;have hk3:k=0∨k=1∨k=2:=by omega
  rcases hk3 with rfl|rfl|rfl
  ·skip
   skip
   refine sS H fun K36 k36=>sr 1 G<|sd (mU Tryz.underlying223 Fh G G (by omega) (by omega) (zJ) (rfl))<|sr 2 G<|sE ?_;intro a H
   refine k36 _ ?_;refine sS H fun K37 k37=>sf fI rfl<|sl S 1 aD G G G<|sr 1 G<|sE ?_;intro a H
   refine k37 _ ?_;refine wp_block ?_;have hun:((un.toNat:Nat):Int)=un:=by omega
   refine loop_st (X:=Nat) (R0:=_) [1,2,13,14,80,81,86] H rfl (fun n=>[(87,.int .i64 (n:Int))]) (fun n=>[]) (fun g n=>n≤un.toNat∧g+n=un.toNat∧∀ q,q<n→(fun q:Nat=>iG js st q js.length=false) q) (un.toNat) 0 ?_ (S.sel [0,1] G G) (H.keep [87,1,2,13,14,80,81,86] rfl) ?_
   · exact ⟨by omega,by omega,fun k hk=>absurd hk (Nat.not_lt_zero k)⟩
   clear H S a;intro g5 x5 a w5 hp S H K38 k38;obtain ⟨n,rfl⟩:∃ y,y=x5:=⟨_,rfl⟩;refine sS H fun K39 k39=>sr 1 G<|sE ?_;intro a H
   refine k39 _ ?_;refine wp_seq_k fun K40 k40=>?_
   refine condL H rfl (fun hc7=>?_) (fun hc7=>?_)
   ·skip
    refine wp_skip ?_;refine k40 _ _ ?_;refine wp_seq_k fun K41 k41=>?_
    refine wp_block ?_;refine sS H fun K42 k42=>sr 2 G<|sE ?_;intro a H
    refine k42 _ ?_;replace H:=H.keep [1,2,13,14,15,80,81,86,87] rfl;refine seq_list fun K43 k43=>?_
    refine ls 4 H<|sr 1 G<|sd ((aB lF oO rfl S (i:=1) G G))<|sr 2 G<|sE ?_;intro a H
    refine aA H G G Tryz.func45 G G (nM mm js JA jc AA ac nv NA nc cr un st SA sc (n:Int) _ (hjs.now S) (hnv.now S) (fun k hk=>(haf k hk).now S) (hst.now S) hsl V hsb) ?_;clear H a
    rintro _ _ a ⟨rfl,S2⟩ H;replace S:=S.call S2;clear S2;refine ls 3 H<|sr 3 G<|sE ?_;intro a H
    refine iS H G G G Tryz.func110 G G (zZ _ _ _ _) ?_;clear H a
    rintro _ _ a ⟨rfl,S2⟩ H;replace S:=S.call S2;clear S2;refine k43 _ _ ?_;refine cond_ H rfl (fun hc8=>?_) (fun hc8=>?_)
    ·skip
     try simp only [oz] at hc8
     replace H:=H.keep [13,15] rfl;refine sS H fun K44 k44=>sr 1 G<|sd (aI G G (by unfold i64ok;omega))<|sr 3 G<|sE ?_;intro a H
     refine k44 _ ?_;refine wp_ret ?_;refine ret2 (fn:=Tryz.f73) rfl H G G ?_;first|exact ⟨_,_,rfl,fun h=>by omega,(S.sel [] G G)⟩|exact ⟨_,_,rfl,fun _=>lT (by omega) hR1 (hT1 (by omega)) (hT2 (by omega)) (hT3 (by omega)),(S.sel [] G G)⟩
    try simp only [oz] at hc8
    refine wp_skip ?_;refine k41 _ _ ?_;refine sO H<|sd (aI G G (by unfold i64ok;omega))<|sr 1 G<|sE ?_;intro a H
    exact k38 (g5-1) (n+1) a _ (by omega) (⟨by omega,by omega,kR hp.2.2 (by simpa using hc8)⟩) (S.sel [0,1] G G) (H.keep [87,1,2,13,14,80,81,86] rfl)
   refine wp_exit ?_;refine k35 _ _ ?_;refine sO H<|sd (aI G G (by unfold i64ok;omega))<|sr 1 G<|sE ?_;intro a H
   exact k32 (g4-1) 1 a _ (by omega) (⟨by omega,by omega,fun _ q hq=>hp.2.2 q (by omega),fun h=>by omega,fun h=>by omega⟩) (S.sel [0,1] G G) (H.keep [81,1,2,80] rfl)
  ·skip
   skip
   replace H:=H.keep [1,2,80,81] rfl;refine sS H fun K47 k47=>sr 1 G<|sd (mU Tryz.underlying223 Fh G G (by omega) (by omega) (zJ) (rfl))<|sr 2 G<|sE ?_;intro a H
   refine k47 _ ?_;refine sS H fun K48 k48=>sf fI rfl<|sl S 1 aD G G G<|sr 1 G<|sE ?_;intro a H
   refine k48 _ ?_;refine wp_block ?_;have hun:((un.toNat:Nat):Int)=un:=by omega
   refine loop_st (X:=Nat) (R0:=_) [1,2,13,14,80,81,86] H rfl (fun n=>[(87,.int .i64 (n:Int))]) (fun n=>[]) (fun g n=>n≤un.toNat∧g+n=un.toNat∧∀ q,q<n→(fun q:Nat=>¬ cr<nJobs js st q js.length) q) (un.toNat) 0 ?_ (S.sel [0,1] G G) (H.keep [87,1,2,13,14,80,81,86] rfl) ?_
   · exact ⟨by omega,by omega,fun k hk=>absurd hk (Nat.not_lt_zero k)⟩
   clear H S a;intro g6 x6 a w6 hp S H K49 k49;obtain ⟨n,rfl⟩:∃ y,y=x6:=⟨_,rfl⟩;refine sS H fun K50 k50=>sr 1 G<|sE ?_;intro a H
   refine k50 _ ?_;refine wp_seq_k fun K51 k51=>?_
   refine condL H rfl (fun hc9=>?_) (fun hc9=>?_)
   ·skip
    refine wp_skip ?_;refine k51 _ _ ?_;refine wp_seq_k fun K52 k52=>?_
    refine wp_block ?_;refine sS H fun K53 k53=>sr 2 G<|sE ?_;intro a H
    refine k53 _ ?_;replace H:=H.keep [1,2,13,14,15,80,81,86,87] rfl;refine seq_list fun K54 k54=>?_
    refine ls 4 H<|sr 1 G<|sd ((aB lF oO rfl S (i:=1) G G))<|sr 2 G<|sE ?_;intro a H
    refine aA H G G Tryz.func45 G G (nM mm js JA jc AA ac nv NA nc cr un st SA sc (n:Int) _ (hjs.now S) (hnv.now S) (fun k hk=>(haf k hk).now S) (hst.now S) hsl V hsb) ?_;clear H a
    rintro _ _ a ⟨rfl,S2⟩ H;replace S:=S.call S2;clear S2;refine ls 3 H<|sr 3 G<|sE ?_;intro a H
    have S1:=(S.sel [1] G G)
    refine iS H G G G Tryz.func111 G G (Aa mm js JA jc AA ac nv NA nc cr un b2 _ _ _ _ _ S1.startR) ?_;clear H a
    rintro _ _ a ⟨rfl,S2⟩ H;replace S:=(S.sel [1,0] rfl rfl).callR (M:=[_]) S2;clear S1 S2;refine k54 _ _ ?_;refine cond_ H rfl (fun hc10=>?_) (fun hc10=>?_)
    ·skip
     try simp only [oz] at hc10
     replace H:=H.keep [13,15] rfl;refine sS H fun K55 k55=>sr 1 G<|sd (aI G G (by unfold i64ok;omega))<|sr 3 G<|sE ?_;intro a H
     refine k55 _ ?_;refine wp_ret ?_;refine ret2 (fn:=Tryz.f73) rfl H G G ?_;first|exact ⟨_,_,rfl,fun h=>by omega,(S.sel [] G G)⟩|exact ⟨_,_,rfl,fun _=>lT (by omega) hR1 (hT1 (by omega)) (hT2 (by omega)) (hT3 (by omega)),(S.sel [] G G)⟩
    try simp only [oz] at hc10
    refine wp_skip ?_;refine k52 _ _ ?_;refine sO H<|sd (aI G G (by unfold i64ok;omega))<|sr 1 G<|sE ?_;intro a H
    exact k49 (g6-1) (n+1) a _ (by omega) (⟨by omega,by omega,kR hp.2.2 (by omega)⟩) (S.sel [1,0] G G) (H.keep [87,1,2,13,14,80,81,86] rfl)
   refine wp_exit ?_;refine k35 _ _ ?_;refine sO H<|sd (aI G G (by unfold i64ok;omega))<|sr 1 G<|sE ?_;intro a H
   exact k32 (g4-1) 2 a _ (by omega) (⟨by omega,by omega,fun _=>hT1 (by omega),fun _ q hq=>hp.2.2 q (by omega),fun h=>by omega⟩) (S.sel [0,1] G G) (H.keep [81,1,2,80] rfl)
  skip
  replace H:=H.keep [1,2,80,81] rfl;refine sS H fun K58 k58=>sr 1 G<|sd (mU Tryz.underlying223 Fh G G (by omega) (by omega) (zJ) (rfl))<|sr 2 G<|sE ?_;intro a H
  refine k58 _ ?_;refine sS H fun K59 k59=>sf fI rfl<|sl S 1 aD G G G<|sr 1 G<|sE ?_;intro a H
  refine k59 _ ?_;refine wp_block ?_;have hun:((un.toNat:Nat):Int)=un:=by omega
  refine loop_st (X:=Nat) (R0:=_) [1,2,13,14,80,81,86] H rfl (fun n=>[(87,.int .i64 (n:Int))]) (fun n=>[]) (fun g n=>n≤un.toNat∧g+n=un.toNat∧∀ q,q<n→(fun q:Nat=>(nv.any fun n=>decide (landI (nSet js st q js.length) n=n))=false) q) (un.toNat) 0 ?_ (S.sel [0,1] G G) (H.keep [87,1,2,13,14,80,81,86] rfl) ?_
  · exact ⟨by omega,by omega,fun k hk=>absurd hk (Nat.not_lt_zero k)⟩
  clear H S a;intro g7 x7 a w7 hp S H K60 k60;obtain ⟨n,rfl⟩:∃ y,y=x7:=⟨_,rfl⟩;refine sS H fun K61 k61=>sr 1 G<|sE ?_;intro a H
  refine k61 _ ?_;refine wp_seq_k fun K62 k62=>?_
  refine condL H rfl (fun hc11=>?_) (fun hc11=>?_)
  ·skip
   refine wp_skip ?_;refine k62 _ _ ?_;refine wp_seq_k fun K63 k63=>?_
   refine wp_block ?_;refine sS H fun K64 k64=>sr 2 G<|sE ?_;intro a H
   refine k64 _ ?_;replace H:=H.keep [1,2,13,14,15,80,81,86,87] rfl;refine seq_list fun K65 k65=>?_
   refine ls 4 H<|sr 1 G<|sd ((aB lF oO rfl S (i:=1) G G))<|sr 2 G<|sE ?_;intro a H
   refine aA H G G Tryz.func45 G G (nM mm js JA jc AA ac nv NA nc cr un st SA sc (n:Int) _ (hjs.now S) (hnv.now S) (fun k hk=>(haf k hk).now S) (hst.now S) hsl V hsb) ?_;clear H a
   rintro _ _ a ⟨rfl,S2⟩ H;replace S:=S.call S2;clear S2;refine ls 3 H<|sr 3 G<|sE ?_;intro a H
   have S1:=(S.sel [1] G G)
   refine iS H G G G Tryz.func112 G G (Ab mm js JA jc AA ac nv NA nc cr un b2 _ _ _ _ _ S1.startR (hnv.nowR S1) V (yA V)) ?_;clear H a
   rintro _ _ a ⟨rfl,S2⟩ H;replace S:=(S.sel [1,0] rfl rfl).callR (M:=[_]) S2;clear S1 S2;refine k65 _ _ ?_;refine cond_ H rfl (fun hc12=>?_) (fun hc12=>?_)
   ·skip
    try simp only [oz] at hc12
    replace H:=H.keep [13,15] rfl;refine sS H fun K66 k66=>sr 1 G<|sd (aI G G (by unfold i64ok;omega))<|sr 3 G<|sE ?_;intro a H
    refine k66 _ ?_;refine wp_ret ?_;refine ret2 (fn:=Tryz.f73) rfl H G G ?_;first|exact ⟨_,_,rfl,fun h=>by omega,(S.sel [] G G)⟩|exact ⟨_,_,rfl,fun _=>lT (by omega) hR1 (hT1 (by omega)) (hT2 (by omega)) (hT3 (by omega)),(S.sel [] G G)⟩
   try simp only [oz] at hc12
   refine wp_skip ?_;refine k63 _ _ ?_;refine sO H<|sd (aI G G (by unfold i64ok;omega))<|sr 1 G<|sE ?_;intro a H
   exact k60 (g7-1) (n+1) a _ (by omega) (⟨by omega,by omega,kR hp.2.2 (by simpa using hc12)⟩) (S.sel [1,0] G G) (H.keep [87,1,2,13,14,80,81,86] rfl)
  refine wp_exit ?_;refine k35 _ _ ?_;refine sO H<|sd (aI G G (by unfold i64ok;omega))<|sr 1 G<|sE ?_;intro a H
  exact k32 (g4-1) 3 a _ (by omega) (⟨by omega,by omega,fun _=>hT1 (by omega),fun _=>hT2 (by omega),fun _ q hq=>hp.2.2 q (by omega)⟩) (S.sel [0,1] G G) (H.keep [81,1,2,80] rfl)
 refine wp_exit ?_;refine k30 _ _ ?_;replace H:=H.keep [] rfl;refine sS H fun K69 k69=>sr 2 G<|sE ?_;intro a H
 refine k69 _ ?_;refine wp_ret ?_;refine ret2 (fn:=Tryz.f73) rfl H G G ?_;first|exact ⟨_,_,rfl,fun h=>by omega,(S.sel [] G G)⟩|exact ⟨_,_,rfl,fun _=>lT (by omega) hR1 (hT1 (by omega)) (hT2 (by omega)) (hT3 (by omega)),(S.sel [] G G)⟩
end
section
section
variable {P:Program} {L:List (Nat×Value)} {w:World} {d:Option Nat} {ty:TypeId} {pos:String} {af:Array Edge} {g:Option (Nat×Bool)}
theorem nN {x:Operand} {t e n c:Nat} {yt:TypeId} {A:Option Addr} (hu:SlT P t e) (hx:ev L x=some (.slice A n c)):Does P L ⟨d,.binOp .eql t x (.const (.slice none 0 0)) yt,ty,pos,af,g⟩ w (.bool A.isNone):=fun ρ hρ=>by
 have h2:=hρ (.const (.slice none 0 0)) _ rfl
 have e2:∀ D:Nat,(Op.equalIn (D+1) t (.slice A n c) (.slice none 0 0)).run P w = .ok A.isNone w:=fun D=>by
  cases A <;> simp [Op.equalIn,bS hu]
 have e3:(binOp .eql t (.slice A n c) (.slice none 0 0)).run P w = .ok (.bool A.isNone) w:=by
  simp only [binOp,Op.equal,Sem.run_bind]
  rw [show Op.maxDepth=9999+1 from rfl,e2];rfl
 simp only [execOp,hρ _ _ hx,h2]
 simp [eqGuard,Op.eqGuardIn,e3]
end
section
variable {mm cr un:Int} {js:List Jq} {nv st pl:List Int} {i:Int} {A8:Option Addr} {en:Int}
def BestP (js:List Jq) (nv:List Int) (cr un:Int) (A8:Option Addr) (st:List Int) (en:Int):Prop:=(A8=none∧st=[])∨(A8.isNone=false∧st.length=js.length∧WkR js nv cr un st∧en=endV js st js.length)
theorem Qk {e sz n c:Nat} {A:Option Addr} {cell:Nat→Nat→Value} {w w0:World} {F0:Nat→Prop} {R:List Mem} {i:Nat} (S:St w0 F0 R w) (hi:R[i]?=some (ownM e sz A n c cell)) (hn:0<n):A.isNone=false:=by
 have h:=aEj S hi hn
 rw [h];rfl
end
theorem Cs (mm:Int) (js:List Jq) (JA:Option Addr) (jc:Nat) (AA:Nat→Option Addr) (ac:Nat→Nat) (nv:List Int) (NA:Option Addr) (nc:Nat) (cr un:Int) (st:List Int) (SA:Option Addr) (sc:Nat) {n:Nat} (hn9:st.length=n) (w:World) (hjs:InS w noF 3 JA js.length (jD js AA ac)) (hnv:InS w noF 1 NA nv.length (icl nv)) (haf:∀ k,k<js.length→InS w noF 1 (AA k) (js.getD k Jq.zero).after.length (icl (js.getD k Jq.zero).after)) (hst:InS w noF 1 SA n (icl st)) (hsl:st.length=js.length) (V:WkV mm js nv cr un) (hsb:∀ k,k<js.length→0≤st.getD k 0∧st.getD k 0≤24):Calls Tryz.prog 72 [.agg [.int .i64 mm,.slice JA js.length jc,.slice NA nv.length nc,.int .i64 cr,.int .i64 un].toArray,.slice SA n sc].toArray w (Ret fun u w'=>u = .int .i64 (endV js st js.length)∧St w noF [] w'):=by
 subst hn9;exact Gd mm js JA jc AA ac nv NA nc cr un st SA sc w hjs hnv haf hst hsl V hsb
theorem Ac (mm:Int) (js:List Jq) (JA:Option Addr) (jc:Nat) (AA:Nat→Option Addr) (ac:Nat→Nat) (nv:List Int) (NA:Option Addr) (nc:Nat) (cr un:Int) (st:List Int) (SA:Option Addr) (sc:Nat) {n:Nat} (hn9:st.length=n) (w:World) (hjs:InS w noF 3 JA js.length (jD js AA ac)) (hnv:InS w noF 1 NA nv.length (icl nv)) (haf:∀ k,k<js.length→InS w noF 1 (AA k) (js.getD k Jq.zero).after.length (icl (js.getD k Jq.zero).after)) (hjn:js.length≤9223372036854775807) (hnn:nv.length≤9223372036854775807) (han:∀ k,k<js.length→(js.getD k Jq.zero).after.length≤9223372036854775807) (hst:InS w noF 1 SA n (icl st)) (hsl:st.length=js.length) (V:WkV mm js nv cr un) (hsb:∀ k,k<js.length→0≤st.getD k 0∧st.getD k 0≤24):Calls Tryz.prog 73 [.agg [.int .i64 mm,.slice JA js.length jc,.slice NA nv.length nc,.int .i64 cr,.int .i64 un].toArray,.slice SA n sc].toArray w (Ret (fun u w'=>∃ r n:Int,u = .tuple #[.int .i64 r,.int .i64 n]∧(r=0→WkR js nv cr un st)∧St w noF [] w')):=by
 subst hn9;exact Cr mm js JA jc AA ac nv NA nc cr un st SA sc w hjs hnv haf hjn hnn han hst hsl V hsb
theorem Ql (pe:List Int) (BA:Option Addr) (bc:Nat) (w:World) (hpe:InS w noF 1 BA pe.length (icl pe)) (hpl8:pe.length≤1000) (hp1:0<pe.length) :
    Calls Tryz.prog 56 [.slice BA pe.length bc].toArray w (Ret (fun u w'=>∃ A c,u = .slice A pe.length c∧A.isNone=false∧St w noF [ownM 3 1 A pe.length c (icl pe)] w')):=by
 refine enter Tryz.func56 rfl Tryz.ntmps56 rfl (fun a H=>?_)
 have S:=St.start w
 refine sS H fun K1 k1=>sr 1 G<|sE ?_;clear H a;intro a H
 refine k1 _ ?_;refine wp_seq_k fun K2 k2=>?_
 refine sS H fun K3 k3=>sr 1 G<|sd (nN aP rfl)<|sE ?_;clear H a;intro a H
 refine k3 _ ?_;refine cond_ H rfl (fun hc1=>?_) (fun hc1=>?_)
 ·skip
  try simp only [oz] at hc1
  refine sS H fun K4 k4=>sr 1 G<|sE ?_;clear H a;intro a H
  refine k4 _ ?_;refine wp_ret ?_;refine ret1 (fn:=Tryz.f56) rfl H rfl ?_;exfalso;obtain ⟨b,o,rfl,_⟩:=hpe hp1;cases hc1
 try simp only [oz] at hc1
 refine wp_skip ?_;refine k2 _ _ ?_;refine seq_list fun K5 k5=>?_
 refine mX H rfl S aP aX (icl pe) ?_;clear H a S;intro A1 _ a S H
 refine ls 1 H<|sr 1 G<|sE ?_;clear H a;intro a H
 refine bM H rfl S aP aX fD mQ G G (i:=0) G G G ((hpe.now S)) (fun _ _ _ _=>rfl) (by omega) (by omega) ?_;clear H a S;intro A2 c2 _ a S H
 rw [Nat.zero_add] at H;replace S:=S.recell (i:=0) (n:=pe.length) (cell':=icl pe) (by simp only [Nat.zero_add];rfl) (fun k j hk hj=>by unfold capp;rw [if_neg (by omega)];rfl);obtain ⟨pA,rfl⟩:∃ y,y=A2:=⟨_,rfl⟩;obtain ⟨pC,rfl⟩:∃ y,y=c2:=⟨_,rfl⟩;refine ls 1 H<|sr 1 G<|sE ?_;clear H a;intro a H
 refine k5 _ _ ?_;refine wp_ret ?_;refine ret1 (fn:=Tryz.f56) rfl H rfl ?_;exact ⟨_,_,rfl,Qk S (i:=0) rfl hp1,(S.sel [0] G G)⟩
theorem Lc (pe:List Int) (BA:Option Addr) (bc:Nat) {n:Nat} (hn9:pe.length=n) (w:World) (hpe:InS w noF 1 BA n (icl pe)) (hpl8:pe.length≤1000) (hp1:0<pe.length):Calls Tryz.prog 56 [.slice BA n bc].toArray w (Ret (fun u w'=>∃ A c,u = .slice A pe.length c∧A.isNone=false∧St w noF [ownM 3 1 A pe.length c (icl pe)] w')):=by
 subst hn9;exact Ql pe BA bc w hpe hpl8 hp1
theorem Ge (mm:Int) (js:List Jq) (JA:Option Addr) (jc:Nat) (AA:Nat→Option Addr) (ac:Nat→Nat) (nv:List Int) (NA:Option Addr) (nc:Nat) (cr un:Int) (w:World) (hjs:InS w noF 3 JA js.length (jD js AA ac)) (hnv:InS w noF 1 NA nv.length (icl nv)) (haf:∀ k,k<js.length→InS w noF 1 (AA k) (js.getD k Jq.zero).after.length (icl (js.getD k Jq.zero).after)) (hjn:js.length≤9223372036854775807) (hnn:nv.length≤9223372036854775807) (han:∀ k,k<js.length→(js.getD k Jq.zero).after.length≤9223372036854775807) (hE:wksE mm js nv cr un=0) :
    Calls Tryz.prog 29 [.agg [.int .i64 mm,.slice JA js.length jc,.slice NA nv.length nc,.int .i64 cr,.int .i64 un].toArray].toArray w (Ret (fun u w'=>∃ (st:List Int) (A:Option Addr) (c:Nat) (en e:Int),u = .tuple #[.slice A st.length c,.int .i64 en,.int .i64 e]∧((e=0∧st.length=js.length∧WkR js nv cr un st∧en=endV js st js.length)∨e=2∨e=3)∧St w noF [ownM 3 1 A st.length c (icl st)] w')):=by
 have V:=rY hE
 have hjl:=V.nj
 have hub:=V.unb
 have hU:((un.toNat:Nat):Int)=un:=by omega
 refine enter Tryz.func29 rfl Tryz.ntmps29 rfl (fun a H=>?_)
 have S:=St.start w
 refine seq_list fun K1 k1=>?_
 refine aO H rfl S G G ?_;intro b1 _ a hb1 hbw1 S H
 refine ls 3 H<|sr 3 G<|sE ?_;clear H a;intro a H
 refine k1 _ _ ?_;refine wp_seq_k fun K2 k2=>?_
 refine seq_list fun K3 k3=>?_
 refine ls 1 H<|sd ((aB lF oO rfl S (i:=0) G G))<|sE ?_;clear H a;intro a H
 refine aA H G G Tryz.func71 G G (sA mm js JA jc AA ac nv NA nc cr un _ (hjs.now S) (hnv.now S) (fun k hk=>(haf k hk).now S) hjn hnn han) ?_;clear H a
 rintro _ _ a ⟨rfl,S2⟩ H;replace S:=S.call S2;clear S2;refine ls 1 H<|sr 1 G<|sE ?_;clear H a;intro a H
 refine k3 _ _ ?_;refine sS H fun K4 k4=>sr 2 G<|sE ?_;clear H a;intro a H
 refine k4 _ ?_;refine condN H rfl (fun hc1=>?_) (fun hc1=>?_)
 ·skip
  exact absurd hE hc1
 refine wp_skip ?_;refine k2 _ _ ?_;replace H:=H.keep [1,2,3] rfl;refine sS H fun K5 k5=>sr 1 G<|sE ?_;clear H a;intro a H
 refine k5 _ ?_;refine wp_seq_k fun K6 k6=>?_
 refine sS H fun K7 k7=>sf dC rfl<|sl S 0 eJ G G G<|sL eW rfl<|sr 1 G<|sE ?_;clear H a;intro a H
 refine k7 _ ?_;refine wp_block ?_;refine loop_st (X:=Nat×Int) (R0:=_) [1,2,3,18] H rfl (fun ⟨i,al⟩=>[(5,.int .i64 al),(19,.int .i64 (i:Int))]) (fun ⟨i,al⟩=>[]) (fun g ⟨i,al⟩=>i≤js.length∧g+i=js.length∧0≤al∧al≤24^i) (js.length) (0,1) ?_ (S.sel [0] G G) (H.keep [5,19,1,2,3,18] rfl) ?_
 · exact ⟨by omega,by omega,by decide,by decide⟩
 clear H S a;intro g1 x1 a w1 hp S H K8 k8;obtain ⟨i,al⟩:=x1;dsimp only at hp S H;obtain ⟨hil,hgi,hal⟩:=hp;refine sS H fun K9 k9=>sr 1 G<|sE ?_;clear H a;intro a H
 refine k9 _ ?_;refine wp_seq_k fun K10 k10=>?_
 refine condL H rfl (fun hc2=>?_) (fun hc2=>?_)
 ·skip
  refine wp_skip ?_;refine k10 _ _ ?_;refine wp_seq_k fun K11 k11=>?_
  refine wp_block ?_;have hm24:=pw24 (un:=un) (i:=i) (al:=al) ⟨hal.1,hal.2⟩ hub (by omega);refine sO H<|sr 1 G<|sf fI rfl<|sl S 0 aD G G G<|sd (fY G G (by unfold i64ok;omega))<|sr 1 G<|sE ?_;clear H a;intro a H
  refine k11 _ _ ?_;refine sO H<|sd (aI G G (by unfold i64ok;omega))<|sr 1 G<|sE ?_;clear H a;intro a H
  exact k8 (g1-1) (i+1,_) a _ (by omega) (⟨by omega,by omega,hm24.1⟩) (S.sel [0] G G) (H.keep [5,19,1,2,3,18] rfl)
 refine wp_exit ?_;refine k6 _ _ ?_;refine wp_seq_k fun K14 k14=>?_
 replace H:=H.keep [1,2,3,5] rfl;refine sS H fun K15 k15=>sr 2 G<|sE ?_;clear H a;intro a H
 refine k15 _ ?_;refine condL H rfl (fun hc3=>?_) (fun hc3=>?_)
 ·skip
  refine sS H fun K16 k16=>sr 3 G<|sE ?_;clear H a;intro a H
  refine k16 _ ?_;refine wp_ret ?_;refine ret3 (fn:=Tryz.f29) rfl H G G G ?_;exact ⟨[],none,0,0,2,rfl,.inr (.inl rfl),(S.sel [] G G).newNil _ _ _⟩
 refine wp_skip ?_;refine k14 _ _ ?_;replace H:=H.keep [1,2,3] rfl;refine seq_list fun K17 k17=>?_
 refine ls 3 H<|sf dC rfl<|sl S 0 eJ G G G<|sL eW rfl<|sE ?_;clear H a;intro a H
 refine fP (n:=js.length) H rfl S aP aX fD mQ rfl (by decide) G G (by omega) (by omega) ?_;intro A1 _ a hA1 S H
 generalize A1=AP at S H
 replace S:=S.recell (i:=0) rfl (cell':=icl (List.replicate js.length 0)) (fun k j _ hj=>by
   obtain rfl:j=0:=by omega
   unfold icl;rw [Ic];rfl)
 refine ls 1 H<|sr 1 G<|sE ?_;clear H a;intro a H
 refine k17 _ _ ?_;refine wp_seq_k fun K18 k18=>?_
 refine wp_block ?_;replace S:=S.newNil 3 1 (icl []);refine loop_st (X:=List Int×List Int×Option Addr×Nat×Int) (R0:=_) [1,6] H rfl (fun ⟨pl,st,A8,c8,en⟩=>[(2,.slice A8 st.length c8),(3,.int .i64 en)]) (fun ⟨pl,st,A8,c8,en⟩=>[ownM 3 1 AP js.length js.length (icl pl),ownM 3 1 A8 st.length c8 (icl st)]) (fun g ⟨pl,st,A8,c8,en⟩=>pl.length=js.length∧(∀ k,k<js.length→0≤pl.getD k 0∧pl.getD k 0≤un-1)∧BestP js nv cr un A8 st en∧g+odV un.toNat pl js.length=un.toNat^js.length) ((un.toNat^js.length)) (List.replicate js.length 0,[],none,0,0) ?_ (S.sel [1,0,2] G G) (H.keep [2,3,1,6] rfl) ?_
 · exact ⟨List.length_replicate,fun k hk=>by rw [Ic];omega,.inl ⟨rfl,rfl⟩,by rw [Qj];rfl⟩
 clear H S a;intro g2 x2 a w2 hp S H K19 k19;obtain ⟨pl,st,A8,c8,en⟩:=x2;dsimp only at hp S H;obtain ⟨hpl,hpb,hbe,hgo⟩:=hp;have hov:=aAt (U:=un.toNat) (l:=pl) (n:=js.length) (fun k hk=>by have:=hpb k hk;omega);refine wp_block ?_;have SR:=(S.sel [0,2] rfl rfl);refine meet_sr (X:=List Int×Option Addr×Nat×Int) [1,6] H rfl (fun ⟨st,A8,c8,en⟩=>[(2,.slice A8 st.length c8),(3,.int .i64 en)]) (fun ⟨st,A8,c8,en⟩=>[ownM 3 1 A8 st.length c8 (icl st)]) (fun ⟨st,A8,c8,en⟩=>BestP js nv cr un A8 st en) SR (fun K21 k21=>?_) ?_
 ·skip
  refine seq_list fun K22 k22=>?_
  refine ls 2 H<|sd ((aB lF oO rfl S (i:=2) G G))<|sr 1 G<|sE ?_;clear H a;intro a H
  refine aA H G G Tryz.func72 G G (Cs mm js JA jc AA ac nv NA nc cr un pl AP js.length hpl _ (hjs.now S) (hnv.now S) (fun k hk=>(haf k hk).now S) (aEi S (i:=0) rfl) hpl V (fun k hk=>by have:=hpb k hk;omega)) ?_;clear H a
  rintro _ _ a ⟨rfl,S2⟩ H;replace S:=S.call S2;clear S2;refine ls 1 H<|sr 1 G<|sE ?_;clear H a;intro a H
  refine k22 _ _ ?_;replace H:=H.keep [1,2,3,6,7] rfl
  refine sS H fun K23 k23=>sr 1 G<|sd (nN aP rfl)<|sr 1 G<|sg 3 2 37 40 false G G (fun hg3=>by
      have hq3:=hg3;try simp only [oz] at hq3
      exact sy hg3<|sr 1 G<|sy hg3<|sr 1 G<|sy hg3<|sr 1 G<|sz 3 G G G)<|so G G G<|sE ?_;clear H a;intro a H
  refine k23 _ ?_;refine cond_ H rfl (fun hc4=>?_) (fun hc4=>?_)
  ·skip
   try simp only [oz] at hc4
   replace H:=H.keep [1,2,3,6,7] rfl;refine seq_list fun K24 k24=>?_
   refine ls 2 H<|sd ((aB lF oO rfl S (i:=2) G G))<|sr 1 G<|sE ?_;clear H a;intro a H
   refine aA H G G Tryz.func73 G G (Ac mm js JA jc AA ac nv NA nc cr un pl AP js.length hpl _ (hjs.now S) (hnv.now S) (fun k hk=>(haf k hk).now S) hjn hnn han (aEi S (i:=0) rfl) hpl V (fun k hk=>by have:=hpb k hk;omega)) ?_;clear H a
   rintro _ _ a ⟨rs,rn,rfl,hjr,S2⟩ H;replace S:=S.call S2;clear S2;refine ls 5 H<|sr 5 G<|sE ?_;clear H a;intro a H
   refine k24 _ _ ?_;replace H:=H.keep [1,2,3,6,7,8] rfl;refine sS H fun K25 k25=>sr 2 G<|sE ?_;clear H a;intro a H
   refine k25 _ ?_;refine condE H rfl (fun hc5=>?_) (fun hc5=>?_)
   ·skip
    refine one_list ?_
    refine ls 1 H<|sr 1 G<|sE ?_;clear H a;intro a H
    refine aA H G G Tryz.func56 G G (Lc pl AP js.length hpl _ (aEi S (i:=0) rfl) (by omega) (by omega)) ?_;clear H a
    rintro _ _ a ⟨A9,c9,rfl,hA9,S2⟩ H;replace S:=S.call S2;clear S2;refine ls 3 H<|sr 3 G<|sE ?_;clear H a;intro a H
    exact k21 (pl,_,_,_) a _ (.inr ⟨hA9,hpl,hjr hc5,rfl⟩) (S.sel [0,1,3] G G) (H.keep [2,3,1,6] rfl)
   refine wp_skip ?_;exact k21 (_,_,_,_) a _ (hbe) (S.sel [1,0,2] G G) (H.keep [2,3,1,6] rfl)
  try simp only [oz] at hc4
  refine wp_skip ?_;exact k21 (_,_,_,_) a _ (hbe) (S.sel [1,0,2] G G) (H.keep [2,3,1,6] rfl)
 clear SR H S a;intro xm a wm hp S H;obtain ⟨st,A8,c8,en⟩:=xm;have hbe:=hp;replace H:=H.keep [1,2,3,6] rfl;refine sS H fun K27 k27=>sr 1 G<|sL aP rfl<|sd (aR rfl rfl (by unfold i64ok;omega))<|sr 1 G<|sE ?_;clear H a;intro a H
 refine k27 _ ?_;refine wp_seq_k fun K28 k28=>?_
 refine wp_block ?_;replace S:=S.recell (i:=1) rfl (cell':=icl (odZ pl ((js.length:Int)-1))) (fun k j hk hj=>by rw [←hpl];exact Qd k j (by omega) hj);refine loop_st (X:=Int) (R0:=_) [1,2,3,6] H rfl (fun i=>[(10,.int .i64 i)]) (fun i=>[ownM 3 1 AP js.length js.length (icl (odZ pl i))]) (fun g i => -1≤i∧i≤(js.length:Int)-1∧(∀ k:Nat,i<(k:Int)→k<pl.length→pl.getD k 0=un-1)∧(g:Int)=i+1) (js.length) ((js.length:Int)-1) ?_ (S.sel [1,0,2] G G) (H.keep [10,1,2,3,6] rfl) ?_
 · exact ⟨by omega,by omega,fun k hk hk2=>by omega,by omega⟩
 clear H S a;intro g3 x3 a w3 hp S H K29 k29;obtain ⟨i,rfl⟩:∃ y,y=x3:=⟨_,rfl⟩;refine wp_seq_k fun K30 k30=>?_
 have hzi:∀ k:Nat,(k:Int)=i→k<pl.length→(odZ pl i).getD k 0=pl.getD k 0:=fun k hk hk2=>by rw [pE hk2,if_neg (by omega)]
 replace H:=H.keep [1,2,3,6,10] rfl;replace S:=S.drew
 refine sD H fun K31 k31=>sr 3 G<|sg 8 2 58 66 true G G (fun hg3=>by
     have hq3:=hg3;try simp only [oz] at hq3
     exact sy hg3<|sr 1 G<|sy hg3<|sr 1 G<|sy hg3<|sI aP aX G G (aEj S (i:=0) rfl (by omega)) (by omega) (by omega)<|sy hg3<|slm aD rfl (aEk S (i:=0) rfl (by omega) (by omega))<|sy hg3<|sf fI rfl<|sy hg3<|sl S 2 aD G G G<|sy hg3<|sd (aR G G (by unfold i64ok;omega))<|sy hg3<|sr 1 G<|sz 8 G G G)<|sa G G G<|sE ?_;clear H a;intro a H
 refine k31 _ ?_;refine cond_ H rfl (fun hc6=>?_) (fun hc6=>?_)
 ·skip
  try simp only [oz] at hc6
  refine wp_skip ?_;refine k30 _ _ ?_;refine wp_seq_k fun K32 k32=>?_
  refine wp_block ?_;have hpi:pl.getD i.toNat 0=un-1:=by rw [←hzi i.toNat (by omega) (by omega)];exact hc6.2
  replace H:=H.keep [1,2,3,6,10] rfl;refine one_list ?_;refine ls 3 H<|sr 2 G<|sI aP aX G G (aEj S (i:=0) rfl (by omega)) (by omega) (by omega)<|sE ?_;clear H a;intro a H
  refine bC H S (i:=0) (kk:=i.toNat) G G G (by omega) (by omega) aX rfl ?_
  clear H a S;intro _ a S H;replace S:=S.recell (i:=0) rfl (cell':=icl (odZ pl (i-1))) (fun k j hk hj=>by rw [←Vl (pl:=pl) hc6.1 k j (by omega) hj]);refine k32 _ _ ?_;refine sO H<|sr 1 G<|sd (aR G G (by unfold i64ok;omega))<|sr 1 G<|sE ?_;clear H a;intro a H
  exact k29 (g3-1) (i-1) a _ (by omega) (⟨by omega,by omega,fun k hk hk2=>by
    by_cases e:i<(k:Int)
    · exact hp.2.2.1 k e hk2
    · have e9:k=i.toNat:=by omega
      subst e9;exact hpi,by omega⟩) (S.sel [0,1,2] G G) (H.keep [10,1,2,3,6] rfl)
 try simp only [oz] at hc6
 refine wp_exit ?_;refine k28 _ _ ?_;refine wp_seq_k fun K35 k35=>?_
 refine sS H fun K36 k36=>sr 2 G<|sE ?_;intro a H
 refine k36 _ ?_;refine condL H rfl (fun hc7=>?_) (fun hc7=>?_)
 ·skip
  refine wp_exit ?_;refine k18 _ _ ?_;refine wp_seq_k fun K37 k37=>?_
  replace H:=H.keep [2,3] rfl;refine sS H fun K38 k38=>sr 1 G<|sd (nN aP rfl)<|sE ?_;intro a H
  refine k38 _ ?_;refine cond_ H rfl (fun hc8=>?_) (fun hc8=>?_)
  ·skip
   try simp only [oz] at hc8
   refine sS H fun K39 k39=>sr 3 G<|sE ?_;intro a H
   refine k39 _ ?_;refine wp_ret ?_;refine ret3 (fn:=Tryz.f29) rfl H G G G ?_;exact ⟨[],none,0,0,3,rfl,.inr (.inr rfl),(S.sel [] G G).newNil _ _ _⟩
  try simp only [oz] at hc8
  refine wp_skip ?_;refine k37 _ _ ?_;replace H:=H.keep [2,3] rfl;refine sS H fun K40 k40=>sr 5 G<|sE ?_;intro a H
  refine k40 _ ?_;refine wp_ret ?_;refine ret3 (fn:=Tryz.f29) rfl H rfl rfl rfl ?_;rcases hbe with ⟨h9,_⟩|⟨h9,hb2,hb3,hb4⟩
  · rw [h9] at hc8;cases hc8
  · exact ⟨st,A8,c8,en,0,rfl,.inl ⟨rfl,hb2,hb3,hb4⟩,(S.sel [1] G G)⟩
 refine wp_skip ?_;refine k35 _ _ ?_;have hz9:=hzi i.toNat (by omega) (by omega);have hb9:=hpb i.toNat (by omega);replace H:=H.keep [1,2,3,6,10] rfl;refine one_list ?_;refine ls 6 H<|sr 2 G<|sI aP aX G G (aEj S (i:=0) rfl (by omega)) (by omega) (by omega)<|slm aD rfl (aEk S (i:=0) rfl (by omega) (by omega))<|sd (aI G G (by unfold i64ok;omega))<|sI aP aX G G (aEj S (i:=0) rfl (by omega)) (by omega) (by omega)<|sE ?_;intro a H
 refine bC H S (i:=0) (kk:=i.toNat) G G G (by omega) (by omega) aX rfl ?_
 clear H a S;intro _ a S H;replace S:=S.recell (i:=0) rfl (cell':=icl (odN pl i)) (fun k j hk hj=>by rw [←Vm (pl:=pl) (by omega) (by omega) k j (by omega) hj]);obtain ⟨hn1,hn2⟩:=Qe (pl:=pl) (un:=un) (i:=i) hub.1 (fun k hk=>hpb k (by omega)) (by omega) (by omega) (fun h9=>by omega) hp.2.2.1;rw [hpl] at hn2;exact k19 (g2-1) (odN pl i,_,_,_,_) a _ (by omega) (⟨odN_len.trans hpl,fun k hk=>hn1 k (by rw [odN_len];omega),hbe,by omega⟩) (S.sel [0,1,2] rfl rfl) (H.keep [2,3,1,6] rfl)
end
section
theorem Ct (n:Nat) (hn:n≤1000000) (w:World):Calls Tryz.prog 197 #[.int .u64 (((1:Nat):Int)),.int .u64 ((n:Nat):Int)] w (Ret fun u w'=>u = .tuple #[.int .u64 0,.int .u64 (n:Int)]∧w'=w):=by
 refine Calls.mono (Tryz.bits_Mul 1 n (by omega) (by omega) w) fun e w' h=>?_
 obtain ⟨rfl,rfl⟩:=h;refine ⟨?_,rfl⟩;have h1:1*n/18446744073709551616=0:=by omega
 have h2:1*n%18446744073709551616=n:=by omega
 rw [h1,h2];rfl
theorem aEy {w0 w:World} {F0:Nat→Prop} {R:List Mem} {e sz n c i:Nat} {A:Option Addr} {cell:Nat→Nat→Value} (S:St w0 F0 R w) (hi:R[i]?=some (ownM e sz A n c cell)) (hn:0<n):∃ b,A=some ⟨b,0,none⟩:=by
 rcases S.holds hi with ⟨_,h,_⟩|⟨b,cs,h,_⟩
 ·omega
 ·exact ⟨b,h⟩
theorem Vs {v:Value} {j:Nat} (h:j<1):[v].getD j undef=v:=by
 have:j=0:=by omega
 subst this;rfl
theorem Vt (b c lo:Nat) (h:¬ c=lo):cutA (some ⟨b,0,none⟩) c lo 1=some ⟨b,lo,none⟩:=by simp [cutA,h,fN]
theorem sB {P:Program} {f:Nat} {vs:Array Value} {w:World} {R R':Value→World→Prop} (h:Calls P f vs w (Ret R)) (k:∀ v w',R v w'→R' v w'):Calls P f vs w (Ret R'):=Calls.mono h fun e w' he=>by
 cases e with
 | returned v=>exact k v w' he
 | _=>exact he
theorem Id {v:Value} {j k:Nat} (hk:k<1) (h:j<1):([[v]].getD k []).getD j undef=v:=by
 have h1:j=0:=by omega
 have h2:k=0:=by omega
 subst h1;subst h2;rfl
theorem w8one {p:Nat→Prop} (h0:p 0):∀ j,j<1→p j:=by
 intro j hj;have:j=0:=by omega
 subst this;exact h0
theorem qO {sz:Nat} {vs:List Value} (h:∀ j,j<sz→(vs.getD j undef).oneCell'=true):∀ k j,k<1→j<sz→(([vs].getD k []).getD j undef).oneCell'=true:=by
 intro k j hk hj;have e:k=0:=by omega
 subst e;exact h j hj
theorem tJ (A:Option Addr) (cp:Nat) (v:Int) (n:Nat) (w:World) (hl:InS w noF 1 A 1 (fun _ _ => .int .i64 v)) (h0:0<n) (hn:n≤1000000) :
    Calls Tryz.prog 188 [.slice A 1 cp,.int .i64 (n:Int)].toArray w (Ret (fun u w'=>∃ b,u = .slice (some ⟨b,0,none⟩) n n∧St w noF [ownM 3 1 (some ⟨b,0,none⟩) n n (fun _ _ => .int .i64 v)] w')):=by
 refine enter Tryz.func188 rfl Tryz.ntmps188 rfl (fun a H=>?_)
 have S:=St.start w
 refine sS H fun K1 k1=>sr 1 G<|sE ?_;intro a H
 refine k1 _ ?_;refine wp_seq_k fun K2 k2=>?_
 refine sS H fun K3 k3=>sr 2 G<|sE ?_;intro a H
 refine k3 _ ?_;refine condL H rfl (fun hc1=>?_) (fun hc1=>?_)
 ·skip
  exfalso;omega
 refine wp_skip ?_;refine k2 _ _ ?_;replace H:=H.keep [0,1] rfl;refine sS H fun K4 k4=>sr 1 G<|sL aP rfl<|sd (gY Tryz.underlying3 Tryz.underlying52 rfl (by exact u64_in (by omega)))<|sr 1 G<|sd (gY Tryz.underlying3 Tryz.underlying52 rfl (by exact u64_in (by omega)))<|sc rfl Tryz.func197 G G (Ct n hn _)<|sr 5 G<|sE ?_;intro a H
 refine k4 _ ?_;refine wp_seq_k fun K5 k5=>?_
 replace H:=H.keep [0,5,6] rfl;refine sS H fun K6 k6=>sr 1 G<|sd (bX G G)<|sr 1 G<|sg 2 2 23 25 false G G (fun hg3=>sy hg3<|sr 1 G<|sy hg3<|sd (bX G G)<|sz 2 G G G)<|so G G G<|sE ?_;intro a H
 refine k6 _ ?_;refine cond_ H rfl (fun hc2=>?_) (fun hc2=>?_)
 ·skip
  try simp only [oz] at hc2
  exfalso;omega
 try simp only [oz] at hc2
 refine wp_skip ?_;refine k5 _ _ ?_;replace H:=H.keep [0,6] rfl;refine seq_list fun K7 k7=>?_
 refine ls 2 H<|sr 1 G<|sd (gY Tryz.underlying52 Tryz.underlying3 rfl (by exact IntWalk.i64_in _ (by omega)))<|sE ?_;intro a H
 refine fP (n:=_) H rfl S aP aX fD mQ rfl (by decide) G G (by omega) (by omega) ?_;intro A1 _ a hA1 S H
 obtain ⟨b,rfl⟩:=aEy S (i:=0) rfl h0;replace S:=S.recell (i:=0) rfl (cell':=fun i _=>if i<0 then .int .i64 v else .int .i64 0) (fun k j _ hj=>by rw [if_neg (by omega)];exact Vs hj);refine ls 1 H<|sr 1 G<|sE ?_;intro a H
 refine k7 _ _ ?_;refine seq_list fun K8 k8=>?_
 refine ls 2 H<|sr 2 G<|sE ?_;intro a H
 refine xS H rfl S aP aX (i:=0) (lo:=0) G G G (fun h=>by cases h) rfl (hl.now S) (by omega) (fun _ _ _ _=>rfl) (by omega) ?_;intro _ a S H
 replace S:=S.recell (i:=0) rfl (cell':=fun i _=>if i<1 then .int .i64 v else .int .i64 0) (fun k j hk _=>by (try dsimp only);rw [Nat.min_eq_left (by omega)];(repeat' split) <;> first|rfl|(exfalso;omega));rw [Nat.min_eq_left (by omega)] at H;refine ls 1 H<|sr 1 G<|sE ?_;intro a H
 refine k8 _ _ ?_;refine wp_seq_k fun K9 k9=>?_
 refine wp_block ?_;refine loop_st (X:=Nat) (R0:=_) [7] H rfl (fun k=>[(8,.int .i64 (k:Int))]) (fun k=>[ownM 3 1 (some ⟨b,0,none⟩) n n (fun i _=>if i<k then .int .i64 v else .int .i64 0)]) (fun g k=>0<k∧k≤n∧g+k=n) (n-1) 1 ?_ (S.sel [0] G G) (H.keep [8,7] rfl) ?_
 · exact ⟨by omega,by omega,by omega⟩
 clear H S a;intro g1 x1 a w1 hp S H K10 k10;obtain ⟨k,rfl⟩:∃ y,y=x1:=⟨_,rfl⟩;refine wp_seq_k fun K11 k11=>?_
 refine sS H fun K12 k12=>sr 2 G<|sL aP rfl<|sr 1 G<|sE ?_;intro a H
 refine k12 _ ?_;refine condL H rfl (fun hc3=>?_) (fun hc3=>?_)
 ·skip
  refine wp_skip ?_;refine k11 _ _ ?_;refine wp_block ?_;replace H:=H.keep [7,8] rfl;replace S:=S.drew;refine one_wq [(0,true),(1,true),(2,true),(3,true),(4,true),(5,true),(6,true),(7,false),(8,true),(9,true)] (by kernel_rfl) (by kernel_rfl) (S.sel [] G G) ?_;refine qF H<|qr 3 G<|qd G (fun _ S=>iT aP aX rfl (lo:=k) (hi:=n) (.inr ⟨_,rfl,_,rfl⟩) (.inl ⟨rfl,rfl⟩) (by omega) (by omega))<|qr 2 G<|qd G (fun _ S=>iT aP aX rfl (lo:=0) (hi:=k) (.inl ⟨rfl,rfl⟩) (.inr ⟨_,rfl,_,rfl⟩) (by omega) (by omega))<|qK ?_;intro a H
  refine aT rfl ?_
  refine xS H rfl S aP aX (i:=0) (lo:=k) G G (Vt _ _ _ (by omega)) (fun h=>by cases h) rfl (((aEi S (i:=0) rfl).cut (lo:=0) (hi:=k) (by omega) (by omega) (by omega))) (by omega) (fun k' j _ _=>by (try dsimp only);split <;> rfl) (by omega) ?_;intro _ a S H
  replace S:=S.recell (i:=0) rfl (cell':=fun i _=>if i<k+min k (n-k) then .int .i64 v else .int .i64 0) (fun k' j hk _=>by (try dsimp only);(repeat' split) <;> first|rfl|(exfalso;omega));refine wpList_nil (And.intro (S.sel [] G G) ?_);refine qF H<|qd G (fun _ S=>aI G G (by unfold i64ok;omega))<|qr 1 G<|qK ?_;intro a H
  refine bL ?_
  exact k10 (g1-min k (n-k)) (k+min k (n-k)) a _ (by omega) (⟨by omega,by omega,by omega⟩) (S.sel [0] G G) (H.keep [8,7] rfl)
 refine wp_exit ?_;refine k9 _ _ ?_;replace H:=H.keep [7] rfl;refine sS H fun K14 k14=>sr 2 G<|sE ?_;intro a H
 refine k14 _ ?_;refine wp_ret ?_;refine ret1 (fn:=Tryz.f188) rfl H rfl ?_;replace S:=S.recell (i:=0) rfl (cell':=fun _ _ => .int .i64 v) (fun k' j hk _=>by rw [if_pos (by omega)]);exact ⟨_,rfl,(S.sel [0] G G)⟩
end
section
theorem Qm {b:Nat}:∀ k j,j<1→cput (fun _ _ => .int .i64 (-1)) b 0 (.int .i64 0) k j=lcl (fun v=>if v=b then 0 else -1) k j:=by
 intro k j hj;have:j=0:=by omega
 subst this;unfold cput lcl;by_cases e:k=b <;> simp [e]
theorem Vu {L:Nat→Int} {p:Nat} {v:Int}:∀ k j,j<1→cput (lcl L) p 0 (.int .i64 v) k j=lcl (upd L p v) k j:=by
 intro k j hj;have:j=0:=by omega
 subst this;unfold cput lcl upd;by_cases e:k=p <;> simp [e]
theorem aDr {q:Nat→Nat} {n ql h v:Nat} (hn:h+n=ql):∀ k,k<n+1→(if k=n then ((v:Nat):Int) else ((q (h+k):Nat):Int))=((upd q ql v (h+k):Nat):Int):=by
 intro k hk;unfold upd;by_cases e:k=n
 ·rw [if_pos e,if_pos (by omega)]
 ·rw [if_neg e,if_neg (by omega)]
theorem Qo (N:Net) (r:RM) (mv:Nat→Nat→Mv) (nb:Nat) (pl tk:Int) (st1 st2:Value) (EA:Option Addr) (A:Nat→Option Addr) (c:Nat→Nat) (b x:Nat) (p t:Int) (w:World) (F:Nat→Prop) (S:St w F [boxM nb 291 [.int .i64 pl,st1,st2,.int .i64 tk,.slice EA N.k N.k,.int .i64 (b:Int),.int .i64 (x:Int)]] w) (hp : -100000≤p∧p≤100000) (ht:i64ok (pl*t)) (ht2:i64ok (pl*t+p)) :
    Calls Tryz.prog 171 [.pointer (some ⟨nb,0,none⟩),.int .i64 p,.int .i64 t].toArray w (Ret (fun u w'=>u = .int .i64 (pl*t+p)∧St w F [boxM nb 291 [.int .i64 pl,st1,st2,.int .i64 tk,.slice EA N.k N.k,.int .i64 (b:Int),.int .i64 (x:Int)]] w')):=by
 refine enter Tryz.func171 rfl Tryz.ntmps171 rfl (fun a H=>?_)
 skip
 refine sS H fun K1 k1=>sr 1 G<|sE ?_;intro a H
 refine k1 _ ?_;replace H:=H.keep [0,1,2] rfl;refine sS H fun K2 k2=>sr 2 G<|sf Om rfl<|sf dY rfl<|sl S 0 aD G G G<|sr 1 G<|sd (fY G G (ht))<|sr 1 G<|sd (aI G G (ht2))<|sr 1 G<|sE ?_;intro a H
 refine k2 _ ?_;refine wp_ret ?_;refine ret1 (fn:=Tryz.f171) rfl H rfl ?_;exact ⟨rfl,(S.sel [0] G G)⟩
theorem Gf (N:Net) (r:RM) (mv:Nat→Nat→Mv) (nb:Nat) (pl tk:Int) (st1 st2:Value) (EA:Option Addr) (A:Nat→Option Addr) (c:Nat→Nat) (b x:Nat) (w:World) (F:Nat→Prop) (S:St w F [boxM nb 291 [.int .i64 pl,st1,st2,.int .i64 tk,.slice EA N.k N.k,.int .i64 (b:Int),.int .i64 (x:Int)],ownM 312 1 EA N.k N.k (hdc A N.n c),ragM 314 7 (fun q=>q<N.k) A N.n c (edgeC N r mv)] w) (W:N.Wf) (hO:Ok N r 2199023255552) (hb:b<N.k) (hx:x<N.k) (hbx:b≠x) (hk:N.k≤1000000) :
    Calls Tryz.prog 173 [.pointer (some ⟨nb,0,none⟩)].toArray w (Ret (fun u w'=>∃ LA L,u = .slice LA N.k N.k∧LevOk N r b L∧St w F [ownM 3 1 LA N.k N.k (lcl L),boxM nb 291 [.int .i64 pl,st1,st2,.int .i64 tk,.slice EA N.k N.k,.int .i64 (b:Int),.int .i64 (x:Int)],ownM 312 1 EA N.k N.k (hdc A N.n c),ragM 314 7 (fun q=>q<N.k) A N.n c (edgeC N r mv)] w')):=by
 refine enter Tryz.func173 rfl Tryz.ntmps173 rfl (fun a H=>?_)
 skip
 refine sS H fun K1 k1=>sr 1 G<|sE ?_;intro a H
 refine k1 _ ?_;refine seq_list fun K2 k2=>?_
 refine aY H rfl S aP aX fD G G G G G G G G G ?_;intro A1 _ a hA1 S H
 refine ls 5 H<|sr 2 G<|sf fC rfl<|sl S 1 gD G G G<|sL hZ rfl<|sE ?_;intro a H
 refine aA H G G Tryz.func188 G G (tJ _ _ (-1) N.k _ ((aEi S (i:=0) rfl).congr (fun k j hk hj=>Id hk hj)) (by omega) (by omega)) ?_;clear H a
 rintro _ _ a ⟨lb,rfl,S2⟩ H;replace S:=S.call S2;clear S2;refine ls 1 H<|sr 1 G<|sE ?_;intro a H
 refine k2 _ _ ?_;replace H:=H.keep [0,3] rfl;refine seq_list fun K3 k3=>?_
 refine ls 6 H<|sr 3 G<|sf qI rfl<|sl S 2 aD G G G<|si aP aX G G (aEj S (i:=0) rfl (by omega)) (by omega)<|sE ?_;intro a H
 refine bC H S (i:=0) G G G (by omega) (by omega) aX rfl ?_
 clear H a S;intro _ a S H;replace S:=S.recell (i:=0) rfl (cell':=lcl (fun v=>if v=b then 0 else -1)) (fun k j hk hj=>Qm k j hj);refine k3 _ _ ?_;replace H:=H.keep [0,3] rfl;refine seq_list fun K4 k4=>?_
 refine ls 4 H<|sr 2 G<|sf qI rfl<|sl S 2 aD G G G<|sE ?_;intro a H
 refine aY H rfl S aP aX fD G G G G G G G G G ?_;intro A2 _ a hA2 S H
 replace S:=queM.of_own S (i:=0) rfl (f:=fun i=>(((fun _=>b:Nat→Nat) (0+i):Nat):Int)) (by omega) (fun k hk=>Id hk (by omega));refine ls 1 H<|sr 1 G<|sE ?_;intro a H
 refine k4 _ _ ?_;refine wp_seq_k fun K5 k5=>?_
 refine wp_block ?_;refine loop_st (X:=(Nat→Int)×(Nat→Nat)×Nat×Nat×Option Addr×Nat) (R0:=_) [0,3] H rfl (fun ⟨L,qf,ql,h,QA,qc⟩=>[(4,.slice QA (ql-h) qc)]) (fun ⟨L,qf,ql,h,QA,qc⟩=>[ownM 3 1 (some ⟨lb,0,none⟩) N.k N.k (lcl L),queM 3 QA (ql-h) qc (fun i=>((qf (h+i):Nat):Int))]) (fun g ⟨L,qf,ql,h,QA,qc⟩=>Bfs N r b L qf ql h 0∧h≤ql∧g+h=N.k) (N.k) (fun v=>if v=b then 0 else -1,fun _=>b,1,0,_,_) ?_ (S.sel [1,0,2,3,4,5] G G) (H.keep [4,0,3] rfl) ?_
 · exact ⟨Bfs.start hb (fun _ _=>rfl) rfl,by omega,by omega⟩
 clear H S a;intro g1 x1 a w1 hp S H K6 k6;obtain ⟨L,qf,ql,h,QA,qc⟩:=x1;dsimp only at hp S H;obtain ⟨hB,hhq,hgh⟩:=hp;have hql:=hB.le;refine wp_seq_k fun K7 k7=>?_
 refine sS H fun K8 k8=>sr 1 G<|sL aP rfl<|sr 1 G<|sE ?_;intro a H
 refine k8 _ ?_;refine condL H rfl (fun hc1=>?_) (fun hc1=>?_)
 ·skip
  refine wp_skip ?_;refine k7 _ _ ?_;refine wp_block ?_;have hqk:qf h<N.k:=(hB.mem h (by omega)).1;refine sS H fun K9 k9=>sr 1 G<|sI aP aX G G (queM.adr S (i:=1) rfl) (by omega) (by omega)<|sd ((aF aD rfl (queM.rd S (i:=1) (k:=0) rfl (by omega)):Does _ _ _ _ (.int .i64 (qf h:Int))))<|sr 1 G<|sE ?_;intro a H
  refine k9 _ ?_;have hqle:=queM.le S (i:=1) rfl;replace H:=H.keep [0,3,4,5] rfl;refine sS H fun K10 k10=>sr 1 G<|sd (iT aP aX rfl (lo:=1) (hi:=ql-h) (.inr ⟨_,rfl,_,rfl⟩) (.inl ⟨rfl,rfl⟩) (by omega) (by omega))<|sr 1 G<|sE ?_;intro a H
  refine k10 _ ?_;replace S:=queM.cut1 S (i:=1) rfl (by omega);replace H:=H.keep [0,3,4,5] rfl;refine sS H fun K11 k11=>sr 2 G<|sf fC rfl<|sl S 3 gD G G G<|sr 1 G<|si hZ hX G G (aEj S (i:=4) rfl (by omega)) (by omega)<|slm kZ rfl (aEk S (i:=4) rfl (by omega) (by omega))<|sL jY rfl<|sr 1 G<|sE ?_;intro a H
  refine k11 _ ?_;refine wp_block ?_;replace S:=queM.congr S (i:=1) rfl (f':=fun i=>((qf (h+1+i):Nat):Int)) (fun k hk=>by (try dsimp only);rw [show h+1+k=h+(k+1) by omega]);rw [show ql-h-1=ql-(h+1) by omega] at H S;refine loop_st (X:=(Nat→Int)×(Nat→Nat)×Nat×Nat×Option Addr×Nat) (R0:=_) [0,3,5,40,41] H rfl (fun ⟨L2,qf2,ql2,J,QA2,qc2⟩=>[(4,.slice QA2 (ql2-(h+1)) qc2),(42,.int .i64 (J:Int))]) (fun ⟨L2,qf2,ql2,J,QA2,qc2⟩=>[ownM 3 1 (some ⟨lb,0,none⟩) N.k N.k (lcl L2),queM 3 QA2 (ql2-(h+1)) qc2 (fun i=>((qf2 (h+1+i):Nat):Int))]) (fun g ⟨L2,qf2,ql2,J,QA2,qc2⟩=>Bfs N r b L2 qf2 ql2 h J∧h<ql2∧J≤N.n (qf h)∧g+J=N.n (qf h)∧qf2 h=qf h) (N.n (qf h)) (L,qf,ql,0,_,_) ?_ (S.sel [0,1,2,3,4,5] G G) (H.keep [4,42,0,3,5,40,41] rfl) ?_
  · exact ⟨hB,by omega,by omega,by omega,rfl⟩
  clear H S a;intro g2 x2 a w2 hp S H K12 k12;obtain ⟨L2,qf2,ql2,J,QA2,qc2⟩:=x2;dsimp only at hp S H;obtain ⟨hB2,hhq2,hJn,hgJ,hqe⟩:=hp;have hql2:=hB2.le;have hr2:=hB2.low;refine sS H fun K13 k13=>sr 1 G<|sE ?_;intro a H
  refine k13 _ ?_;refine wp_seq_k fun K14 k14=>?_
  refine condL H rfl (fun hc2=>?_) (fun hc2=>?_)
  ·skip
   refine wp_skip ?_;refine k14 _ _ ?_;refine wp_seq_k fun K15 k15=>?_
   refine wp_block ?_;have htk:=W.to_lt (qf h) hqk J (by omega);have hnl:=aEv S (i:=5) rfl hqk;have hmx:maxLen=9223372036854775807:=rfl;refine seq_list fun K16 k16=>?_
   refine ls 2 H<|si jY lG G G (aEp S (i:=5) rfl hqk (by omega)) (by omega)<|sd ((pQ Up lG rfl (aEm S (i:=5) rfl hqk) (i:=0) rfl (by omega) (by omega)))<|sE ?_;intro a H
   refine aJ H rfl S rT ?_;intro b7 _ a hb7 hbw7 S H
   refine aE H S (i:=0) G G G G lG G G ?_
   clear H a S;intro _ a S H;refine k16 _ _ ?_;replace H:=H.keep [0,3,4,5,7,40,41,42] rfl;refine sS H fun K17 k17=>sf kP rfl<|sl S 0 aD G G G<|sr 2 G<|sg 6 3 49 55 true G G (fun hg4=>sy hg4<|sr 1 G<|sy hg4<|sf lS rfl<|sy hg4<|sl S 0 aD G G G<|sy hg4<|si aP aX G G (aEj S (i:=1) rfl (by omega)) (by omega)<|sy hg4<|slm aD rfl (aEk S (i:=1) rfl (by omega) (by omega))<|sy hg4<|sr 1 G<|sz 6 G G G)<|sa G G G<|sE ?_;intro a H
   refine k17 _ ?_;refine cond_ H rfl (fun hc3=>?_) (fun hc3=>?_)
   ·skip
    try simp only [oz] at hc3
    have hLu:=(hB2.mem h (by omega)).2
    rw [hqe] at hLu;replace H:=H.keep [0,3,4,5,7,40,41,42] rfl;refine mS 9 (by kernel_rfl) (by kernel_rfl) fun K18 k18=>?_
    replace S:=S.drew;refine sF H<|sr 1 G<|sf lS rfl<|sl S 0 aD G G G<|sr 2 G<|si aP aX G G (aEj S (i:=1) rfl (by omega)) (by omega)<|slm aD rfl (aEk S (i:=1) rfl (by omega) (by omega))<|sd (aI G G (by unfold i64ok;omega))<|si aP aX G G (aEj S (i:=1) rfl (by omega)) (by omega)<|sE ?_;intro a H
    refine bC H S (i:=1) G G G htk (by omega) aX rfl ?_
    clear H a S;intro _ a S H;replace S:=S.recell (i:=1) rfl (cell':=lcl (upd L2 (N.to (qf h) J) (L2 (qf h)+1))) (fun k j hk hj=>Vu k j hj);refine k18 _ _ ?_;replace H:=H.keep [0,3,4,5,7,40,41,42] rfl;refine one_list ?_;refine ls 3 H<|sr 1 G<|sf lS rfl<|sl S 0 aD G G G<|sE ?_;intro a H
    refine aY H rfl S aP aX fD G G G G G G G G G ?_;intro A3 _ a hA3 S H
    refine Kg H rfl S aP aX fD mQ rfl (i:=3) G G G (aEi S (i:=0) rfl) (v:=((N.to (qf h) J:Nat):Int)) rfl (by omega) (by omega) ?_;intro QA3 qc3 _ a S H
    replace S:=queM.congr S (i:=3) rfl (f':=fun i=>((upd qf2 ql2 (N.to (qf h) J) (h+1+i):Nat):Int)) (fun k hk=>aDr (by omega) k hk);rw [show ql2-(h+1)+1=ql2+1-(h+1) by omega] at H S;refine ls 1 H<|sr 1 G<|sE ?_;intro a H
    refine k15 _ _ ?_;refine sO H<|sd (aI G G (by unfold i64ok;omega))<|sr 1 G<|sE ?_;intro a H
    exact k12 (g2-1) (_,_,_,J+1,_,_) a _ (by omega) (by first|exact ⟨(by have:=hB2.visit W hhq2 (by rw [hqe];omega) (by rw [hqe];exact hc3.1) (by rw [hqe];exact hc3.2);rw [hqe] at this;exact this),by omega,by omega,by omega,by rw [cC _ _ (by omega)];exact hqe⟩|exact ⟨hB2.skip (by rw [hqe];intro h9;omega),hhq2,by omega,by omega,hqe⟩) (S.sel [2,3,4,5,6,7] G G) (H.keep [4,42,0,3,5,40,41] rfl)
   try simp only [oz] at hc3
   refine wp_skip ?_;refine k15 _ _ ?_;replace H:=H.keep [0,3,4,5,40,41,42] rfl;refine sO H<|sd (aI G G (by unfold i64ok;omega))<|sr 1 G<|sE ?_;intro a H
   exact k12 (g2-1) (_,_,_,J+1,_,_) a _ (by omega) (by first|exact ⟨(by have:=hB2.visit W hhq2 (by rw [hqe];omega) (by rw [hqe];exact hc3.1) (by rw [hqe];exact hc3.2);rw [hqe] at this;exact this),by omega,by omega,by omega,by rw [cC _ _ (by omega)];exact hqe⟩|exact ⟨hB2.skip (by rw [hqe];intro h9;omega),hhq2,by omega,by omega,hqe⟩) (S.sel [1,2,3,4,5,6] G G) (H.keep [4,42,0,3,5,40,41] rfl)
  refine wp_exit ?_;exact k6 (g1-1) (L2,qf2,ql2,h+1,QA2,qc2) a _ (by omega) (⟨hB2.next (by rw [hqe];omega),by omega,by omega⟩) (S.sel [0,1,2,3,4,5] G G) (H.keep [4,0,3] rfl)
 refine wp_exit ?_;refine k5 _ _ ?_;refine sS H fun K22 k22=>sr 2 G<|sE ?_;intro a H
 refine k22 _ ?_;refine wp_ret ?_;refine ret1 (fn:=Tryz.f173) rfl H rfl ?_;exact ⟨_,L,rfl,hB.done (by omega),(S.sel [0,3,4,5] G G)⟩
end
section
theorem vP {N:Net} {r:RM} {mv:Nat→Nat→Mv} {p q:Nat} {v:Int}:∀ i k j,k<N.n i→j<7→upd (edgeC N r mv) p (cput (edgeC N r mv p) q (0+1) (.int .i64 v)) i k j=edgeC N (put2 r p q v) mv i k j:=by
 intro i k j _ _;rw [show (0+1:Nat)=1 from rfl,Ko]
theorem Ld {n:Nat→Nat} {p v:Nat} {x:Int} (h:x=(v:Int)):∀ k j,j<1→cput (ncl n) p 0 (.int .i64 x) k j=ncl (upd n p v) k j:=by
 intro k j hj;have:j=0:=by omega
 subst this;rw [Uw h];exact if_pos rfl
theorem PushI.same {N:Net} {L:Nat→Int} {x u:Nat} {r r1:RM} {nx nx1:Nat→Nat} {j:Nat} (I:PushI N L x u r nx 0 r1 nx1) (hu:u<N.k) (hj:j<N.n u) (h:¬ (0<r1 u j∧L (N.to u j)=L u+1)) (hr:0<r u j) (hl:L (N.to u j)=L u+1):False:=by
 have:=(I.zero rfl).1 u hu j hj
 exact h ⟨by omega,hl⟩
def PushC (N:Net) (mv:Nat→Nat→Mv) (nb:Nat) (pl tk:Int) (st1 st2:Value) (EA:Option Addr) (A:Nat→Option Addr) (c:Nat→Nat) (b x:Nat) (L:Nat→Int) (LA:Option Addr) (lc:Nat) (NA:Option Addr) (d:Int):Prop:=
 ∀ (u:Nat) (most:Int) (r:RM) (nx:Nat→Nat) (w:World) (F:Nat→Prop) (S:St w F [boxM nb 291 [.int .i64 pl,st1,st2,.int .i64 tk,.slice EA N.k N.k,.int .i64 (b:Int),.int .i64 (x:Int)],ownM 312 1 EA N.k N.k (hdc A N.n c),ragM 314 7 (fun q=>q<N.k) A N.n c (edgeC N r mv),ownM 3 1 NA N.k N.k (ncl nx)] w) (hl:InS w F 1 LA N.k (lcl L)) (hO:Ok N r 2199023255552) (hn:∀ i,i<N.k→nx i≤N.n i) (hu:u<N.k) (hm:0≤most∧most≤2199023255552) (_:d≤L u),Calls Tryz.prog 174 [.pointer (some ⟨nb,0,none⟩),.int .i64 (u:Int),.int .i64 most,.slice LA N.k lc,.slice NA N.k N.k].toArray w (Ret (fun v w'=>∃ m r' nx',v = .int .i64 m∧PushR N L x u r nx most m r' nx'∧St w F [boxM nb 291 [.int .i64 pl,st1,st2,.int .i64 tk,.slice EA N.k N.k,.int .i64 (b:Int),.int .i64 (x:Int)],ownM 312 1 EA N.k N.k (hdc A N.n c),ragM 314 7 (fun q=>q<N.k) A N.n c (edgeC N r' mv),ownM 3 1 NA N.k N.k (ncl nx')] w'))
theorem Le (N:Net) (r:RM) (mv:Nat→Nat→Mv) (nb:Nat) (pl tk:Int) (st1 st2:Value) (EA:Option Addr) (A:Nat→Option Addr) (c:Nat→Nat) (b x:Nat) (L:Nat→Int) (LA:Option Addr) (lc:Nat) (NA:Option Addr) (d:Int) (u:Nat) (most:Int) (nx:Nat→Nat) (W:N.Wf) (hb:b<N.k) (hx:x<N.k) (hk:N.k≤1000000) (hL:∀ v,v<N.k → -1≤L v∧L v<N.k) (w:World) (F:Nat→Prop) (S:St w F [boxM nb 291 [.int .i64 pl,st1,st2,.int .i64 tk,.slice EA N.k N.k,.int .i64 (b:Int),.int .i64 (x:Int)],ownM 312 1 EA N.k N.k (hdc A N.n c),ragM 314 7 (fun q=>q<N.k) A N.n c (edgeC N r mv),ownM 3 1 NA N.k N.k (ncl nx)] w) (hl:InS w F 1 LA N.k (lcl L)) (hO:Ok N r 2199023255552) (hn:∀ i,i<N.k→nx i≤N.n i) (hu:u<N.k) (hm:0≤most∧most≤2199023255552) (hd:d≤L u+1) (ih:PushC N mv nb pl tk st1 st2 EA A c b x L LA lc NA d) :
    Calls Tryz.prog 174 [.pointer (some ⟨nb,0,none⟩),.int .i64 (u:Int),.int .i64 most,.slice LA N.k lc,.slice NA N.k N.k].toArray w (Ret (fun v w'=>∃ m r' nx',v = .int .i64 m∧PushR N L x u r nx most m r' nx'∧St w F [boxM nb 291 [.int .i64 pl,st1,st2,.int .i64 tk,.slice EA N.k N.k,.int .i64 (b:Int),.int .i64 (x:Int)],ownM 312 1 EA N.k N.k (hdc A N.n c),ragM 314 7 (fun q=>q<N.k) A N.n c (edgeC N r' mv),ownM 3 1 NA N.k N.k (ncl nx')] w')):=by
 refine enter Tryz.func174 rfl Tryz.ntmps174 rfl (fun a H=>?_)
 skip
 refine sS H fun K1 k1=>sr 1 G<|sE ?_;clear H a;intro a H
 refine k1 _ ?_;refine wp_seq_k fun K2 k2=>?_
 refine sS H fun K3 k3=>sr 3 G<|sf vG rfl<|sl S 0 aD G G G<|sr 1 G<|sE ?_;clear H a;intro a H
 refine k3 _ ?_;refine condE H rfl (fun hc1=>?_) (fun hc1=>?_)
 ·skip
  refine sS H fun K4 k4=>sr 2 G<|sE ?_;clear H a;intro a H
  refine k4 _ ?_;refine wp_ret ?_;refine ret1 (fn:=Tryz.f174) rfl H rfl ?_;have hux:u=x:=by omega
  subst hux;exact ⟨_,r,nx,rfl,PushR.here hO hn hm.1,(S.sel [0,1,2,3] G G)⟩
 refine wp_skip ?_;refine k2 _ _ ?_;replace H:=H.keep [0,1,2,3,4] rfl;refine sS H fun K5 k5=>sr 1 G<|sE ?_;clear H a;intro a H
 refine k5 _ ?_;refine wp_seq_k fun K6 k6=>?_
 refine wp_block ?_;refine loop_st (X:=Int×RM×(Nat→Nat)) (R0:=_) [0,1,2,3,4] H rfl (fun ⟨sent,r1,nx1⟩=>[(11,.int .i64 sent)]) (fun ⟨sent,r1,nx1⟩=>[ragM 314 7 (fun q=>q<N.k) A N.n c (edgeC N r1 mv),ownM 3 1 NA N.k N.k (ncl nx1)]) (fun g ⟨sent,r1,nx1⟩=>PushI N L x u r nx sent r1 nx1∧0≤sent∧sent≤most∧g+nx1 u=N.n u) (N.n u-nx u) (0,r,nx) ?_ (S.sel [2,3,0,1] G G) (H.keep [11,0,1,2,3,4] rfl) ?_
 · exact ⟨PushI.start hO hn,by omega,by omega,by have:=hn u hu;omega⟩
 clear H S a;intro g1 x1 a w1 hp S H K7 k7;obtain ⟨sent,r1,nx1⟩:=x1;dsimp only at hp S H;obtain ⟨hI,h0s,hsm,hgj⟩:=hp;have hO1:=hI.fl.ok hO;have hxn:=(hI.nxl u hu).2;refine wp_seq_k fun K8 k8=>?_
 replace H:=H.keep [0,1,2,3,4,11] rfl;replace S:=S.drew;refine sD H fun K9 k9=>sr 2 G<|si aP aX G G (aEj S (i:=1) rfl (by omega)) (by omega)<|slm aD rfl (aEk S (i:=1) rfl (by omega) (by omega))<|sr 2 G<|sf fC rfl<|sl S 2 gD G G G<|sr 1 G<|si hZ hX G G (aEj S (i:=3) rfl (by omega)) (by omega)<|slm kZ rfl (aEk S (i:=3) rfl (by omega) (by omega))<|sL jY rfl<|sr 1 G<|sE ?_;clear H a;intro a H
 refine k9 _ ?_;refine condL H rfl (fun hc2=>?_) (fun hc2=>?_)
 ·skip
  refine wp_skip ?_;refine k8 _ _ ?_;refine wp_seq_k fun K10 k10=>?_
  refine wp_block ?_;obtain ⟨j,hjd⟩:∃ j,j=nx1 u:=⟨_,rfl⟩;have hjn:j<N.n u:=by omega
  have htk:=W.to_lt u hu j hjn
  have hbk:=W.bk_lt u hu j hjn
  have hru0:=hO1.nn u hu j hjn;have hrl0:=hO1.le W hu hjn
  have hLu:=hL u hu;have hLt:=hL _ htk
  have hnl:=aEv S (i:=0) rfl hu
  have hmx:maxLen=9223372036854775807:=rfl
  replace H:=H.keep [0,1,2,3,4,11] rfl;replace S:=S.drew;refine sD H fun K11 k11=>sr 2 G<|sf fC rfl<|sl S 2 gD G G G<|sr 1 G<|si hZ hX G G (aEj S (i:=3) rfl (by omega)) (by omega)<|slm kZ rfl (aEk S (i:=3) rfl (by omega) (by omega))<|sr 2 G<|si aP aX G G (aEj S (i:=1) rfl (by omega)) (by omega)<|sd ((aF aD rfl (aEk S (i:=1) rfl (by omega) (by omega))).to (v' := .int .i64 (j:Int)) (by rw [hjd];rfl))<|si jY lG G G (aEp S (i:=0) (p:=u) rfl hu (by omega)) (by omega)<|sr 1 G<|sE ?_;clear H a;intro a H
  refine k11 _ ?_;have SR:=(S.sel [2,3] G G);refine meet_sr (X:=Int×RM×(Nat→Nat)) [0,1,2,3,4] H rfl (fun ⟨sent2,r2,nx2⟩=>[(11,.int .i64 sent2)]) (fun ⟨sent2,r2,nx2⟩=>[ragM 314 7 (fun q=>q<N.k) A N.n c (edgeC N r2 mv),ownM 3 1 NA N.k N.k (ncl nx2)]) (fun ⟨sent2,r2,nx2⟩=>PushI N L x u r nx sent2 r2 nx2∧0≤sent2∧sent2≤most∧nx2 u=j∧(sent2≠most→sent2=0→Dead N r L x nx→0<r u j→L (N.to u j)=L u+1→¬ Path N r L x (N.to u j))) SR (fun K13 k13=>?_) ?_
  ·skip
   replace H:=H.keep [0,1,2,3,4,11,12] rfl;replace S:=S.drew;refine sD H fun K14 k14=>sr 2 G<|sp kP rfl<|slm aD rfl (aEn S (i:=0) (p:=u) rfl hu (by omega) (by omega))<|sr 2 G<|sg 13 5 57 70 true G G (fun hg6=>sy hg6<|sr 1 G<|sy hg6<|sr 1 G<|sy hg6<|sr 1 G<|sy hg6<|sp lS rfl<|sy hg6<|slm aD rfl (aEn S (i:=0) (p:=u) rfl hu (by omega) (by omega))<|sy hg6<|si aP aX G G (hl.adr (by omega)) (by omega)<|sy hg6<|slm aD rfl (hl.rd S (by omega) (by omega))<|sy hg6<|sr 1 G<|sy hg6<|sr 1 G<|sy hg6<|si aP aX G G (hl.adr (by omega)) (by omega)<|sy hg6<|slm aD rfl (hl.rd S (by omega) (by omega))<|sy hg6<|sd (aI G G (by unfold i64ok;omega))<|sy hg6<|sr 1 G<|sz 13 G G G)<|sa G G G<|sE ?_;clear H a;intro a H
   refine k14 _ ?_;refine cond_ H rfl (fun hc3=>?_) (fun hc3=>?_)
   ·skip
    try simp only [oz] at hc3
    replace H:=H.keep [0,1,2,3,4,11,12] rfl;refine mS 15 (by kernel_rfl) (by kernel_rfl) fun K15 k15=>?_
    replace S:=S.drew;refine sF H<|sr 3 G<|sp lS rfl<|slm aD rfl (aEn S (i:=0) (p:=u) rfl hu (by omega) (by omega))<|sr 2 G<|sd (aR G G (by unfold i64ok;omega))<|sr 2 G<|sp kP rfl<|slm aD rfl (aEn S (i:=0) (p:=u) rfl hu (by omega) (by omega))<|sd (uF G G)<|sr 2 G<|sE ?_;clear H a;intro a H
    have S1:=(S.sel [2,3,0,1] G G)
    refine aA H G G Tryz.func174 G G (ih (N.to u j) (min (most-sent) (r1 u j)) r1 nx1 _ _ S1.startR (hl.nowR S1) hO1 (fun i hi=>(hI.nxl i hi).2) htk (by omega) (by omega)) ?_;clear H a
    rintro _ _ a ⟨m2,r2,nx2,rfl,hK,S2⟩ H;replace S:=(S.sel [2,3,0,1] rfl rfl).callR (M:=[_,_,_,_]) S2;clear S1 S2;have hru:r2 u j=r1 u j:=hK.low u hu j hjn (by omega);have hO2:=hK.fl.ok hO1;have hkm:=hK.ml;have hk0:=hK.m0;have hr2n:=hO2.nn _ htk _ hbk;have hr2l:=hO2.le W htk hbk;have hpn:put2 r2 u j (r2 u j-m2) (N.to u j) (N.back u j)=r2 (N.to u j) (N.back u j):=kC (fun h=>W.to_ne u hu j hjn h.1);have hce:put2 (put2 r2 u j (r2 u j-m2)) (N.to u j) (N.back u j) (put2 r2 u j (r2 u j-m2) (N.to u j) (N.back u j)+m2)=along N r2 u j m2:=by rw [hpn];rfl
    have hE:=hI.edge W hu hjn hc3.2 h0s hK
    refine ls 1 H<|sr 1 G<|sE ?_;clear H a;intro a H
    refine k15 _ _ ?_;replace H:=H.keep [0,1,2,3,4,11,12,13] rfl;refine seq_list fun K16 k16=>?_
    refine ls 8 H<|sr 2 G<|sp kP rfl<|slm aD rfl (aEn S (i:=2) (p:=u) rfl hu (by omega) (by omega))<|sr 1 G<|sd (aR G G (by unfold i64ok;omega))<|sr 1 G<|sp kP rfl<|sE ?_;clear H a;intro a H
    refine mY H S (i:=2) (p:=u) G G G hu hjn (by omega) aX rfl ?_;intro _ a S H
    replace S:=aEo S (i:=2) rfl (cell':=edgeC N (put2 r2 u j (r2 u j-m2)) mv) (fun _ _=>rfl) (fun _ _=>rfl) (fun _ _=>rfl) (fun i _=>vP i);refine k16 _ _ ?_;replace H:=H.keep [0,1,2,3,4,11,12,13] rfl;refine mS 21 (by kernel_rfl) (by kernel_rfl) fun K17 k17=>?_
    replace S:=S.drew;refine sF H<|sr 2 G<|sf fC rfl<|sl S 0 gD G G G<|sr 2 G<|sp lS rfl<|slm aD rfl (aEn S (i:=2) (p:=u) rfl hu (by omega) (by omega))<|si hZ hX G G (aEj S (i:=1) rfl (by omega)) (by omega)<|slm kZ rfl (aEk S (i:=1) rfl (by omega) (by omega))<|sr 2 G<|sp Ot rfl<|slm aD rfl (aEn S (i:=2) (p:=u) rfl hu (by omega) (by omega))<|si jY lG G G (aEp S (i:=2) (p:=N.to u j) rfl htk (by omega)) (by omega)<|sp kP rfl<|slm aD rfl (aEn S (i:=2) (p:=N.to u j) rfl htk hbk (by omega))<|sr 1 G<|sd (aI G G (by rw [hpn];unfold i64ok;omega))<|si jY lG G G (aEp S (i:=2) (p:=N.to u j) rfl htk (by omega)) (by omega)<|sp kP rfl<|sE ?_;clear H a;intro a H
    refine mY H S (i:=2) (p:=N.to u j) G G G htk hbk (by omega) aX rfl ?_;intro _ a S H
    replace S:=aEo S (i:=2) rfl (cell':=edgeC N (along N r2 u j m2) mv) (fun _ _=>rfl) (fun _ _=>rfl) (fun _ _=>rfl) (fun i _ k j hk hj=>by rw [vP i k j hk hj];exact congrArg (fun r=>edgeC N r mv i k j) hce);refine k17 _ _ ?_;replace H:=H.keep [0,1,2,3,4,11,13] rfl;refine sO H<|sr 2 G<|sd (aI G G (by unfold i64ok;omega))<|sr 1 G<|sE ?_;clear H a;intro a H
    exact k13 (sent+m2,along N r2 u j m2,nx2) a _ (⟨hE,by omega,by omega,by rw [hK.nlow u hu (by omega)];omega,fun h1 h2 hd h3 h4=>(by
      have h5:sent=0:=by omega
      obtain ⟨e1,e2⟩:=hI.zero h5;have h6:=hK.none (by omega) (oU W e1 (e2 hd)) (by omega);exact fun hp=>h6 (uQ W (fun i hi q hq=>(e1 i hi q hq).symm) hp htk))⟩) (S.sel [2,3,0,1] rfl rfl) (H.keep [11,0,1,2,3,4] rfl)
   try simp only [oz] at hc3
   refine wp_skip ?_;exact k13 (sent,r1,nx1) a _ (⟨hI,h0s,hsm,hjd.symm,fun h1 h2 hd h3 h4=>by subst h2;exact (hI.same hu hjn (by intro h9;omega) h3 h4).elim⟩) (S.sel [0,1,2,3] G G) (H.keep [11,0,1,2,3,4] rfl)
  clear SR H S a;intro xm a wm hp S H;obtain ⟨sent2,r2,nx2⟩:=xm;obtain ⟨hI2,h0s2,hsm2,hnj,hp2⟩:=hp;refine sS H fun K19 k19=>sr 3 G<|sE ?_;intro a H
  refine k19 _ ?_;refine condE H rfl (fun hc4=>?_) (fun hc4=>?_)
  ·skip
   refine sS H fun K20 k20=>sr 2 G<|sE ?_;intro a H
   refine k20 _ ?_;refine wp_ret ?_;refine ret1 (fn:=Tryz.f174) rfl H rfl ?_;exact ⟨_,_,_,rfl,hI2.full h0s2 (by omega),(S.sel [2,3,0,1] G G)⟩
  refine wp_skip ?_;refine k10 _ _ ?_;replace H:=H.keep [0,1,2,3,4,11] rfl;refine one_list ?_;refine ls 6 H<|sr 2 G<|si aP aX G G (aEj S (i:=1) rfl (by omega)) (by omega)<|slm aD rfl (aEk S (i:=1) rfl (by omega) (by omega))<|sd (aI G G (by unfold i64ok;omega))<|si aP aX G G (aEj S (i:=1) rfl (by omega)) (by omega)<|sE ?_;intro a H
  refine bC H S (i:=1) G G G (by omega) (by omega) aX rfl ?_
  clear H a S;intro _ a S H;replace S:=S.recell (i:=1) rfl (cell':=ncl (upd nx2 u (j+1))) (fun k q hk hq=>Ld (by rw [hnj];omega) k q hq);exact k7 (g1-1) (sent2,r2,upd nx2 u (j+1)) a _ (by omega) (⟨hI2.skip W hu hnj hjn (fun h0 hd h1 h2=>hp2 (by omega) h0 hd h1 h2),by omega,by omega,by rw [bQ];omega⟩) (S.sel [0,1,2,3] G G) (H.keep [11,0,1,2,3,4] rfl)
 refine wp_exit ?_;refine k6 _ _ ?_;refine sS H fun K22 k22=>sr 2 G<|sE ?_;intro a H
 refine k22 _ ?_;refine wp_ret ?_;refine ret1 (fn:=Tryz.f174) rfl H rfl ?_;exact ⟨_,_,_,rfl,hI.done hu (by omega) (by omega) h0s hsm,(S.sel [2,3,0,1] G G)⟩
end
section
theorem Qp (N:Net) (mv:Nat→Nat→Mv) (nb:Nat) (pl tk:Int) (st1 st2:Value) (EA:Option Addr) (A:Nat→Option Addr) (c:Nat→Nat) (b x:Nat) (L:Nat→Int) (LA:Option Addr) (lc:Nat) (NA:Option Addr) (W:N.Wf) (hb:b<N.k) (hx:x<N.k) (hk:N.k≤1000000) (hL:∀ v,v<N.k → -1≤L v∧L v<N.k):∀ n:Nat,PushC N mv nb pl tk st1 st2 EA A c b x L LA lc NA ((N.k:Int)-n):=by
  intro n;induction n with
  | zero=>intro u most r nx w F S hl hO hn hu hm hd;have:=(hL u hu).2;omega
  | succ n ih=>
    intro u most r nx w F S hl hO hn hu hm hd;exact Le N r mv nb pl tk st1 st2 EA A c b x L LA lc NA _ u most nx W hb hx hk hL w F S hl hO hn hu hm (by omega) ih
theorem Fl.bound {N:Net} {r r':RM} {b x:Nat} {v B:Int} (h:Fl N r r' b x v) (o:Ok N r B) (hbx:b≠x):v≤resid N r (fun v=>decide (v=b)):=by
 have h1:=uP (S:=(fun v=>decide (v=b))) (h.ok o)
 rw [h.cut] at h1;unfold ind at h1;have hxb:¬ x=b:=fun e=>hbx e.symm
 simp [hxb] at h1
 omega
theorem aBe:∀ k j,j<1→[Value.int .i64 0].getD j undef=ncl (fun _=>0) k j:=by
 intro k j hj;have:j=0:=by omega
 subst this;rfl
theorem dead0 {N:Net} {r:RM} {L:Nat→Int} {x:Nat}:Dead N r L x (fun _=>0):=fun u hu j hj=>absurd hj (Nat.not_lt_zero j)
theorem Cu (N:Net) (r:RM) (mv:Nat→Nat→Mv) (nb:Nat) (pl tk:Int) (st1 st2:Value) (EA:Option Addr) (A:Nat→Option Addr) (c:Nat→Nat) (b x:Nat) (w:World) (F:Nat→Prop) (S:St w F [boxM nb 291 [.int .i64 pl,st1,st2,.int .i64 tk,.slice EA N.k N.k,.int .i64 (b:Int),.int .i64 (x:Int)],ownM 312 1 EA N.k N.k (hdc A N.n c),ragM 314 7 (fun q=>q<N.k) A N.n c (edgeC N r mv)] w) (W:N.Wf) (hO:Ok N r 2199023255552) (hb:b<N.k) (hx:x<N.k) (hbx:b≠x) (hk:N.k≤1000000) (hV:resid N r (fun v=>decide (v=b))≤1000000000) :
    Calls Tryz.prog 142 [.pointer (some ⟨nb,0,none⟩)].toArray w (Ret (fun u w'=>∃ v r',u = .int .i64 v∧Fl N r r' b x v∧0≤v∧(∃ L,LevOk N r' b L∧L x<0)∧St w F [boxM nb 291 [.int .i64 pl,st1,st2,.int .i64 tk,.slice EA N.k N.k,.int .i64 (b:Int),.int .i64 (x:Int)],ownM 312 1 EA N.k N.k (hdc A N.n c),ragM 314 7 (fun q=>q<N.k) A N.n c (edgeC N r' mv)] w')):=by
 refine enter Tryz.func142 rfl Tryz.ntmps142 rfl (fun a H=>?_)
 skip
 refine sS H fun K1 k1=>sr 1 G<|sE ?_;intro a H
 refine k1 _ ?_;refine sS H fun K2 k2=>sr 1 G<|sE ?_;intro a H
 refine k2 _ ?_;refine wp_block ?_;refine loop_st (X:=Int×RM) (R0:=_) [0] H rfl (fun ⟨sum,r1⟩=>[(3,.int .i64 sum)]) (fun ⟨sum,r1⟩=>[ragM 314 7 (fun q=>q<N.k) A N.n c (edgeC N r1 mv)]) (fun g ⟨sum,r1⟩=>Fl N r r1 b x sum∧0≤sum∧(g:Int)+sum=resid N r (fun v=>decide (v=b))) ((resid N r (fun v=>decide (v=b))).toNat) (0,r) ?_ (S.sel [2,0,1] G G) (H.keep [3,0] rfl) ?_
 · exact ⟨Fl.zero hO,by omega,by have:=uP (S:=(fun v=>decide (v=b))) hO;omega⟩
 clear H S a;intro g1 x1 a w1 hp S H K3 k3;obtain ⟨sum,r1⟩:=x1;dsimp only at hp S H;obtain ⟨hF,h0,hg⟩:=hp;have hO1:=hF.ok hO;have hFb0:=hF.bound hO hbx;refine wp_block ?_;refine seq_list fun K4 k4=>?_
 refine ls 1 H<|sr 1 G<|sE ?_;intro a H
 have S1:=(S.sel [1,2,0] G G)
 refine aA H G G Tryz.func173 G G (Gf N r1 mv nb pl tk st1 st2 EA A c b x _ _ S1.startR W hO1 hb hx hbx hk) ?_;clear H a
 rintro _ _ a ⟨LA,L,rfl,hLv,S2⟩ H;replace S:=(S.sel [1,2,0] rfl rfl).callR (M:=[_,_,_]) S2;clear S1 S2;refine ls 1 H<|sr 1 G<|sE ?_;intro a H
 refine k4 _ _ ?_;refine wp_seq_k fun K5 k5=>?_
 replace H:=H.keep [0,3,4] rfl;refine sS H fun K6 k6=>sr 3 G<|sf vG rfl<|sl S 1 aD G G G<|si aP aX G G (aEj S (i:=0) rfl (by omega)) (by omega)<|slm aD rfl (aEk S (i:=0) rfl (by omega) (by omega))<|sr 1 G<|sE ?_;intro a H
 refine k6 _ ?_;refine condL H rfl (fun hc1=>?_) (fun hc1=>?_)
 ·skip
  replace H:=H.keep [3] rfl;refine sS H fun K7 k7=>sr 2 G<|sE ?_;intro a H
  refine k7 _ ?_;refine wp_ret ?_;refine ret1 (fn:=Tryz.f142) rfl H rfl ?_;exact ⟨_,_,rfl,hF,h0,⟨L,hLv,by omega⟩,(S.sel [1,2,3] G G)⟩
 refine wp_skip ?_;refine k5 _ _ ?_;replace H:=H.keep [0,3,4] rfl;replace S:=S.drew;refine one_wq [(0,true),(1,true),(2,true),(3,true),(4,true),(5,true),(6,true),(7,true),(8,true),(9,true),(10,true),(11,true),(12,false),(13,false),(14,true),(15,true)] (by kernel_rfl) (by kernel_rfl) (S.sel [0,1,2] G G) ?_;refine qF H<|qr 4 G<|qd G (fun _ S=>(aC qI rfl))<|qd G (fun _ S=>aF aD rfl (aEh S (i:=1) G G))<|qr 3 G<|qd G (fun _ S=>(aC fC rfl))<|qd G (fun _ S=>aF gD rfl (aEh S (i:=1) G G))<|qd G (fun _ S=>cE hZ rfl)<|qK ?_;intro a H
 refine aT rfl ?_
 refine fP (n:=_) H rfl S aP aX fD mQ rfl (by decide) G G (by omega) (by omega) ?_;intro A1 _ a hA1 S H
 replace S:=S.recell (i:=0) rfl (cell':=ncl (fun _=>0)) (fun k j hk hj=>aBe k j hj);refine wpList_nil (And.intro (S.sel [1,2,3] rfl rfl) ?_);refine aT rfl ?_;have S1:=(S.sel [2,3,4,0] rfl rfl);refine aA H rfl rfl Tryz.func174 rfl rfl ((by have:=Qp N mv nb pl tk st1 st2 EA A c b x L LA N.k _ W hb hx hk hLv.rng N.k b 1099511627776 r1 (fun _=>0) _ _ S1.startR (aEw S (i:=1) rfl [2,3,4,0] rfl rfl) hO1 (fun i hi=>Nat.zero_le _) hb (by omega) (by rw [hLv.b0];omega);exact this)) ?_;clear H a;rintro _ _ a ⟨m2,r2,nx2,rfl,hK,S2⟩ H;replace S:=(S.sel [2,3,4,0,1] rfl rfl).callR (M:=[_,_,_,_]) S2;clear S1 S2;have hm0:=hK.m0;have hm1:m2≠0:=fun h=>hK.none h dead0 (by omega) (Ul hLv hx (by omega))
 have hF2:=hF.more hK.fl
 have hFb:=hF2.bound hO hbx
 refine wpList_nil (And.intro (S.sel [4,0,1] G G) ?_);refine qF H<|qd G (fun _ S=>aI G G (by unfold i64ok;omega))<|qr 1 G<|qK ?_;intro a H
 refine bL ?_
 exact k3 ((resid N r (fun v=>decide (v=b))-(sum+m2)).toNat) (sum+m2,r2) a _ (by omega) (⟨hF2,by omega,by omega⟩) (S.sel [2,0,1] G G) (H.keep [3,0] rfl)
end
section
theorem seven {p:Nat→Prop} (h0:p 0) (h1:p 1) (h2:p 2) (h3:p 3) (h4:p 4) (h5:p 5) (h6:p 6):∀ j,j<7→p j:=by
 intro j hj;match j,hj with
 | 0,_=>exact h0
 | 1,_=>exact h1
 | 2,_=>exact h2
 | 3,_=>exact h3
 | 4,_=>exact h4
 | 5,_=>exact h5
 | 6,_=>exact h6
theorem vQ {T:Tab} {f:Nat} {e:Ent} (q:Nat):upd (tlen T) f (tlen T f+1) q=tlen (upd T f (T f++[e])) q:=by
 unfold tlen upd
 split <;> simp
theorem Cv {T:Tab} {f:Nat} {e:Ent}:((tlen (upd T f (T f++[e])) f:Nat):Int)=((T f).length:Int)+1:=by
 unfold tlen
 rw [bQ,List.length_append];simp
theorem Ie {T:Tab} {f t:Nat} {l:List Ent} (h:f≠t):tlen (upd T f l) t=tlen T t:=by unfold tlen;rw [cC _ _ (fun e=>h e.symm)]
theorem Qq {T:Tab} {f t:Nat} {room:Int} {mv:Mv} (h:f≠t):joinT T f t room mv=upd (upd T f (T f++[⟨t,room,(T t).length,mv⟩])) t ((upd T f (T f++[⟨t,room,(T t).length,mv⟩])) t++[⟨f,0,(T f).length,Mv.none⟩]):=by
 unfold joinT
 rw [cC (i:=t) _ _ (fun e=>h e.symm)]
theorem vR {T:Tab} {f:Nat} {e:Ent} {vs:List Value} (h:∀ j,j<7→vs.getD j undef=e.cell j):∀ i k j,k<upd (tlen T) f (tlen T f+1) i→j<7 →
    upd (tcell T) f (capp (tlen T f) (tcell T f) (fun k' j=>([vs].getD k' []).getD j undef)) i k j=tcell (upd T f (T f++[e])) i k j:=by
  intro i k j hk hj;by_cases hi:i=f
  · subst hi
    rw [bQ] at hk ⊢;unfold capp tcell;rw [bQ];unfold tlen at hk ⊢;by_cases h1:k<(T i).length
    · rw [if_pos h1,List.getD_eq_getElem?_getD,List.getD_eq_getElem?_getD,List.getElem?_append_left h1]
    · have h2:k=(T i).length:=by omega
      subst h2;rw [if_neg h1,Nat.sub_self];rw [List.getD_eq_getElem?_getD (l:=T i++[e]),List.getElem?_append_right (Nat.le_refl _),Nat.sub_self];exact h j hj
  · rw [cC _ _ hi] at hk ⊢
    unfold tcell
    rw [cC _ _ hi]
theorem Qr {T:Tab} {f:Nat} {e:Ent} {A:Nat→Option Addr} {c:Nat→Nat} {A1:Option Addr} {c1:Nat}:∀ k j,j<1→cput (hdc A (tlen T) c) f 0 (.slice A1 (tlen T f+1) c1) k j=hdc (upd A f A1) (tlen (upd T f (T f++[e]))) (upd c f c1) k j:=by
 intro k j hj;have:j=0:=by omega
 subst this;unfold cput hdc;rw [←vQ];by_cases h:k=f
 ·subst h;simp [bQ]
 ·simp [cC _ _ h,h]
theorem Cw {l:List Int} {x:Int} {k:Nat} (hk:k<l.length) (h:(l.take k).any (fun y=>decide (x=y))=false) (hx:¬ x=l.getD k 0):(l.take (k+1)).any (fun y=>decide (x=y))=false:=by
 rw [List.take_succ_eq_append_getElem hk,List.any_append,h];rw [List.getD_eq_getElem?_getD,List.getElem?_eq_getElem hk] at hx;simpa using hx
theorem Qt {l:List Int} {x:Int} {k:Nat} (hk:k<l.length) (hx:x=l.getD k 0):hasI l x=true:=by
 rw [List.getD_eq_getElem?_getD,List.getElem?_eq_getElem hk] at hx;unfold hasI;rw [List.any_eq_true];exact ⟨l[k],List.getElem_mem hk,by simpa using hx⟩
theorem qP (T:Tab) (k nb:Nat) (pl tk:Int) (st1 st2:Value) (EA:Option Addr) (A:Nat→Option Addr) (c:Nat→Nat) (b x:Nat) (f t:Nat) (room m1 m2 m3 m4:Int) (w:World) (F:Nat→Prop) (S:St w F [boxM nb 291 [.int .i64 pl,st1,st2,.int .i64 tk,.slice EA k k,.int .i64 (b:Int),.int .i64 (x:Int)],ownM 312 1 EA k k (hdc A (tlen T) c),ragM 314 7 (fun q=>q<k) A (tlen T) c (tcell T)] w) (hf:f<k) (ht:t<k) (hft:f≠t) (hlen:∀ i,i<k→(T i).length≤1000000) :
    Calls Tryz.prog 170 [.pointer (some ⟨nb,0,none⟩),.int .i64 (f:Int),.int .i64 (t:Int),.int .i64 room,.agg [.int .i64 m1,.int .i64 m2,.int .i64 m3,.int .i64 m4].toArray].toArray w (Ret (fun u w'=>u = .tuple #[]∧∃ A' c',St w F [boxM nb 291 [.int .i64 pl,st1,st2,.int .i64 tk,.slice EA k k,.int .i64 (b:Int),.int .i64 (x:Int)],ownM 312 1 EA k k (hdc A' (tlen (joinT T f t room ⟨m1,m2,m3,m4⟩)) c'),ragM 314 7 (fun q=>q<k) A' (tlen (joinT T f t room ⟨m1,m2,m3,m4⟩)) c' (tcell (joinT T f t room ⟨m1,m2,m3,m4⟩))] w')):=by
 refine enter Tryz.func170 rfl Tryz.ntmps170 rfl (fun a H=>?_)
 skip
 refine seq_list fun K1 k1=>?_
 refine aO H rfl S G G ?_;intro b9 _ a hb9 hbw9 S H
 refine k1 _ _ ?_;replace H:=H.keep [0,1,2,3,9] rfl;replace S:=S.drew;refine seq_wt 27 (.p 0 (.p 1 (.p 2 (.q 3 (.p 4 (.p 5 (.p 6 (.p 7 (.q 8 (.p 9 (.p 10 (.q 11 (.p 12 (.p 13 (.p 14 (.p 15 (.p 16 (.q 17 (.p 18 (.p 19 (.q 20 (.p 21 (.q 22 (.p 23 (.e 24 (.e 25 (.p 26 (.e 27 .nil)))))))))))))))))))))))))))) (by kernel_rfl) (by kernel_rfl) (S.sel [0,1,2] G G) fun K2 k2=>?_
 refine aW H G G (fun _=>aL rfl) ?_;intro a H
 refine aW H G G (fun _=>bN rfl) ?_;intro a H
 refine aW H G G (fun _=>(aC fC rfl)) ?_;intro a H
 refine aH H G G (fun _ S=>aF gD rfl (aEh S (i:=1) G G)) ?_;intro a H
 refine aW H G G (fun _=>aL rfl) ?_;intro a H
 refine aW H G G (fun _=>aL rfl) ?_;intro a H
 refine aW H G G (fun _=>bN rfl) ?_;intro a H
 refine aW H G G (fun _=>(aC fC rfl)) ?_;intro a H
 refine aH H G G (fun _ S=>aF gD rfl (aEh S (i:=1) G G)) ?_;intro a H
 refine aW H G G (fun _=>aL rfl) ?_;intro a H
 refine aW H G G (fun _=>bG hZ hX G G (aEj S (i:=2) rfl (by omega)) (by omega)) ?_;intro a H
 refine aH H G G (fun _ S=>aF kZ rfl (aEk S (i:=2) rfl (by omega) (by omega))) ?_;intro a H
 refine aW H G G (fun _=>aL rfl) ?_;intro a H
 refine aW H G G (fun _=>aL rfl) ?_;intro a H
 refine aW H G G (fun _=>aL rfl) ?_;intro a H
 refine aW H G G (fun _=>bN rfl) ?_;intro a H
 refine aW H G G (fun _=>(aC fC rfl)) ?_;intro a H
 refine aH H G G (fun _ S=>aF gD rfl (aEh S (i:=1) G G)) ?_;intro a H
 refine aW H G G (fun _=>aL rfl) ?_;intro a H
 refine aW H G G (fun _=>bG hZ hX G G (aEj S (i:=2) rfl (by omega)) (by omega)) ?_;intro a H
 refine aH H G G (fun _ S=>aF kZ rfl (aEk S (i:=2) rfl (by omega) (by omega))) ?_;intro a H
 refine aW H G G (fun _=>cE jY rfl) ?_;intro a H
 refine aH H G G (fun _ S=>(aB tO uT rfl S (i:=0) G G)) ?_;intro a H
 refine aW H G G (fun _=>aN Pp G G) ?_;intro a H
 refine aM rfl ?_
 refine aY H rfl S jY lG rT G G G G G G G G G ?_;intro A1 _ a hA1 S H
 refine wpList_nil (And.intro (Or.inr (S.sel [1,2,3] G G)) ?_);refine aM rfl ?_;replace S:=aEm S (i:=4) rfl hf;refine bM H rfl S jY lG rT Pi G G (i:=0) G G G (aEi S (i:=0+1) rfl) (qO (seven G G G G G G G)) (by have:=hlen f hf;have h9:tlen T f=(T f).length:=rfl;omega) (by have:=hlen f hf;have h9:tlen T f=(T f).length:=rfl;omega) ?_;intro Af cf _ a S H;replace S:=aEq S (i:=4) (p:=f) rfl hf;replace S:=aEo S (i:=4) rfl (n':=tlen (upd T f (T f++[⟨t,room,(T t).length,⟨m1,m2,m3,m4⟩⟩]))) (cell':=tcell (upd T f (T f++[⟨t,room,(T t).length,⟨m1,m2,m3,m4⟩⟩]))) (fun _ _=>rfl) (fun q _=>vQ q) (fun _ _=>rfl) (fun i _=>vR (seven G G G G G G G) i);refine wpList_nil (And.intro (Or.inr (S.sel [1,2,3] G G)) ?_);refine aW H G G (fun _=>bG hZ hX G G (aEj S (i:=3) rfl (by omega)) (by omega)) ?_;intro a H;refine aM rfl ?_;refine bC H S (i:=3) G G G (by omega) (by omega) hX rfl ?_;clear H a S;intro _ a S H;replace S:=S.recell (i:=3) rfl (cell':=hdc (upd A f Af) (tlen (upd T f (T f++[⟨t,room,(T t).length,⟨m1,m2,m3,m4⟩⟩]))) (upd c f cf)) (fun k j hk hj=>Qr k j hj);refine wpList_nil (And.intro (Or.inl rfl) ?_);refine bD ?_;refine k2 _ _ ?_;replace H:=H.keep [0,1,2] rfl;replace S:=S.drew;refine one_wt 27 (.p 0 (.p 1 (.p 2 (.q 3 (.p 4 (.p 5 (.p 6 (.p 7 (.q 8 (.p 9 (.p 10 (.q 11 (.p 12 (.p 13 (.p 14 (.p 15 (.q 16 (.p 17 (.p 18 (.q 19 (.p 20 (.p 21 (.p 22 (.p 23 (.e 24 (.e 25 (.p 26 (.e 27 .nil)))))))))))))))))))))))))))) (by kernel_rfl) (by kernel_rfl) (S.sel [0,1,2,3] G G) ?_;refine aW H G G (fun _=>aL rfl) ?_;intro a H;refine aW H G G (fun _=>bN rfl) ?_;intro a H;refine aW H G G (fun _=>(aC fC rfl)) ?_;intro a H;refine aH H G G (fun _ S=>aF gD rfl (aEh S (i:=2) G G)) ?_;intro a H;refine aW H G G (fun _=>aL rfl) ?_;intro a H;refine aW H G G (fun _=>aL rfl) ?_;intro a H;refine aW H G G (fun _=>bN rfl) ?_;intro a H;refine aW H G G (fun _=>(aC fC rfl)) ?_;intro a H;refine aH H G G (fun _ S=>aF gD rfl (aEh S (i:=2) G G)) ?_;intro a H;refine aW H G G (fun _=>aL rfl) ?_;intro a H;refine aW H G G (fun _=>bG hZ hX G G (aEj S (i:=3) rfl (by omega)) (by omega)) ?_;intro a H;refine aH H G G (fun _ S=>aF kZ rfl (aEk S (i:=3) rfl (by omega) (by omega))) ?_;intro a H;refine aW H G G (fun _=>aL rfl) ?_;intro a H;refine aW H G G (fun _=>aL rfl) ?_;intro a H;refine aW H G G (fun _=>bN rfl) ?_;intro a H;refine aW H G G (fun _=>(aC fC rfl)) ?_;intro a H;refine aH H G G (fun _ S=>aF gD rfl (aEh S (i:=2) G G)) ?_;intro a H;refine aW H G G (fun _=>aL rfl) ?_;intro a H;refine aW H G G (fun _=>bG hZ hX G G (aEj S (i:=3) rfl (by omega)) (by omega)) ?_;intro a H;refine aH H G G (fun _ S=>aF kZ rfl (aEk S (i:=3) rfl (by omega) (by omega))) ?_;intro a H;refine aW H G G (fun _=>cE jY rfl) ?_;intro a H;refine aW H G G (fun _=>(aR G G (by rw [Cv];have:=hlen f hf;unfold i64ok;omega)).to (v' := .int .i64 ((T f).length:Int)) (by rw [Cv];congr 1;omega)) ?_;intro a H;refine aW H G G (fun _=>aN Fp G G) ?_;intro a H;refine aW H G G (fun _=>aN Pp G G) ?_;intro a H;refine aM rfl ?_;refine aY H rfl S jY lG rT G G G G G G G G G ?_;intro A2 _ a hA2 S H;refine wpList_nil (And.intro (Or.inr (S.sel [1,2,3,4] G G)) ?_);refine aM rfl ?_;replace S:=aEm S (i:=5) rfl ht;refine bM H rfl S jY lG rT Pi G G (i:=0) G G G (aEi S (i:=0+1) rfl) (qO (seven G G G G G G G)) (by have:=hlen t ht;rw [Ie hft];have h9:tlen T t=(T t).length:=rfl;omega) (by have:=hlen t ht;rw [Ie hft];have h9:tlen T t=(T t).length:=rfl;omega) ?_;intro At ct _ a S H;replace S:=aEq S (i:=5) (p:=t) rfl ht;replace S:=aEo S (i:=5) rfl (n':=tlen (upd (upd T f (T f++[⟨t,room,(T t).length,⟨m1,m2,m3,m4⟩⟩])) t ((upd T f (T f++[⟨t,room,(T t).length,⟨m1,m2,m3,m4⟩⟩])) t++[⟨f,0,(T f).length,Mv.none⟩]))) (cell':=tcell (upd (upd T f (T f++[⟨t,room,(T t).length,⟨m1,m2,m3,m4⟩⟩])) t ((upd T f (T f++[⟨t,room,(T t).length,⟨m1,m2,m3,m4⟩⟩])) t++[⟨f,0,(T f).length,Mv.none⟩]))) (fun _ _=>rfl) (fun q _=>vQ q) (fun _ _=>rfl) (fun i _=>vR (seven G G G G G G G) i);refine wpList_nil (And.intro (Or.inr (S.sel [1,2,3,4] G G)) ?_);refine aW H G G (fun _=>bG hZ hX G G (aEj S (i:=4) rfl (by omega)) (by omega)) ?_;intro a H;refine aM rfl ?_;refine bC H S (i:=4) G G G (by omega) (by omega) hX rfl ?_;clear H a S;intro _ a S H;replace S:=S.recell (i:=4) rfl (cell':=hdc (upd (upd A f Af) t At) (tlen (upd (upd T f (T f++[⟨t,room,(T t).length,⟨m1,m2,m3,m4⟩⟩])) t ((upd T f (T f++[⟨t,room,(T t).length,⟨m1,m2,m3,m4⟩⟩])) t++[⟨f,0,(T f).length,Mv.none⟩]))) (upd (upd c f cf) t ct)) (fun k j hk hj=>Qr k j hj);refine wpList_nil (And.intro (Or.inl rfl) ?_);refine bD ?_;refine ret0 (fn:=Tryz.f170) rfl H ?_;rw [Qq hft];exact ⟨rfl,_,_,(S.sel [3,4,5] G G)⟩
theorem Ae (l:List Int) (A:Option Addr) (cp:Nat) (x:Int) (w:World) (hl:InS w noF 1 A l.length (icl l)) (hn:l.length≤9223372036854775807) :
    Calls Tryz.prog 121 [.slice A l.length cp,.int .i64 x].toArray w (Ret (fun u w'=>∃ n:Int,u = .int .i64 n∧decide (0≤n)=hasI l x∧St w noF [] w')):=by
 refine enter Tryz.func121 rfl Tryz.ntmps121 rfl (fun a H=>?_)
 have S:=St.start w
 refine sS H fun K1 k1=>sr 1 G<|sE ?_;intro a H
 refine k1 _ ?_;refine wp_seq_k fun K2 k2=>?_
 refine sS H fun K3 k3=>sr 1 G<|sL aP rfl<|sr 1 G<|sE ?_;intro a H
 refine k3 _ ?_;refine wp_block ?_;refine loop_st (X:=Nat) (R0:=_) [0,1,7] H rfl (fun k=>[(8,.int .i64 (k:Int))]) (fun k=>[]) (fun g k=>k≤l.length∧g+k=l.length∧(l.take k).any (fun y=>decide (x=y))=false) (l.length) 0 ?_ (S.sel [] G G) (H.keep [8,0,1,7] rfl) ?_
 · exact ⟨by omega,by omega,rfl⟩
 clear H S a;intro g1 x1 a w1 hp S H K4 k4;obtain ⟨k,rfl⟩:∃ y,y=x1:=⟨_,rfl⟩;refine sS H fun K5 k5=>sr 1 G<|sE ?_;intro a H
 refine k5 _ ?_;refine wp_seq_k fun K6 k6=>?_
 refine condL H rfl (fun hc1=>?_) (fun hc1=>?_)
 ·skip
  refine wp_skip ?_;refine k6 _ _ ?_;refine wp_seq_k fun K7 k7=>?_
  refine wp_block ?_;refine sS H fun K8 k8=>sr 2 G<|sE ?_;intro a H
  refine k8 _ ?_;refine sS H fun K9 k9=>sr 3 G<|si aP aX G G (hl.adr (by omega)) (by omega)<|slm aD rfl (hl.rd S (by omega) (by omega))<|sr 1 G<|sE ?_;intro a H
  refine k9 _ ?_;refine condE H rfl (fun hc2=>?_) (fun hc2=>?_)
  ·skip
   replace H:=H.keep [5] rfl;refine sS H fun K10 k10=>sr 2 G<|sE ?_;intro a H
   refine k10 _ ?_;refine wp_ret ?_;refine ret1 (fn:=Tryz.f121) rfl H rfl ?_;exact ⟨_,rfl,by rw [Qt (k:=k) (by omega) hc2];exact decide_eq_true (by omega),(S.sel [] G G)⟩
  refine wp_skip ?_;refine k7 _ _ ?_;refine sO H<|sd (aI G G (by unfold i64ok;omega))<|sr 1 G<|sE ?_;intro a H
  exact k4 (g1-1) (k+1) a _ (by omega) (⟨by omega,by omega,Cw (by omega) hp.2.2 hc2⟩) (S.sel [] G G) (H.keep [8,0,1,7] rfl)
 refine wp_exit ?_;refine k2 _ _ ?_;refine sS H fun K12 k12=>sr 1 G<|sE ?_;intro a H
 refine k12 _ ?_;refine wp_ret ?_;refine ret1 (fn:=Tryz.f121) rfl H rfl ?_;exact ⟨_,rfl,by unfold hasI;rw [←List.take_of_length_le (l:=l) (i:=k) (by omega),hp.2.2];rfl,(S.sel [] G G)⟩
theorem fE (l:List Int) (A:Option Addr) (cp:Nat) (x:Int) (w:World) (hl:InS w noF 1 A l.length (icl l)) (hn:l.length≤9223372036854775807) :
    Calls Tryz.prog 78 [.slice A l.length cp,.int .i64 x].toArray w (Ret (fun u w'=>u = .bool (hasI l x)∧St w noF [] w')):=by
 refine enter Tryz.func78 rfl Tryz.ntmps78 rfl (fun a H=>?_)
 have S:=St.start w
 refine sS H fun K1 k1=>sr 1 G<|sE ?_;intro a H
 refine k1 _ ?_;refine seq_list fun K2 k2=>?_
 refine ls 2 H<|sr 2 G<|sE ?_;intro a H
 refine aA H G G Tryz.func121 G G (Ae l A cp x _ (hl.now S) hn) ?_;clear H a
 rintro _ _ a ⟨n,rfl,hn2,S2⟩ H;replace S:=S.call S2;clear S2;refine ls 2 H<|sr 2 G<|sE ?_;intro a H
 refine k2 _ _ ?_;refine wp_ret ?_;refine ret1 (fn:=Tryz.f78) rfl H rfl ?_;exact ⟨congrArg Value.bool hn2,(S.sel [] G G)⟩
end
section
theorem xL (pl:Int) (ps:List Psg) (PA:Option Addr) (pc:Nat) (xs:List Int) (XA:Option Addr) (xc:Nat) (out:Int) (w:World) :
    Calls Tryz.prog 172 [.agg [.int .i64 pl,.slice PA ps.length pc,.slice XA xs.length xc].toArray,.int .i64 out].toArray w (Ret (fun u w'=>∃ b2 b3,u = .func (.func 187) #[] #[.pointer (some ⟨b2,0,none⟩),.pointer (some ⟨b3,0,none⟩)]∧St w noF [boxM b2 25 [.int .i64 pl,.slice PA ps.length pc,.slice XA xs.length xc],boxM b3 3 [.int .i64 out]] w')):=by
 refine enter Tryz.func172 rfl Tryz.ntmps172 rfl (fun a H=>?_)
 have S:=St.start w
 refine seq_list fun K1 k1=>?_
 refine aO H rfl S G G ?_;intro b2 _ a hb2 hbw2 S H
 refine aO H rfl S G G ?_;intro b3 _ a hb3 hbw3 S H
 refine ls 1 H<|sr 1 G<|sE ?_;intro a H
 refine k1 _ _ ?_;refine sS H fun K2 k2=>sr 2 G<|sE ?_;intro a H
 refine k2 _ ?_;refine wp_ret ?_;refine ret1 (fn:=Tryz.f172) rfl H rfl ?_;exact ⟨_,_,rfl,(S.sel [1,0] G G)⟩
theorem Gg (pl:Int) (ps:List Psg) (PA:Option Addr) (pc:Nat) (xs:List Int) (XA:Option Addr) (xc:Nat) (out:Int) (b2 b3 l:Nat) (Jm:Nat→Mem→Prop) (m:Mem) (w:World) (F:Nat→Prop) (h0:Jm 0 m) (S:St w F [m,boxM b2 25 [.int .i64 pl,.slice PA ps.length pc,.slice XA xs.length xc],boxM b3 3 [.int .i64 out]] w) (hps:InS w F 7 PA ps.length (pcell ps)) (hpn:ps.length≤9223372036854775807) (hxs:InS w F 1 XA xs.length (icl xs)) (hxn:xs.length≤9223372036854775807) (hmv:∀ k,k<ps.length→(ps.getD k aFf).kind=3→0≤(ps.getD k aFf).mach∧(ps.getD k aFf).mach≤11) (hout:0≤out) (hr:∀ i m' x w1,i<(hds out xs ps).length→Jm i m'→St w F [m',x] w1→Round Tryz.prog l (.agg (Hd.cells ((hds out xs ps).getD i aFl)).toArray) Jm w F i x w1) :
    Calls Tryz.prog 187 [.func (.yield l) #[] #[],.pointer (some ⟨b2,0,none⟩),.pointer (some ⟨b3,0,none⟩)].toArray w (Ret (fun u w'=>∃ m',Jm (hds out xs ps).length m'∧St w F [m',boxM b2 25 [.int .i64 pl,.slice PA ps.length pc,.slice XA xs.length xc],boxM b3 3 [.int .i64 out]] w')):=by
 refine enter Tryz.func187 rfl Tryz.ntmps187 rfl (fun a H=>?_)
 skip
 refine sS H fun K1 k1=>sf fS rfl<|sl S 1 iU G G G<|sL iR rfl<|sr 1 G<|sE ?_;clear H a;intro a H
 refine k1 _ ?_;refine wp_block ?_;refine loop_st (X:=Nat×Mem) (R0:=_) [0,1,2,9,10] H rfl (fun ⟨k,m⟩=>[(11,.int .i64 (k:Int))]) (fun ⟨k,m⟩=>[m]) (fun g ⟨k,m⟩=>k≤ps.length∧g+k=ps.length∧Jm (hdsTo out xs ps k).length m) (ps.length) (0,m) ?_ (S.sel [0,1,2] G G) (H.keep [11,0,1,2,9,10] rfl) ?_
 · exact ⟨by omega,by omega,h0⟩
 clear H S a;intro g1 x1 a w1 hp S H K2 k2;obtain ⟨k,m⟩:=x1;dsimp only at hp S H;obtain ⟨hkl,hgk,hJ⟩:=hp;refine sS H fun K3 k3=>sr 1 G<|sE ?_;clear H a;intro a H
 refine k3 _ ?_;refine wp_seq_k fun K4 k4=>?_
 refine condL H rfl (fun hc1=>?_) (fun hc1=>?_)
 ·skip
  refine wp_skip ?_;refine k4 _ _ ?_;refine wp_seq_k fun K5 k5=>?_
  refine wp_block ?_;refine seq_list fun K6 k6=>?_
  refine ls 3 H<|sr 1 G<|si iR dR G G (hps.adr (by omega)) (by omega)<|sd ((aU jJ dR rfl S hps (by omega) (by omega)))<|sE ?_;clear H a;intro a H
  refine aJ H rfl S oX ?_;intro b5 _ a hb5 hbw5 S H
  refine ls 1 H<|sr 1 G<|sE ?_;clear H a;intro a H
  refine aE H S (i:=0) G G G G dR G G ?_
  clear H a S;intro _ a S H;refine k6 _ _ ?_;replace H:=H.keep [0,1,2,4,5,9,10,11] rfl;refine sS H fun K7 k7=>sf nC rfl<|sl S 0 aD G G G<|sr 2 G<|sE ?_;clear H a;intro a H
  refine k7 _ ?_;have SR:=(S.sel [0,1,2,3] G G);refine meet_sr (X:=Int×Bool) [0,1,2,4,5,9,10,11] H rfl (fun ⟨tk,bk⟩=>[(6,.int .i64 tk),(7,.bool bk)]) (fun ⟨tk,bk⟩=>[]) (fun ⟨tk,bk⟩=>¬ (ps.getD k aFf).kind=4∧tk=iF out (ps.getD k aFf)∧bk=mI out (ps.getD k aFf)) SR (fun K9 k9=>?_) ?_
  ·skip
   refine wp_block ?_;refine sS H fun K10 k10=>sf fA rfl<|sl S 0 aD G G G<|sr 2 G<|sE ?_;clear H a;intro a H
   refine k10 _ ?_;refine condE H rfl (fun hc2=>?_) (fun hc2=>?_)
   ·skip
    refine wp_exit ?_;refine k5 _ _ ?_;replace H:=H.keep [0,1,2,9,10,11] rfl;refine sO H<|sd (aI G G (by unfold i64ok;omega))<|sr 1 G<|sE ?_;clear H a;intro a H
    exact k2 (g1-1) (k+1,_) a _ (by omega) (by first|exact ⟨by omega,by omega,(nI (out:=out) (xs:=xs) hc2).symm ▸ hJ⟩|exact ⟨by omega,by omega,by rw [kD hk4,hqB];exact hJ2⟩|exact ⟨by omega,by omega,by rw [kD hk4,hqB];exact hJ⟩) (S.sel [1,2,3] G G) (H.keep [11,0,1,2,9,10] rfl)
   replace H:=H.keep [0,1,2,4,5,6,7,9,10,11] rfl
   refine sS H fun K12 k12=>sf fA rfl<|sl S 0 aD G G G<|sr 2 G<|sg 6 3 26 32 true G G (fun hg4=>by
       have hq4:=hg4;try simp only [oz] at hq4
       have hmk:=hmv k (by omega) hq4
       exact sy hg4<|sl S 3 aD G G G<|sy hg4<|sf dQ rfl<|sy hg4<|sl S 0 aD G G G<|sy hg4<|sd (gV G G (by omega) (by omega))<|sy hg4<|sd (fO G G)<|sy hg4<|sr 1 G<|sz 6 G G G)<|sa G G G<|sr 1 G<|sE ?_;clear H a;intro a H
   refine k12 _ ?_;refine cond_ H rfl (fun hc3=>?_) (fun hc3=>?_)
   ·skip
    try simp only [oz] at hc3
    replace H:=H.keep [0,1,2,4,5,6,9,10,11] rfl;refine sO H<|sr 1 G<|sE ?_;clear H a;intro a H
    exact k9 ((ps.getD k aFf).ticks,false) a _ (⟨hc2,by unfold iF bitI;rw [if_neg (by omega)],Pt hc3⟩) (S.sel [0,1,2,3] G G) (H.keep [6,7,0,1,2,4,5,9,10,11] rfl)
   try simp only [oz] at hc3
   refine sS H fun K14 k14=>sf fA rfl<|sl S 0 aD G G G<|sr 2 G<|sE ?_;clear H a;intro a H
   refine k14 _ ?_;refine condE H rfl (fun hc4=>?_) (fun hc4=>?_)
   ·skip
    refine sO H<|sf jT rfl<|sl S 0 aD G G G<|sr 1 G<|sE ?_;clear H a;intro a H
    exact k9 ((ps.getD k aFf).still,true) a _ (⟨hc2,by unfold iF bitI;rw [if_pos (by omega)],Cl hc3⟩) (S.sel [0,1,2,3] G G) (H.keep [6,7,0,1,2,4,5,9,10,11] rfl)
   refine wp_skip ?_;exact k9 ((ps.getD k aFf).ticks,true) a _ (⟨hc2,by unfold iF;rw [if_neg (by omega)],Cl hc3⟩) (S.sel [0,1,2,3] G G) (H.keep [6,7,0,1,2,4,5,9,10,11] rfl)
  clear SR H S a;intro xm a wm hp S H;obtain ⟨tk,bk⟩:=xm;obtain ⟨hk4,rfl,rfl⟩:=hp;have SR:=(S.sel [0,2,3] rfl rfl);refine meet_sr (X:=Nat×Mem) [0,1,2,4,5,6,7,9,10,11] H rfl (fun ⟨q,m⟩=>[]) (fun ⟨q,m⟩=>[m]) (fun ⟨q,m⟩=>Jm q m∧q=(hdsTo out xs ps k).length+qA xs (ps.getD k aFf)) SR (fun K17 k17=>?_) ?_
  ·skip
   cases hcA:hasI xs (ps.getD k aFf).a
   ·skip
    replace H:=H.keep [0,1,2,4,5,6,7,9,10,11] rfl;refine Oa fun K18 k18=>?_
    refine tM 17 ?_
    refine ls 4 H<|sf jK rfl<|sl S 2 bE G G G<|sf gA rfl<|sl S 0 aD G G G<|sE ?_;clear H a;intro a H
    refine aA H G G Tryz.func78 G G (fE xs XA xc _ _ (hxs.now S) hxn) ?_;clear H a
    rintro _ _ a ⟨rfl,S2⟩ H;replace S:=S.call S2;clear S2;first|rw [hcA] at H|rw [hcB] at H
    refine ls 12 H<|sr 2 G<|sy G<|sr 1 G<|sy G<|sr 1 G<|sy G<|sf gA rfl<|sy G<|sl S 0 aD G G G<|sy G<|sf gB rfl<|sy G<|sl S 0 aD G G G<|sy G<|sr 1 G<|sy G<|sf qE rfl<|sy G<|sl S 0 aD G G G<|sy G<|sd (aN Po G G)<|sE ?_;clear H a;intro a H
    refine wpList_nil ?_;refine Ob H rfl rfl rfl ?_;have SY:=(St.pack (Ms:=[_,_,_]) (R:=[_]) (S.sel [0,2,3,1] rfl rfl)).sel [1,0] rfl rfl;have hhd:=Kp (out:=out) (xs:=xs) (show k<ps.length by omega) hk4 hcA;refine Ca H rfl rfl (v := .agg (Hd.cells ((hds out xs ps).getD ((hdsTo out xs ps k).length) aFl)).toArray) (by rw [hhd.1];rfl) (hr _ _ _ _ hhd.2 hJ SY) (fun _ _ h=>h.1) ?_;clear H a;rintro _ a ⟨_,m2,hJ2,S2⟩ H;replace S:=St.unpack (S2.sel [1,0] rfl rfl);clear S2 SY;refine tM 2 ?_;refine ls 2 H<|sy G<|sr 1 G<|sa rfl rfl rfl<|sE ?_;clear H a;intro a H
    refine wpList_nil ?_;refine k18 _ _ ?_;refine cond_ H rfl (fun hc5=>?_) (fun hc5=>?_)
    ·skip
     try simp only [oz] at hc5
     exfalso;simp at hc5
    try simp only [oz] at hc5
    refine wp_skip ?_;exact k17 ((hdsTo out xs ps k).length+1,_) a _ (⟨hJ2,by unfold qA;rw [if_neg (by rw [hcA];simp)]⟩) (S.sel [3,0,1,2] G G) (H.keep [0,1,2,4,5,6,7,9,10,11] rfl)
   replace H:=H.keep [0,1,2,4,5,6,7,9,10,11] rfl;refine seq_list fun K19 k19=>?_
   refine ls 4 H<|sf jK rfl<|sl S 2 bE G G G<|sf gA rfl<|sl S 0 aD G G G<|sE ?_;clear H a;intro a H
   refine aA H G G Tryz.func78 G G (fE xs XA xc _ _ (hxs.now S) hxn) ?_;clear H a
   rintro _ _ a ⟨rfl,S2⟩ H;replace S:=S.call S2;clear S2;first|rw [hcA] at H|rw [hcB] at H
   refine ls 15 H<|sr 2 G<|sn G G G<|sn G G G<|sn G G G<|sn G G G<|sn G G G<|sn G G G<|sn G G G<|sn G G G<|sn G G G<|sn G G G<|sn G G G<|sn G G G<|sd ((aV G G G))<|sE ?_;clear H a;intro a H
   refine k19 _ _ ?_;refine cond_ H rfl (fun hc6=>?_) (fun hc6=>?_)
   ·skip
    try simp only [oz] at hc6
    exfalso;simp at hc6
   try simp only [oz] at hc6
   refine wp_skip ?_;exact k17 ((hdsTo out xs ps k).length,_) a _ (⟨hJ,by unfold qA;rw [if_pos hcA];rfl⟩) (S.sel [1,0,2,3] G G) (H.keep [0,1,2,4,5,6,7,9,10,11] rfl)
  clear SR H S a;intro xm a wm hp S H;obtain ⟨q,m⟩:=xm;obtain ⟨hJ,rfl⟩:=hp;rcases bk3 (mI out (ps.getD k aFf)) (hasI xs (ps.getD k aFf).b) with hbk|⟨hbk,hcB⟩|⟨hbk,hcB⟩
  ·skip
   rw [hbk] at H;have hqB:qB out xs (ps.getD k aFf)=0:=by unfold qB;rw [hbk];rfl
   replace H:=H.keep [0,1,2,4,5,6,7,9,10,11] rfl;refine seq_list fun K20 k20=>?_
   refine ls 23 H<|sr 2 G<|sn G G G<|sn G G G<|sn G G G<|sn G G G<|sn G G G<|sn G G G<|sd ((aV G G G))<|sr 1 G<|sn G G G<|sn G G G<|sn G G G<|sn G G G<|sn G G G<|sn G G G<|sn G G G<|sn G G G<|sn G G G<|sn G G G<|sn G G G<|sn G G G<|sd ((aV G G G))<|sE ?_;clear H a;intro a H
   refine k20 _ _ ?_;refine cond_ H rfl (fun hc7=>?_) (fun hc7=>?_)
   ·skip
    try simp only [oz] at hc7
    exfalso;simp at hc7
   try simp only [oz] at hc7
   refine wp_skip ?_;refine k5 _ _ ?_;replace H:=H.keep [0,1,2,9,10,11] rfl;refine sO H<|sd (aI G G (by unfold i64ok;omega))<|sr 1 G<|sE ?_;clear H a;intro a H
   exact k2 (g1-1) (k+1,_) a _ (by omega) (by first|exact ⟨by omega,by omega,(nI (out:=out) (xs:=xs) hc2).symm ▸ hJ⟩|exact ⟨by omega,by omega,by rw [kD hk4,hqB];exact hJ2⟩|exact ⟨by omega,by omega,by rw [kD hk4,hqB];exact hJ⟩) (S.sel [0,2,3] G G) (H.keep [11,0,1,2,9,10] rfl)
  ·skip
   rw [hbk] at H;have hqB:qB out xs (ps.getD k aFf)=0:=by unfold qB;rw [hbk,hcB];rfl
   replace H:=H.keep [0,1,2,4,5,6,7,9,10,11] rfl;refine seq_list fun K22 k22=>?_
   refine ls 6 H<|sr 2 G<|sy G<|sf jK rfl<|sy G<|sl S 2 bE G G G<|sy G<|sf gB rfl<|sy G<|sl S 1 aD G G G<|sE ?_;clear H a;intro a H
   refine bA H G G ?_
   refine aA H G G Tryz.func78 G G (fE xs XA xc _ _ (hxs.now S) hxn) ?_;clear H a
   rintro _ _ a ⟨rfl,S2⟩ H;replace S:=S.call S2;clear S2;first|rw [hcA] at H|rw [hcB] at H
   refine ls 16 H<|sy G<|sr 1 G<|sa G G G<|sr 1 G<|sn G G G<|sn G G G<|sn G G G<|sn G G G<|sn G G G<|sn G G G<|sn G G G<|sn G G G<|sn G G G<|sn G G G<|sn G G G<|sn G G G<|sd ((aV G G G))<|sE ?_;clear H a;intro a H
   refine k22 _ _ ?_;refine cond_ H rfl (fun hc8=>?_) (fun hc8=>?_)
   ·skip
    try simp only [oz] at hc8
    exfalso;simp at hc8
   try simp only [oz] at hc8
   refine wp_skip ?_;refine k5 _ _ ?_;replace H:=H.keep [0,1,2,9,10,11] rfl;refine sO H<|sd (aI G G (by unfold i64ok;omega))<|sr 1 G<|sE ?_;clear H a;intro a H
   exact k2 (g1-1) (k+1,_) a _ (by omega) (by first|exact ⟨by omega,by omega,(nI (out:=out) (xs:=xs) hc2).symm ▸ hJ⟩|exact ⟨by omega,by omega,by rw [kD hk4,hqB];exact hJ2⟩|exact ⟨by omega,by omega,by rw [kD hk4,hqB];exact hJ⟩) (S.sel [0,2,3] G G) (H.keep [11,0,1,2,9,10] rfl)
  rw [hbk] at H;have hqB:qB out xs (ps.getD k aFf)=1:=by unfold qB;rw [hbk,hcB];rfl
  replace H:=H.keep [0,1,2,4,5,6,7,9,10,11] rfl;refine Oa fun K24 k24=>?_
  refine tM 20 ?_
  refine ls 6 H<|sr 2 G<|sy G<|sf jK rfl<|sy G<|sl S 2 bE G G G<|sy G<|sf gB rfl<|sy G<|sl S 1 aD G G G<|sE ?_;clear H a;intro a H
  refine bA H G G ?_
  refine aA H G G Tryz.func78 G G (fE xs XA xc _ _ (hxs.now S) hxn) ?_;clear H a
  rintro _ _ a ⟨rfl,S2⟩ H;replace S:=S.call S2;clear S2;first|rw [hcA] at H|rw [hcB] at H
  refine ls 13 H<|sy G<|sr 1 G<|sa G G G<|sr 1 G<|sy G<|sr 1 G<|sy G<|sr 1 G<|sy G<|sf gB rfl<|sy G<|sl S 1 aD G G G<|sy G<|sf gA rfl<|sy G<|sl S 1 aD G G G<|sy G<|sr 1 G<|sy G<|sf qE rfl<|sy G<|sl S 1 aD G G G<|sy G<|sd (aN Po G G)<|sE ?_;clear H a;intro a H
  refine wpList_nil ?_;refine Ob H rfl rfl rfl ?_;have SY:=(St.pack (Ms:=[_,_,_]) (R:=[_]) (S.sel [1,2,3,0] rfl rfl)).sel [1,0] rfl rfl;have hhd:=Fw (out:=out) (xs:=xs) (show k<ps.length by omega) hk4 (by rw [hbk,hcB];rfl);refine Ca H rfl rfl (v := .agg (Hd.cells ((hds out xs ps).getD ((hdsTo out xs ps k).length+qA xs (ps.getD k aFf)) aFl)).toArray) (by rw [hhd.1];rfl) (hr _ _ _ _ hhd.2 hJ SY) (fun _ _ h=>h.1) ?_;clear H a;rintro _ a ⟨_,m2,hJ2,S2⟩ H;replace S:=St.unpack (S2.sel [1,0] rfl rfl);clear S2 SY;refine tM 2 ?_;refine ls 2 H<|sy G<|sr 1 G<|sa rfl rfl rfl<|sE ?_;clear H a;intro a H
  refine wpList_nil ?_;refine k24 _ _ ?_;refine cond_ H rfl (fun hc9=>?_) (fun hc9=>?_)
  ·skip
   try simp only [oz] at hc9
   exfalso;simp at hc9
  try simp only [oz] at hc9
  refine wp_skip ?_;refine k5 _ _ ?_;replace H:=H.keep [0,1,2,9,10,11] rfl;refine sO H<|sd (aI G G (by unfold i64ok;omega))<|sr 1 G<|sE ?_;clear H a;intro a H
  exact k2 (g1-1) (k+1,_) a _ (by omega) (by first|exact ⟨by omega,by omega,(nI (out:=out) (xs:=xs) hc2).symm ▸ hJ⟩|exact ⟨by omega,by omega,by rw [kD hk4,hqB];exact hJ2⟩|exact ⟨by omega,by omega,by rw [kD hk4,hqB];exact hJ⟩) (S.sel [3,1,2] G G) (H.keep [11,0,1,2,9,10] rfl)
 refine wp_exit ?_;refine ret0 (fn:=Tryz.f187) rfl H ?_;have hkn:k=ps.length:=by omega
 subst hkn;exact ⟨_,hJ,(S.sel [0,1,2] G G)⟩
end
section
theorem lU (P T:Nat) (ps:List Psg) (PA:Option Addr) (pc:Nat) (xs:List Int) (XA:Option Addr) (xc:Nat) (b31:Nat) (EA:Option Addr) (p t:Nat) (w:World) (F:Nat→Prop) (S:St w F [boxM b31 291 [.int .i64 (P:Int),.slice PA ps.length pc,.slice XA xs.length xc,.int .i64 (T:Int),.slice EA ((P*(T+1))+2) ((P*(T+1))+2),.int .i64 (((P*(T+1)):Nat):Int),.int .i64 (((P*(T+1))+1:Nat):Int)]] w) (hp:p≤100000) (ht:t≤100000) (hP:P≤1000) :
  Calls Tryz.prog 171 [.pointer (some ⟨b31,0,none⟩),.int .i64 (p:Int),.int .i64 (t:Int)].toArray w (Ret fun u w'=>u = .int .i64 ((nd P t p:Nat):Int)∧St w F [boxM b31 291 [.int .i64 (P:Int),.slice PA ps.length pc,.slice XA xs.length xc,.int .i64 (T:Int),.slice EA ((P*(T+1))+2) ((P*(T+1))+2),.int .i64 (((P*(T+1)):Nat):Int),.int .i64 (((P*(T+1))+1:Nat):Int)]] w'):=by
 have hb:P*t≤1000*100000:=Nat.mul_le_mul hP ht
 have hb2:((P*t:Nat):Int)=(P:Int)*(t:Int):=Int.natCast_mul P t
 have h:=Qo ⟨(P*(T+1))+2,fun _=>0,fun _ _=>0,fun _ _=>0⟩ (fun _ _=>0) (fun _ _=>aFk) b31 (P:Int) (T:Int) _ _ EA (fun _=>none) (fun _=>0) (P*(T+1)) ((P*(T+1))+1) (p:Int) (t:Int) w F S (by omega) (by unfold i64ok;omega) (by unfold i64ok;omega)
 refine sB h fun v w' h=>⟨h.1.trans ?_,h.2⟩
 unfold nd
 rw [Int.natCast_add,hb2]
def JG (P T:Nat) (J:List Jn) (n:Nat):Prop:=(∀ j ∈ J,JOk P T j)∧J.length≤n
theorem JG.snoc {P T n:Nat} {J:List Jn} {j:Jn} (h:JG P T J n) (hj:JOk P T j):JG P T (J++[j]) (n+1):=
 ⟨fun x hx=>by
  rcases List.mem_append.1 hx with hx|hx
  ·exact h.1 x hx
  ·rw [List.mem_singleton.1 hx];exact hj,by have:=h.2;simp;omega⟩
theorem JG.len {P T n:Nat} {J:List Jn} (h:JG P T J n) (hn:n≤1000000):∀ i,i<(P*(T+1))+2→(joins J i).length≤1000000:=fun i _=>Nat.le_trans (Kq J (fun j hj=>(h.1 j hj).1) i) (Nat.le_trans h.2 hn)
theorem JG.places {P T p:Nat} {pe xs:List Int} (hp:p≤P):JG P T (bB P T pe xs p) (p*(2*T+2)):=⟨oZ hp,sZ p⟩
theorem vS {P p t:Nat} {A:List Jn} {b:Jn}:A++(b::cT P p (t+1))=(A++(b::cT P p t))++[jWait P p t]:=by unfold cT;rw [oY];simp
theorem vT {P T p t:Nat} {A B:List Jn} {b:Jn}:A++(b::(B++eX P T p (t+1)))=(A++(b::(B++eX P T p t)))++[jExit P T p t]:=by unfold eX;rw [oY];simp
theorem vU {P t:Nat} {h:Hd} {A:List Jn}:A++gK P h (t+1)=(A++gK P h t)++[jHead P h t]:=by unfold gK;rw [oY];simp
theorem Qu {P T p:Nat} {A:List Jn} {b:Jn}:A++(b::cT P p T)=A++(b::(cT P p T++eX P T p 0)):=by rw [show eX P T p 0=[] from rfl,List.append_nil]
theorem Qv {P:Nat} {h:Hd} {A:List Jn}:A=A++gK P h 0:=(List.append_nil A).symm
theorem aBf {P T:Nat} {hs:List Hd} {A:List Jn}:A=A++eB P T hs 0:=(List.append_nil A).symm
theorem Qw {P T p:Nat} {pe xs:List Int} (h:hasI xs p=false):bB P T pe xs p++(jBeg P T pe p::cT P p T)=bB P T pe xs (p+1):=by
 rw [bB,kQ,if_neg (by rw [h];simp),List.append_nil]
theorem yB {P T p:Nat} {pe xs:List Int} (h:hasI xs p=true):bB P T pe xs p++(jBeg P T pe p::(cT P p T++eX P T p (T+1)))=bB P T pe xs (p+1):=by
 rw [bB,kQ,if_pos h]
theorem yC (P T:Nat) (ps:List Psg) (PA:Option Addr) (pc:Nat) (xs:List Int) (XA:Option Addr) (xc:Nat) (b31:Nat) (EA:Option Addr) (p:Int) (t:Nat) (w:World) (F:Nat→Prop) (S:St w F [boxM b31 291 [.int .i64 (P:Int),.slice PA ps.length pc,.slice XA xs.length xc,.int .i64 (T:Int),.slice EA ((P*(T+1))+2) ((P*(T+1))+2),.int .i64 (((P*(T+1)):Nat):Int),.int .i64 (((P*(T+1))+1:Nat):Int)]] w) (hp:0≤p∧p≤100000) (ht:t≤100000) (hP:P≤1000) :
  Calls Tryz.prog 171 [.pointer (some ⟨b31,0,none⟩),.int .i64 p,.int .i64 (t:Int)].toArray w (Ret fun u w'=>u = .int .i64 ((nd P t p.toNat:Nat):Int)∧St w F [boxM b31 291 [.int .i64 (P:Int),.slice PA ps.length pc,.slice XA xs.length xc,.int .i64 (T:Int),.slice EA ((P*(T+1))+2) ((P*(T+1))+2),.int .i64 (((P*(T+1)):Nat):Int),.int .i64 (((P*(T+1))+1:Nat):Int)]] w'):=by
 have h:=lU P T ps PA pc xs XA xc b31 EA p.toNat t w F S (by omega) ht hP
 rw [Int.toNat_of_nonneg hp.1] at h;exact h
theorem Qx:∀ k j,j<1→[Value.slice none 0 0].getD j undef=hdc (fun _=>none) (tlen (joins [])) (fun _=>0) k j:=by
 intro k j hj;have:j=0:=by omega
 subst this;rfl
theorem Qy (P T:Nat) (ps:List Psg) (PA:Option Addr) (pc:Nat) (xs:List Int) (XA:Option Addr) (xc:Nat) (out:Int) (pe:List Int) (BA:Option Addr) (bc:Nat) (w:World) (hps:InS w noF 7 PA ps.length (pcell ps)) (hpn:ps.length≤9223372036854775807) (hxs:InS w noF 1 XA xs.length (icl xs)) (hxn:xs.length≤9223372036854775807) (hmv:∀ k,k<ps.length→(ps.getD k aFf).kind=3→0≤(ps.getD k aFf).mach∧(ps.getD k aFf).mach≤11) (hout:0≤out) (hpe:InS w noF 1 BA pe.length (icl pe)) (hpl:pe.length=P) (hP:1≤P∧P≤10) (hT:T≤60) (hpn8:ps.length≤24) (hhd:∀ i,i<(hds out xs ps).length→HdOk P ((hds out xs ps).getD i aFl)) :
    Calls Tryz.prog 141 [.agg [.int .i64 (P:Int),.slice PA ps.length pc,.slice XA xs.length xc].toArray,.int .i64 out,.slice BA pe.length bc,.int .i64 (T:Int)].toArray w (Ret (fun u w'=>∃ b31 EA A' c',u = .pointer (some ⟨b31,0,none⟩)∧St w noF [boxM b31 291 [.int .i64 (P:Int),.slice PA ps.length pc,.slice XA xs.length xc,.int .i64 (T:Int),.slice EA ((P*(T+1))+2) ((P*(T+1))+2),.int .i64 (((P*(T+1)):Nat):Int),.int .i64 (((P*(T+1))+1:Nat):Int)],ownM 312 1 EA ((P*(T+1))+2) ((P*(T+1))+2) (hdc A' (tlen (joins (jAll P T pe xs (hds out xs ps)))) c'),ragM 314 7 (fun q=>q<(P*(T+1))+2) A' (tlen (joins (jAll P T pe xs (hds out xs ps)))) c' (tcell (joins (jAll P T pe xs (hds out xs ps))))] w')):=by
 have hC:P*(T+1)≤10*61:=Nat.mul_le_mul (by omega) (by omega)
 have hC2:((P*(T+1):Nat):Int)=(P:Int)*((T:Int)+1):=by rw [Int.natCast_mul];rfl
 refine Zu Tryz.func141 rfl Tryz.ntmps141 rfl (fun a H=>?_)
 have S:=St.start w
 refine seq_list fun K1 k1=>?_
 refine aO H rfl S G G ?_;intro b4 _ a hb4 hbw4 S H
 refine aO H rfl S G G ?_;intro b7 _ a hb7 hbw7 S H
 refine ls 1 H<|sr 1 G<|sE ?_;intro a H
 refine k1 _ _ ?_;refine sS H fun K2 k2=>sf dY rfl<|sl S 1 aD G G G<|sl S 0 aD G G G<|sd (aI G G (by unfold i64ok;omega))<|sd ((fY G G (by rw [←hC2];unfold i64ok;omega)).to (v' := .int .i64 ((P*(T+1):Nat):Int)) (by rw [hC2]))<|sr 1 G<|sE ?_;intro a H
 refine k2 _ ?_;have SR:=(S.sel [0,1] G G);refine meet_sr (X:=Nat×Nat×Option Addr) [1,2,4,7] H rfl (fun ⟨b10,b31,EA⟩=>[(10,.pointer (some ⟨b10,0,none⟩))]) (fun ⟨b10,b31,EA⟩=>[boxM b10 267 [.pointer (some ⟨b31,0,none⟩)],boxM b31 291 [.int .i64 (P:Int),.slice PA ps.length pc,.slice XA xs.length xc,.int .i64 (T:Int),.slice EA ((P*(T+1))+2) ((P*(T+1))+2),.int .i64 (((P*(T+1)):Nat):Int),.int .i64 (((P*(T+1))+1:Nat):Int)],ownM 312 1 EA ((P*(T+1))+2) ((P*(T+1))+2) (hdc (fun _=>none) (tlen (joins [])) (fun _=>0))]) (fun ⟨b10,b31,EA⟩=>True) SR (fun K3 k3=>?_) ?_
 ·skip
  replace H:=H.keep [1,2,4,7,9] rfl;replace S:=S.drew;refine one_wt 999 (.q 0 (.q 1 (.q 2 (.q 3 (.q 5 (.q 6 (.q 7 (.b2 4 (.q 8 (.b2 9 (.e 10 (.e 11 .nil)) 10 (.e 9 (.e 11 .nil)))) 10 (.e 4 (.q 8 (.e 9 (.e 11 .nil)))))))))))) (by kernel_rfl) (by kernel_rfl) (S.sel [0,1] G G) ?_;refine aH H G G (fun _ S=>(aB bW cQ rfl S (i:=1) G G)) ?_;intro a H;refine aH H G G (fun _ S=>aF aD rfl (aEh S (i:=0) G G)) ?_;intro a H;refine aH H G G (fun _ S=>aL rfl) ?_;intro a H;refine aH H G G (fun _ S=>(aI G G (by unfold i64ok;omega)).to (v' := .int .i64 ((P*(T+1)+2:Nat):Int)) rfl) ?_;intro a H;refine aH H G G (fun _ S=>aL rfl) ?_;intro a H;refine aH H G G (fun _ S=>aL rfl) ?_;intro a H;refine aH H G G (fun _ S=>(aI G G (by unfold i64ok;omega)).to (v' := .int .i64 ((P*(T+1)+1:Nat):Int)) rfl) ?_;intro a H;refine eF G G ?_ ?_
  ·skip
   refine fP (n:=P*(T+1)+2) H rfl S hZ hX Pg Ph rfl (by decide) G G (by omega) (by omega) ?_;intro A1 _ a hA1 S H
   replace S:=S.recell (i:=0) rfl (cell':=hdc (fun _=>none) (tlen (joins [])) (fun _=>0)) (fun k j _ hj=>Qx k j hj);refine wpList_nil (And.intro (Or.inr (S.sel [1,2] G G)) ?_);refine aH H G G (fun _ S=>aN Pn G G) ?_;intro a H;refine eF G G ?_ ?_
   ·skip
    refine aO H rfl S G G ?_;intro b31 _ a hb31 hbw31 S H
    refine wpList_nil (And.intro (Or.inr (S.sel [2,3] G G)) ?_);refine aM rfl ?_;refine aJ H rfl S Fo ?_;intro b10 _ a hb10 hbw10 S H;refine wpList_nil (And.intro (Or.inr (S.sel [3,4] G G)) ?_);refine aM rfl ?_;refine aE H S (i:=0) G G G G Fj G G ?_;clear H a S;intro _ a S H;refine wpList_nil (And.intro (Or.inr (S.sel [3,4] G G)) ?_);refine bD ?_;exact k3 (b10,b31,_) a _ (trivial) (S.sel [0,1,2,3,4] G G) (H.keep [10,1,2,4,7] rfl)
   ·skip
    refine aJ H rfl S Fo ?_;intro b10 _ a hb10 hbw10 S H
    refine wpList_nil (And.intro (Or.inr (S.sel [2,3] G G)) ?_);refine aM rfl ?_;refine aO H rfl S G G ?_;intro b31 _ a hb31 hbw31 S H;refine wpList_nil (And.intro (Or.inr (S.sel [3,4] G G)) ?_);refine aM rfl ?_;refine aE H S (i:=1) G G G G Fj G G ?_;clear H a S;intro _ a S H;refine wpList_nil (And.intro (Or.inr (S.sel [3,4] G G)) ?_);refine bD ?_;exact k3 (b10,b31,_) a _ (trivial) (S.sel [1,0,2,3,4] G G) (H.keep [10,1,2,4,7] rfl)
  ·skip
   refine aJ H rfl S Fo ?_;intro b10 _ a hb10 hbw10 S H
   refine wpList_nil (And.intro (Or.inr (S.sel [1,2] G G)) ?_);refine aM rfl ?_;refine fP (n:=P*(T+1)+2) H rfl S hZ hX Pg Ph rfl (by decide) G G (by omega) (by omega) ?_;intro A2 _ a hA2 S H;replace S:=S.recell (i:=0) rfl (cell':=hdc (fun _=>none) (tlen (joins [])) (fun _=>0)) (fun k j _ hj=>Qx k j hj);refine wpList_nil (And.intro (Or.inr (S.sel [2,3] G G)) ?_);refine aH H G G (fun _ S=>aN Pn G G) ?_;intro a H;refine aM rfl ?_;refine aO H rfl S G G ?_;intro b31 _ a hb31 hbw31 S H;refine wpList_nil (And.intro (Or.inr (S.sel [3,4] G G)) ?_);refine aM rfl ?_;refine aE H S (i:=2) G G G G Fj G G ?_;clear H a S;intro _ a S H;refine wpList_nil (And.intro (Or.inr (S.sel [3,4] G G)) ?_);refine bD ?_;exact k3 (b10,b31,_) a _ (trivial) (S.sel [2,0,1,3,4] G G) (H.keep [10,1,2,4,7] rfl)
 clear SR H S a;intro xm a wm hp S H;obtain ⟨b10,b31,EA⟩:=xm;replace H:=H.keep [1,2,4,7,10] rfl;refine seq_list fun K5 k5=>?_
 refine ls 1 H<|sd (aN Fp G G)<|sE ?_;intro a H
 refine aJ H rfl S Pe ?_;intro b11 _ a hb11 hbw11 S H
 refine aE H S (i:=0) G G G G uT G G ?_
 clear H a S;intro _ a S H;refine k5 _ _ ?_;refine wp_seq_k fun K6 k6=>?_
 refine sS H fun K7 k7=>sf dY rfl<|sl S 5 aD G G G<|sr 1 G<|sE ?_;intro a H
 refine k7 _ ?_;refine wp_block ?_;replace S:=aFd S 314 7 (fun q=>q<P*(T+1)+2) (tcell (joins []));refine loop_st (X:=Nat×(Nat→Option Addr)×(Nat→Nat)) (R0:=_) [1,2,4,7,10,11,34] H rfl (fun ⟨p,A',c'⟩=>[(35,.int .i64 (p:Int))]) (fun ⟨p,A',c'⟩=>[ownM 312 1 EA ((P*(T+1))+2) ((P*(T+1))+2) (hdc A' (tlen (joins (bB P T pe xs p))) c'),ragM 314 7 (fun q=>q<(P*(T+1))+2) A' (tlen (joins (bB P T pe xs p))) c' (tcell (joins (bB P T pe xs p)))]) (fun g ⟨p,A',c'⟩=>p≤P∧g+p=P) (P) (0,_,_) ?_ (S.sel [4,0,1,2,3,5,6] G G) (H.keep [35,1,2,4,7,10,11,34] rfl) ?_
 · exact ⟨by omega,by omega⟩
 clear H S a;intro g1 x1 a w1 hp S H K8 k8;obtain ⟨p,A',c'⟩:=x1;dsimp only at hp S H;refine sS H fun K9 k9=>sr 1 G<|sE ?_;intro a H
 refine k9 _ ?_;refine wp_seq_k fun K10 k10=>?_
 refine condL H rfl (fun hc1=>?_) (fun hc1=>?_)
 ·skip
  refine wp_skip ?_;refine k10 _ _ ?_;refine wp_seq_k fun K11 k11=>?_
  refine wp_block ?_;refine sS H fun K12 k12=>sr 2 G<|sE ?_;intro a H
  refine k12 _ ?_;have hpP:p<P:=by omega
  have hb1:p*(2*T+2)≤10*122:=Nat.mul_le_mul (by omega) (by omega)
  have hG:=JG.places (T:=T) (pe:=pe) (xs:=xs) (Nat.le_of_lt hpP)
  have hlen9:=hG.len (by omega)
  replace H:=H.keep [1,2,4,7,10,11,12,34,35] rfl;replace S:=S.drew;refine seq_wq [(0,true),(1,true),(2,true),(3,true),(4,true),(5,true),(6,true),(8,true),(9,true),(10,true),(11,true),(12,true),(7,false),(13,false)] (by kernel_rfl) (by kernel_rfl) (S.sel [2,3,4,5,6] G G) fun K13 k13=>?_
  refine qF H<|qd G (fun _ S=>aF fR rfl (aEh S (i:=1) G G))<|qd G (fun _ S=>aF fR rfl (aEh S (i:=1) G G))<|qr 1 G<|qd G (fun _ S=>(aC qI rfl))<|qd G (fun _ S=>aF aD rfl (aEh S (i:=2) G G))<|qd G (fun _ S=>aF fR rfl (aEh S (i:=1) G G))<|qr 3 G<|qd G (fun _ S=>bG aP aX G G (hpe.adr (by omega)) (by omega))<|qd G (fun _ S=>aF aD rfl (hpe.rd S (by omega) (by omega)))<|qd G (fun _ S=>(aB tO uT rfl S (i:=0) G G))<|qK ?_;intro a H
  refine aT rfl ?_
  have S1:=(S.sel [4] G G)
  refine aA H G G Tryz.func171 G G (lU P T ps PA pc xs XA xc b31 EA p 0 _ _ S1.startR (by omega) (by omega) (by omega)) ?_;clear H a
  rintro _ _ a ⟨rfl,S2⟩ H;replace S:=(S.sel [4,0,1,2,3,5,6] rfl rfl).callR (M:=[_]) S2;clear S1 S2;refine wpList_nil (And.intro (S.sel [3,4,0,5,6] rfl rfl) ?_);refine aT rfl ?_;have S1:=(S.sel [0,1,2] rfl rfl);refine aA H rfl rfl Tryz.func170 rfl rfl (qP (joins (bB P T pe xs p)) ((P*(T+1))+2) b31 (P:Int) (T:Int) _ _ EA A' c' (P*(T+1)) ((P*(T+1))+1) (P*(T+1)) (nd P 0 p) (pe.getD p 0) (-1) 0 0 0 _ _ S1.startR ((qM (T:=T) (pe:=pe) hpP)).2.1 ((qM (T:=T) (pe:=pe) hpP)).2.2 ((qM (T:=T) (pe:=pe) hpP)).1 hlen9) ?_;clear H a;rintro _ _ a ⟨rfl,A2,c2,S2⟩ H;replace S:=(S.sel [0,1,2,3,4,5,6] rfl rfl).callR (M:=[_,_,_]) S2;clear S1 S2;have e9:joinT (joins (bB P T pe xs p)) (P*(T+1)) (nd P 0 p) (pe.getD p 0) ⟨-1,0,0,0⟩=joins ((bB P T pe xs p)++[jBeg P T pe p]):=(jB (bB P T pe xs p) (jBeg P T pe p)).symm;rw [e9] at S;refine wpList_nil (And.intro (S.sel [3,4,0,5,6] rfl rfl) ?_);refine bL ?_;refine k13 _ _ ?_;refine wp_seq_k fun K14 k14=>?_
  replace H:=H.keep [1,2,4,7,10,11,12,34,35] rfl;refine sS H fun K15 k15=>sl S 5 aD G G G<|sr 1 G<|sE ?_;intro a H
  refine k15 _ ?_;refine wp_block ?_;refine loop_st (X:=Nat×(Nat→Option Addr)×(Nat→Nat)) (R0:=_) [1,2,4,7,10,11,12,34,35,52] H rfl (fun ⟨t,A',c'⟩=>[(53,.int .i64 (t:Int))]) (fun ⟨t,A',c'⟩=>[ownM 312 1 EA ((P*(T+1))+2) ((P*(T+1))+2) (hdc A' (tlen (joins ((bB P T pe xs p)++(jBeg P T pe p::cT P p t)))) c'),ragM 314 7 (fun q=>q<(P*(T+1))+2) A' (tlen (joins ((bB P T pe xs p)++(jBeg P T pe p::cT P p t)))) c' (tcell (joins ((bB P T pe xs p)++(jBeg P T pe p::cT P p t))))]) (fun g ⟨t,A',c'⟩=>t≤T∧g+t=T∧JG P T ((bB P T pe xs p)++(jBeg P T pe p::cT P p t)) (p*(2*T+2)+1+t)) (T) (0,_,_) ?_ (S.sel [1,2,0,3,4,5,6] G G) (H.keep [53,1,2,4,7,10,11,12,34,35,52] rfl) ?_
  · exact ⟨by omega,by omega,hG.snoc (qM hpP)⟩
  clear H S a;intro g2 x2 a w2 hp S H K16 k16;obtain ⟨t,A',c'⟩:=x2;dsimp only at hp S H;obtain ⟨htl,hgt,hG2⟩:=hp;refine sS H fun K17 k17=>sr 1 G<|sE ?_;intro a H
  refine k17 _ ?_;refine wp_seq_k fun K18 k18=>?_
  refine condL H rfl (fun hc2=>?_) (fun hc2=>?_)
  ·skip
   refine wp_skip ?_;refine k18 _ _ ?_;refine wp_seq_k fun K19 k19=>?_
   refine wp_block ?_;refine sS H fun K20 k20=>sr 2 G<|sE ?_;intro a H
   refine k20 _ ?_;have htT:t<T:=by omega
   have hlen9:=hG2.len (by omega)
   replace H:=H.keep [1,2,4,7,10,11,12,13,34,35,52,53] rfl;replace S:=S.drew;refine one_wq [(0,true),(1,true),(2,true),(3,true),(5,true),(6,true),(7,true),(8,true),(10,true),(4,false),(9,false),(11,false)] (by kernel_rfl) (by kernel_rfl) (S.sel [2,3,4,5,6] G G) ?_;refine qF H<|qd G (fun _ S=>aF fR rfl (aEh S (i:=2) G G))<|qd G (fun _ S=>aF fR rfl (aEh S (i:=2) G G))<|qr 2 G<|qd G (fun _ S=>aF fR rfl (aEh S (i:=2) G G))<|qr 2 G<|qd G (fun _ S=>aI G G (by unfold i64ok;omega))<|qd G (fun _ S=>(aB tO uT rfl S (i:=1) G G))<|qK ?_;intro a H
   refine aT rfl ?_
   have S1:=(S.sel [2] G G)
   refine aA H G G Tryz.func171 G G (lU P T ps PA pc xs XA xc b31 EA p t _ _ S1.startR (by omega) (by omega) (by omega)) ?_;clear H a
   rintro _ _ a ⟨rfl,S2⟩ H;replace S:=(S.sel [2,0,1,3,4,5,6] rfl rfl).callR (M:=[_]) S2;clear S1 S2;refine wpList_nil (And.intro (S.sel [0,3,4,5,6] rfl rfl) ?_);refine aT rfl ?_;have S1:=(S.sel [0] rfl rfl);refine aA H rfl rfl Tryz.func171 rfl rfl (lU P T ps PA pc xs XA xc b31 EA p (t+1) _ _ S1.startR (by omega) (by omega) (by omega)) ?_;clear H a;rintro _ _ a ⟨rfl,S2⟩ H;replace S:=(S.sel [0,1,2,3,4,5,6] rfl rfl).callR (M:=[_]) S2;clear S1 S2;refine wpList_nil (And.intro (S.sel [0,3,4,5,6] rfl rfl) ?_);refine aT rfl ?_;have S1:=(S.sel [0,1,2] rfl rfl);refine aA H rfl rfl Tryz.func170 rfl rfl (qP (joins ((bB P T pe xs p)++(jBeg P T pe p::cT P p t))) ((P*(T+1))+2) b31 (P:Int) (T:Int) _ _ EA A' c' (P*(T+1)) ((P*(T+1))+1) (nd P t p) (nd P (t+1) p) 1099511627776 (-1) 0 0 0 _ _ S1.startR ((nJ hpP htT)).2.1 ((nJ hpP htT)).2.2 ((nJ hpP htT)).1 hlen9) ?_;clear H a;rintro _ _ a ⟨rfl,A2,c2,S2⟩ H;replace S:=(S.sel [0,1,2,3,4,5,6] rfl rfl).callR (M:=[_,_,_]) S2;clear S1 S2;have e9:joinT (joins ((bB P T pe xs p)++(jBeg P T pe p::cT P p t))) (nd P t p) (nd P (t+1) p) 1099511627776 ⟨-1,0,0,0⟩=joins (((bB P T pe xs p)++(jBeg P T pe p::cT P p t))++[jWait P p t]):=(jB ((bB P T pe xs p)++(jBeg P T pe p::cT P p t)) (jWait P p t)).symm;rw [e9] at S;refine wpList_nil (And.intro (S.sel [0,3,4,5,6] rfl rfl) ?_);refine bL ?_;refine k19 _ _ ?_;replace H:=H.keep [1,2,4,7,10,11,12,34,35,52,53] rfl;refine sO H<|sd (aI rfl rfl (by unfold i64ok;omega))<|sr 1 G<|sE ?_;intro a H
   rw [←vS] at S;exact k16 (g2-1) (t+1,_,_) a _ (by omega) (⟨by omega,by omega,by rw [vS];exact hG2.snoc (nJ hpP htT)⟩) (S.sel [1,2,0,3,4,5,6] G G) (H.keep [53,1,2,4,7,10,11,12,34,35,52] rfl)
  refine wp_exit ?_;refine k14 _ _ ?_;refine seq_list fun K23 k23=>?_
  refine ls 3 H<|sf jK rfl<|sl S 6 bE G G G<|sr 1 G<|sE ?_;intro a H
  refine aA H G G Tryz.func78 G G (fE xs XA xc _ _ (hxs.now S) hxn) ?_;clear H a
  rintro _ _ a ⟨rfl,S2⟩ H;replace S:=S.call S2;clear S2;refine k23 _ _ ?_;refine cond_ H rfl (fun hc3=>?_) (fun hc3=>?_)
  ·skip
   try simp only [oz] at hc3
   have hTt:t=T:=by omega
   rw [hTt] at S hG2;rw [Qu] at S;refine sS H fun K24 k24=>sl S 5 aD G G G<|sd (aI G G (by unfold i64ok;omega))<|sr 1 G<|sE ?_;intro a H
   refine k24 _ ?_;refine wp_block ?_;refine loop_st (X:=Nat×(Nat→Option Addr)×(Nat→Nat)) (R0:=_) [1,2,4,7,10,11,12,34,35,74] H rfl (fun ⟨t,A',c'⟩=>[(75,.int .i64 (t:Int))]) (fun ⟨t,A',c'⟩=>[ownM 312 1 EA ((P*(T+1))+2) ((P*(T+1))+2) (hdc A' (tlen (joins ((bB P T pe xs p)++(jBeg P T pe p::(cT P p T++eX P T p t))))) c'),ragM 314 7 (fun q=>q<(P*(T+1))+2) A' (tlen (joins ((bB P T pe xs p)++(jBeg P T pe p::(cT P p T++eX P T p t))))) c' (tcell (joins ((bB P T pe xs p)++(jBeg P T pe p::(cT P p T++eX P T p t)))))]) (fun g ⟨t,A',c'⟩=>t≤T+1∧g+t=T+1∧JG P T ((bB P T pe xs p)++(jBeg P T pe p::(cT P p T++eX P T p t))) (p*(2*T+2)+1+T+t)) (T+1) (0,_,_) ?_ (S.sel [0,1,2,3,4,5,6] G G) (H.keep [75,1,2,4,7,10,11,12,34,35,74] rfl) ?_
   · exact ⟨by omega,by omega,by rw [←Qu];exact hG2⟩
   clear H S a;intro g3 x3 a w3 hp S H K25 k25;obtain ⟨t,A',c'⟩:=x3;dsimp only at hp S H;obtain ⟨htl,hgt,hG2⟩:=hp;refine sS H fun K26 k26=>sr 1 G<|sE ?_;intro a H
   refine k26 _ ?_;refine wp_seq_k fun K27 k27=>?_
   refine condL H rfl (fun hc4=>?_) (fun hc4=>?_)
   ·skip
    refine wp_skip ?_;refine k27 _ _ ?_;refine wp_seq_k fun K28 k28=>?_
    refine wp_block ?_;refine sS H fun K29 k29=>sr 2 G<|sE ?_;intro a H
    refine k29 _ ?_;have htT:t≤T:=by omega
    have hlen9:=hG2.len (by omega)
    replace H:=H.keep [1,2,4,7,10,11,12,14,34,35,74,75] rfl;replace S:=S.drew;refine one_wq [(0,true),(1,true),(2,true),(3,true),(5,true),(6,true),(7,true),(8,true),(9,true),(4,false),(10,false)] (by kernel_rfl) (by kernel_rfl) (S.sel [2,3,4,5,6] G G) ?_;refine qF H<|qd G (fun _ S=>aF fR rfl (aEh S (i:=2) G G))<|qd G (fun _ S=>aF fR rfl (aEh S (i:=2) G G))<|qr 2 G<|qd G (fun _ S=>aF fR rfl (aEh S (i:=2) G G))<|qr 1 G<|qd G (fun _ S=>(aC vG rfl))<|qd G (fun _ S=>aF aD rfl (aEh S (i:=0) G G))<|qd G (fun _ S=>(aB tO uT rfl S (i:=1) G G))<|qK ?_;intro a H
    refine aT rfl ?_
    have S1:=(S.sel [2] G G)
    refine aA H G G Tryz.func171 G G (lU P T ps PA pc xs XA xc b31 EA p t _ _ S1.startR (by omega) (by omega) (by omega)) ?_;clear H a
    rintro _ _ a ⟨rfl,S2⟩ H;replace S:=(S.sel [2,0,1,3,4,5,6] rfl rfl).callR (M:=[_]) S2;clear S1 S2;refine wpList_nil (And.intro (S.sel [0,3,4,5,6] rfl rfl) ?_);refine aT rfl ?_;have S1:=(S.sel [0,1,2] rfl rfl);refine aA H rfl rfl Tryz.func170 rfl rfl (qP (joins ((bB P T pe xs p)++(jBeg P T pe p::(cT P p T++eX P T p t)))) ((P*(T+1))+2) b31 (P:Int) (T:Int) _ _ EA A' c' (P*(T+1)) ((P*(T+1))+1) (nd P t p) ((P*(T+1))+1) 1099511627776 (-1) 0 0 0 _ _ S1.startR ((nK hpP htT)).2.1 ((nK hpP htT)).2.2 ((nK hpP htT)).1 hlen9) ?_;clear H a;rintro _ _ a ⟨rfl,A2,c2,S2⟩ H;replace S:=(S.sel [0,1,2,3,4,5,6] rfl rfl).callR (M:=[_,_,_]) S2;clear S1 S2;have e9:joinT (joins ((bB P T pe xs p)++(jBeg P T pe p::(cT P p T++eX P T p t)))) (nd P t p) ((P*(T+1))+1) 1099511627776 ⟨-1,0,0,0⟩=joins (((bB P T pe xs p)++(jBeg P T pe p::(cT P p T++eX P T p t)))++[jExit P T p t]):=(jB ((bB P T pe xs p)++(jBeg P T pe p::(cT P p T++eX P T p t))) (jExit P T p t)).symm;rw [e9] at S;refine wpList_nil (And.intro (S.sel [0,3,4,5,6] rfl rfl) ?_);refine bL ?_;refine k28 _ _ ?_;replace H:=H.keep [1,2,4,7,10,11,12,34,35,74,75] rfl;refine sO H<|sd (aI rfl rfl (by unfold i64ok;omega))<|sr 1 G<|sE ?_;intro a H
    rw [←vT] at S;exact k25 (g3-1) (t+1,_,_) a _ (by omega) (⟨by omega,by omega,by rw [vT];exact hG2.snoc (nK hpP htT)⟩) (S.sel [1,2,0,3,4,5,6] G G) (H.keep [75,1,2,4,7,10,11,12,34,35,74] rfl)
   refine wp_exit ?_;refine k11 _ _ ?_;refine sO H<|sd (aI G G (by unfold i64ok;omega))<|sr 1 G<|sE ?_;intro a H
   first|(rw [show t=T+1 by omega,yB hc3] at S)|skip
   exact k8 (g1-1) (p+1,_,_) a _ (by omega) (⟨by omega,by omega⟩) (S.sel [0,1,3,4,2,5,6] G G) (H.keep [35,1,2,4,7,10,11,34] rfl)
  try simp only [oz] at hc3
  have hTt:t=T:=by omega
  rw [hTt] at S;rw [Qw hc3] at S;refine wp_skip ?_;refine k11 _ _ ?_;refine sO H<|sd (aI G G (by unfold i64ok;omega))<|sr 1 G<|sE ?_;intro a H
  first|(rw [show t=T+1 by omega,yB hc3] at S)|skip
  exact k8 (g1-1) (p+1,_,_) a _ (by omega) (⟨by omega,by omega⟩) (S.sel [0,1,3,4,2,5,6] G G) (H.keep [35,1,2,4,7,10,11,34] rfl)
 refine wp_exit ?_;refine k6 _ _ ?_;refine wp_seq_k fun K34 k34=>?_
 refine seq_list fun K35 k35=>?_
 refine ls 2 H<|sd ((aB bW cQ rfl S (i:=6) G G))<|sr 1 G<|sE ?_;intro a H
 refine aA H G G Tryz.func172 G G (xL (P:Int) ps PA pc xs XA xc out _) ?_;clear H a
 rintro _ _ a ⟨b2,b3,rfl,S2⟩ H;replace S:=S.call S2;clear S2;refine k35 _ _ ?_;refine wp_block ?_;replace H:=H.keep [7,10,93] rfl;have hpP:p=P:=by omega
 rw [hpP] at S;rw [aBf (P:=P) (T:=T) (hs:=hds out xs ps) (A:=bB P T pe xs P)] at S;have SB:=St.pack (Ms:=[_,_,_,_,_]) (R:=[_,_,_,_]) (S.sel [7,5,6,2,3,0,1,4,8] G G);refine Nz (cnt:=(hds out xs ps).length) H SB rfl Tryz.func187 G G G G G Pf (fun i=>Hd.cells ((hds out xs ps).getD i aFl)) (fun _=>rfl) Zy (fun _=>rfl) (fun i M=>∃ A' c',M=bun [boxM b7 3 [.int .i64 (T:Int)],boxM b10 267 [.pointer (some ⟨b31,0,none⟩)],boxM b31 291 [.int .i64 (P:Int),.slice PA ps.length pc,.slice XA xs.length xc,.int .i64 (T:Int),.slice EA ((P*(T+1))+2) ((P*(T+1))+2),.int .i64 (((P*(T+1)):Nat):Int),.int .i64 (((P*(T+1))+1:Nat):Int)],ownM 312 1 EA ((P*(T+1))+2) ((P*(T+1))+2) (hdc A' (tlen (joins (bB P T pe xs P++eB P T (hds out xs ps) i))) c'),ragM 314 7 (fun q=>q<(P*(T+1))+2) A' (tlen (joins (bB P T pe xs P++eB P T (hds out xs ps) i))) c' (tcell (joins (bB P T pe xs P++eB P T (hds out xs ps) i)))]) (⟨_,_,rfl⟩) (fun _ _=>True) ?_ ?_ ?_
 ·intro ly Jm M w9 hJ9 S hr9
  have S1:=(S.sel [0,1,2] G G)
  refine sB (Gg (P:Int) ps PA pc xs XA xc out b2 b3 ly Jm M w9 _ hJ9 S1.startR (hps.nowR S1) hpn (hxs.nowR S1) hxn hmv hout (fun i m' x w1 hi hJ SX=>hr9 i m' x _ _ w1 hi hJ trivial SX)) ?_
  rintro _ _ ⟨m',hJ',S2⟩;exact ⟨m',hJ',((S.sel [0,1,2,3,4] rfl rfl).callR (M:=[_,_,_]) S2).sel [0,1,2,3,4] rfl rfl⟩
 ·intro ly i m9 x9 w00 F00 w9 a b15 hi9 hJ9 hIn9 S H
  obtain ⟨A',c',rfl⟩:=hJ9;have hH9:=hhd i hi9;unfold HdOk at hH9;have hcn:=aAp (out:=out) (xs:=xs) (ps:=ps) ps.length;have hb2:i*(T+1)≤48*61:=Nat.mul_le_mul (by unfold hds at hi9;omega) (by omega);have hb3:P*(2*T+2)≤10*122:=Nat.mul_le_mul (by omega) (by omega);replace S:=St.unpack (S.sel [1,0,2] rfl rfl);refine Rd.wp_block ?_;refine Rd.sS H fun K36 k36=>sr 1 G<|sE ?_;intro a H
  refine k36 _ ?_;refine Rd.wp_block ?_;rw [Qv (P:=P) (h:=((hds out xs ps).getD i aFl)) (A:=(bB P T pe xs P++eB P T (hds out xs ps) i))] at S;refine Rd.loop_st (X:=Nat×(Nat→Option Addr)×(Nat→Nat)) (R0:=_) [7,10,15] H rfl (fun ⟨t,A',c'⟩=>[(16,.int .i64 (t:Int))]) (fun ⟨t,A',c'⟩=>[ownM 312 1 EA ((P*(T+1))+2) ((P*(T+1))+2) (hdc A' (tlen (joins ((bB P T pe xs P++eB P T (hds out xs ps) i)++gK P ((hds out xs ps).getD i aFl) t))) c'),ragM 314 7 (fun q=>q<(P*(T+1))+2) A' (tlen (joins ((bB P T pe xs P++eB P T (hds out xs ps) i)++gK P ((hds out xs ps).getD i aFl) t))) c' (tcell (joins ((bB P T pe xs P++eB P T (hds out xs ps) i)++gK P ((hds out xs ps).getD i aFl) t)))]) (fun g ⟨t,A',c'⟩=>t≤T+1-((hds out xs ps).getD i aFl).ticks.toNat∧g+t=T+1-((hds out xs ps).getD i aFl).ticks.toNat∧JG P T ((bB P T pe xs P++eB P T (hds out xs ps) i)++gK P ((hds out xs ps).getD i aFl) t) (P*(2*T+2)+i*(T+1)+t)) (T+1-((hds out xs ps).getD i aFl).ticks.toNat) (0,_,_) ?_ (S.sel [3,4,0,1,2,5,6] G G) (H.keep [16,7,10,15] rfl) ?_
  · exact ⟨by omega,by omega,by rw [←Qv];exact ⟨fun j hj=>(List.mem_append.1 hj).elim (fun h=>oZ (Nat.le_refl _) j h) (fun h=>xX hhd (Nat.le_of_lt hi9) j h),by rw [List.length_append,Nat.add_zero];exact Nat.add_le_add (sZ P) (Fx i)⟩⟩
  clear H S a;intro g4 x4 a w4 hp S H K37 k37;obtain ⟨t,A',c'⟩:=x4;dsimp only at hp S H;obtain ⟨htl,hgt,hG2⟩:=hp;refine Rd.wp_seq_k fun K38 k38=>?_
  refine Rd.sS H fun K39 k39=>sr 1 G<|sf Cj rfl<|sl S 5 aD G G G<|sd (aI G G (by unfold i64ok;omega))<|sl S 2 aD G G G<|sr 1 G<|sE ?_;intro a H
  refine k39 _ ?_;refine Rd.condG H rfl (fun hc5=>?_) (fun hc5=>?_)
  ·skip
   refine Rd.wp_skip ?_
   refine k38 _ _ ?_;refine Rd.wp_seq_k fun K40 k40=>?_
   refine Rd.wp_block ?_
   have htT:t+((hds out xs ps).getD i aFl).ticks.toNat≤T:=by omega
   have hlen9:=hG2.len (by omega)
   replace H:=H.keep [7,10,15,16] rfl;replace S:=S.drew;refine Rd.one_wq [(0,true),(1,true),(2,true),(3,true),(4,true),(6,true),(7,true),(8,true),(9,true),(10,true),(11,true),(12,true),(14,true),(15,true),(16,true),(17,true),(18,true),(19,true),(20,true),(21,true),(5,false),(13,false),(22,false)] (by kernel_rfl) (by kernel_rfl) (S.sel [2,3,4,5,6] G G) ?_;refine qF H<|qd G (fun _ S=>aF fR rfl (aEh S (i:=1) G G))<|qd G (fun _ S=>aF fR rfl (aEh S (i:=1) G G))<|qd G (fun _ S=>(aC Ci rfl))<|qd G (fun _ S=>aF aD rfl (aEh S (i:=3) G G))<|qr 1 G<|qd G (fun _ S=>aF fR rfl (aEh S (i:=1) G G))<|qd G (fun _ S=>(aC Oo rfl))<|qd G (fun _ S=>aF aD rfl (aEh S (i:=3) G G))<|qr 1 G<|qd G (fun _ S=>(aC Cj rfl))<|qd G (fun _ S=>aF aD rfl (aEh S (i:=3) G G))<|qd G (fun _ S=>(aI G G (by unfold i64ok;omega)).to (v' := .int .i64 ((t+((hds out xs ps).getD i aFl).ticks.toNat:Nat):Int)) (by congr 1;omega))<|qd G (fun _ S=>(aC Oq rfl))<|qd G (fun _ S=>aF aD rfl (aEh S (i:=3) G G))<|qd G (fun _ S=>(aC On rfl))<|qd G (fun _ S=>aF aD rfl (aEh S (i:=3) G G))<|qd G (fun _ S=>(aC Ci rfl))<|qd G (fun _ S=>aF aD rfl (aEh S (i:=3) G G))<|qr 1 G<|qd G (fun _ S=>aN Fp G G)<|qK ?_;intro a H
   refine aT rfl ?_
   have S1:=(S.sel [4] G G)
   refine aA H G G Tryz.func171 G G (yC P T ps PA pc xs XA xc b31 EA ((hds out xs ps).getD i aFl).fr t _ _ S1.startR (by omega) (by omega) (by omega)) ?_;clear H a
   rintro _ _ a ⟨rfl,S2⟩ H;replace S:=(S.sel [4,0,1,2,3,5,6] rfl rfl).callR (M:=[_]) S2;clear S1 S2;refine wpList_nil (And.intro (S.sel [3,4,0,5,6] rfl rfl) ?_);refine aT rfl ?_;have S1:=(S.sel [0] rfl rfl);refine aA H rfl rfl Tryz.func171 rfl rfl (yC P T ps PA pc xs XA xc b31 EA ((hds out xs ps).getD i aFl).to (t+((hds out xs ps).getD i aFl).ticks.toNat) _ _ S1.startR (by omega) (by omega) (by omega)) ?_;clear H a;rintro _ _ a ⟨rfl,S2⟩ H;replace S:=(S.sel [0,1,2,3,4,5,6] rfl rfl).callR (M:=[_]) S2;clear S1 S2;refine wpList_nil (And.intro (S.sel [3,4,0,5,6] rfl rfl) ?_);refine aT rfl ?_;have S1:=(S.sel [0,1,2] rfl rfl);refine aA H rfl rfl Tryz.func170 rfl rfl (qP (joins ((bB P T pe xs P++eB P T (hds out xs ps) i)++gK P ((hds out xs ps).getD i aFl) t)) ((P*(T+1))+2) b31 (P:Int) (T:Int) _ _ EA A' c' (P*(T+1)) ((P*(T+1))+1) (nd P t ((hds out xs ps).getD i aFl).fr.toNat) (nd P (t+((hds out xs ps).getD i aFl).ticks.toNat) ((hds out xs ps).getD i aFl).to.toNat) ((hds out xs ps).getD i aFl).wide ((hds out xs ps).getD i aFl).pas ((hds out xs ps).getD i aFl).fr (t:Int) 0 _ _ S1.startR ((nL (T:=T) (show ((hds out xs ps).getD i aFl).fr.toNat<P by omega) (show ((hds out xs ps).getD i aFl).to.toNat<P by omega) (show 1≤((hds out xs ps).getD i aFl).ticks.toNat by omega) htT)).2.1 ((nL (T:=T) (show ((hds out xs ps).getD i aFl).fr.toNat<P by omega) (show ((hds out xs ps).getD i aFl).to.toNat<P by omega) (show 1≤((hds out xs ps).getD i aFl).ticks.toNat by omega) htT)).2.2 ((nL (T:=T) (show ((hds out xs ps).getD i aFl).fr.toNat<P by omega) (show ((hds out xs ps).getD i aFl).to.toNat<P by omega) (show 1≤((hds out xs ps).getD i aFl).ticks.toNat by omega) htT)).1 hlen9) ?_;clear H a;rintro _ _ a ⟨rfl,A2,c2,S2⟩ H;replace S:=(S.sel [0,1,2,3,4,5,6] rfl rfl).callR (M:=[_,_,_]) S2;clear S1 S2;have e9:joinT (joins ((bB P T pe xs P++eB P T (hds out xs ps) i)++gK P ((hds out xs ps).getD i aFl) t)) (nd P t ((hds out xs ps).getD i aFl).fr.toNat) (nd P (t+((hds out xs ps).getD i aFl).ticks.toNat) ((hds out xs ps).getD i aFl).to.toNat) ((hds out xs ps).getD i aFl).wide ⟨((hds out xs ps).getD i aFl).pas,((hds out xs ps).getD i aFl).fr,(t:Int),0⟩=joins (((bB P T pe xs P++eB P T (hds out xs ps) i)++gK P ((hds out xs ps).getD i aFl) t)++[jHead P ((hds out xs ps).getD i aFl) t]):=(jB ((bB P T pe xs P++eB P T (hds out xs ps) i)++gK P ((hds out xs ps).getD i aFl) t) (jHead P ((hds out xs ps).getD i aFl) t)).symm;rw [e9] at S;refine wpList_nil (And.intro (S.sel [3,4,0,5,6] rfl rfl) ?_);refine bL ?_;refine k40 _ _ ?_;replace H:=H.keep [7,10,15,16] rfl;refine Rd.sO H<|sr 1 G<|sd (aI rfl rfl (by unfold i64ok;omega))<|sr 1 G<|sE ?_;intro a H
   rw [←vU] at S;exact k37 (g4-1) (t+1,_,_) a _ (by omega) (⟨by omega,by omega,by rw [vU];exact hG2.snoc (nL (by omega) (by omega) (by omega) (by omega))⟩) (S.sel [1,2,3,4,0,5,6] G G) (H.keep [16,7,10,15] rfl)
  refine Rd.wp_exit ?_
  rw [show t=T+1-((hds out xs ps).getD i aFl).ticks.toNat by omega,List.append_assoc] at S;exact ⟨_,⟨_,_,rfl⟩,St.pack (Ms:=[_,_,_,_,_]) (R:=[_]) (S.sel [2,3,4,0,1,6] G G)⟩
 intro D m9 w9 a hJ9 S H;obtain ⟨A',c',rfl⟩:=hJ9;replace S:=St.unpack (S.sel [1,0,2,3,4,5] rfl rfl);refine k34 _ _ ?_;refine sS H fun K43 k43=>sl S 1 fR rfl rfl rfl<|sr 1 G<|sE ?_;intro a H
 refine k43 _ ?_;refine wp_ret ?_;refine retC1 (fn:=Tryz.f141) rfl H S (i:=5) G G (fun _ S=>?_);exact ⟨_,_,_,_,rfl,(S.sel [2,3,4] G G)⟩
end
end Go.Proofs.YtinghmelkmblmaaGreat
