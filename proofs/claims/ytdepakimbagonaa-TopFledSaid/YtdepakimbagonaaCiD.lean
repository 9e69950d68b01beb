/- CiD. Printed by gen.py. -/
import Derived.Test.YtdepakimbagonaaCiC
namespace Go.Proofs.Ytdepakimbagonaa
open Go.RowKit
set_option linter.unusedVariables false
set_option linter.unusedSimpArgs false
set_option maxRecDepth 100000
set_option maxHeartbeats 4000000


theorem bthree {b0 b1 b2 : Bool} {v0 v1 v2 : Value} (h0 : v0 = .bool b0) (h1 : v1 = .bool b1) (h2 : v2 = .bool b2) : ∀ k j, k < 3 → j < 1 → ([[v0], [v1], [v2]].getD k []).getD j undef = bcl [b0, b1, b2] k j := by
  subst h0; subst h1; subst h2
  intro k j hk hj
  obtain rfl : j = 0 := by omega
  rcases (show k = 0 ∨ k = 1 ∨ k = 2 by omega) with rfl | rfl | rfl <;> rfl


theorem cir_Check1 (hz : Int) (sw : List Int) (SA : Option Addr) (sc : Nat) (ws : List Wr) (QA : Option Addr) (qc cb : Nat) (n : Int) (w : World) (F : Nat → Prop) (S : St w F [boxM cb 85 [.int .i64 hz, .slice SA sw.length sc, .slice QA ws.length qc]] w) (hhz : 0 ≤ hz ∧ hz ≤ 12) :
    Calls Try.prog 82 [.int .i64 n, .pointer (some ⟨cb, 0, none⟩)].toArray w (Ret (fun u w' => u = .bool (!setB n hz) ∧ St w F [boxM cb 85 [.int .i64 hz, .slice SA sw.length sc, .slice QA ws.length qc]] w')) := by
 refine enter Try.func82 rfl Try.ntmps82 rfl (fun a H => ?_)
 skip
 refine sS H fun K1 k1=>sr 1 rfl <| sE ?_;clear H a;intro a H
 refine k1 _ ?_;clear k1 K1
 refine seq_list fun K2 k2 => ?_
 refine ls 3 H <| sr 1 rfl <| sf fo_85_0 rfl <| sl S 0 one_3 rfl rfl rfl <| sE ?_;clear H a;intro a H
 refine list_call H rfl rfl Try.func83 rfl rfl (cir_isSet n hz _ hhz) ?_;clear H a
 rintro _ _ a ⟨rfl, S2⟩ H
 replace S := S.call S2;clear S2
 refine ls 2 H <| sr 2 rfl <| sE ?_;clear H a;intro a H
 refine k2 _ _ ?_;clear k2 K2
 refine wp_ret ?_
 refine ret1 (fn := Try.f82) rfl H rfl ?_
 exact ⟨rfl, (S.sel [0] rfl rfl)⟩

theorem cir_CF3 (hz : Int) (sw : List Int) (SA : Option Addr) (sc : Nat) (ws : List Wr) (QA : Option Addr) (qc cb : Nat) (w : World) (F : Nat → Prop) (S : St w F [boxM cb 85 [.int .i64 hz, .slice SA sw.length sc, .slice QA ws.length qc]] w) (hsw : InS w F 1 SA sw.length (icl sw)) (hn : sw.length ≤ 9223372036854775807) (hhz : 0 ≤ hz ∧ hz ≤ 12) : Calls Try.prog 81 #[.slice SA sw.length sc, .func (.func 82) #[] #[.pointer (some ⟨cb, 0, none⟩)]] w (Ret fun u w' => u = .bool (sw.any fun n => !setB n hz) ∧ St w F [boxM cb 85 [.int .i64 hz, .slice SA sw.length sc, .slice QA ws.length qc]] w') := by
  have hh := cir_ContainsFunc sw SA sc 82 _ [] [.pointer (some ⟨cb, 0, none⟩)] (fun n => !setB n hz) _ w F S hsw hn Try.func82 rfl rfl (fun k w' hk S' => cir_Check1 hz sw SA sc ws QA qc cb (sw.getD k 0) w' _ S'.startR hhz)
  exact hh
theorem cir_CF4 (l : List Int) (A : Option Addr) (cp : Nat) (w : World) (hl : InS w noF 1 A l.length (icl l)) (hn : l.length ≤ 9223372036854775807) : Calls Try.prog 81 #[.slice A l.length cp, .func (.func 85) #[] #[]] w (Ret fun u w' => u = .bool (l.any fun n => !decide (n = 1)) ∧ St w noF [] w') := by
  have S0 := (St.start w).newNil 3 1 (icl [])
  have hh := cir_ContainsFunc l A cp 85 _ [] [] (fun n => !decide (n = 1)) _ w noF S0 hl hn Try.func85 rfl rfl (fun k w' hk S' => ret_impC (cir_Check2 (l.getD k 0) w') fun v w'' h => ⟨h.1, S'.startR.call h.2⟩)
  exact ret_impC hh fun v w'' h => ⟨h.1, h.2.sel [] rfl rfl⟩


end Go.Proofs.Ytdepakimbagonaa
