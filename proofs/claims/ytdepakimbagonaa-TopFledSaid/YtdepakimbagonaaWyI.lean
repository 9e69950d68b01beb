/- WyI. Printed by gen.py. -/
import Derived.Test.YtdepakimbagonaaWyH
import Derived.Test.YtdepakimbagonaaE4
namespace Go.Proofs.Ytdepakimbagonaa
open Go.RowKit
set_option linter.unusedVariables false
set_option linter.unusedSimpArgs false
set_option maxRecDepth 100000
set_option maxHeartbeats 4000000


theorem sumI_bd {l : List Int} (h : ∀ k, k < l.length → 0 ≤ l.getD k 0 ∧ l.getD k 0 ≤ 1000) : ∀ k, k ≤ l.length → 0 ≤ sumI l k ∧ sumI l k ≤ 1000 * k := by
  intro k
  induction k with
  | zero => intro _; simp [sumI, sm]
  | succ k ih =>
    intro hk
    have h1 := ih (by omega)
    have h2 := h k (by omega)
    unfold sumI at *
    rw [sm]
    push_cast
    omega
theorem ways_lay2 (P T : Nat) (ps : List Psg) (PA : Option Addr) (pc : Nat) (xs : List Int) (XA : Option Addr) (xc : Nat) (out : Int) (pe : List Int) (BA : Option Addr) (bc : Nat) (w : World) (hps : InS w noF 7 PA ps.length (pcell ps)) (hpn : ps.length ≤ 9223372036854775807) (hxs : InS w noF 1 XA xs.length (icl xs)) (hxn : xs.length ≤ 9223372036854775807) (hpe : InS w noF 1 BA pe.length (icl pe)) (hpl : pe.length = P) (hV : StV P ps xs) (hou : 0 ≤ out ∧ out ≤ 4095) (hpp : ∀ k, k < pe.length → 0 ≤ pe.getD k 0 ∧ pe.getD k 0 ≤ 1000) (hT : T ≤ 60) :
    Calls Try.prog 43 [.agg [.int .i64 (P : Int), .slice PA ps.length pc, .slice XA xs.length xc].toArray, .int .i64 out, .slice BA pe.length bc, .int .i64 (T : Int)].toArray w (Ret fun u w' => ∃ b31 EA A' c', u = .pointer (some ⟨b31, 0, none⟩) ∧ St w noF [boxM b31 114 [.int .i64 (P : Int), .slice PA ps.length pc, .slice XA xs.length xc, .int .i64 (T : Int), .slice EA (layN P T pe xs (hds out xs ps)).k (layN P T pe xs (hds out xs ps)).k, .int .i64 (((P * (T + 1)) : Nat) : Int), .int .i64 (((P * (T + 1)) + 1 : Nat) : Int)], ownM 115 1 EA (layN P T pe xs (hds out xs ps)).k (layN P T pe xs (hds out xs ps)).k (hdc A' (layN P T pe xs (hds out xs ps)).n c'), ragM 117 7 (fun q => q < (layN P T pe xs (hds out xs ps)).k) A' (layN P T pe xs (hds out xs ps)).n c' (edgeC (layN P T pe xs (hds out xs ps)) (layT P T pe xs (hds out xs ps)).room (layT P T pe xs (hds out xs ps)).mv)] w') := by
  have h := ways_lay P T ps PA pc xs XA xc out pe BA bc w hps hpn hxs hxn (fun k hk h3 => by have := psgOk_iff.1 (hV.pas k hk); omega) hou.1 hpe hpl (by have := hV.size; omega) hT hV.size.2.2 (hds_ok hV)
  refine w8ret_imp h fun u w' ⟨b31, EA, A', c', h1, S⟩ => ⟨b31, EA, A', c', h1, ?_⟩
  rw [tcell_edge (joins (jAll P T pe xs (hds out xs ps))) (P * (T + 1) + 2)] at S
  exact S


end Go.Proofs.Ytdepakimbagonaa
