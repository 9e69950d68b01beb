/- A queue of numbers: a slice that is cut in front and lengthened behind. -/
import Derived.Test.YtlmddkekeoebcaaMet
import Derived.ArgAppend
namespace Go.Proofs.Ytlmddkekeoebcaa
set_option linter.unusedVariables false
set_option linter.unusedSimpArgs false
open Go.RowKit

def queM (e : TypeId) (A : Option Addr) (n c : Nat) (f : Nat → Int) : Mem where
  fp := fun k => ∃ a, A = some a ∧ a.block = k
  holds := fun w => ∃ (b o : Nat) (cs : Array Value), A = some ⟨b, o, none⟩ ∧ w.heap[b]? = some (.cells cs e (0, 0)) ∧ n ≤ c ∧ c ≤ maxLen ∧ (0 < c → o + c ≤ cs.size) ∧ ∀ k, k < n → cs[o + k]? = some (.int .i64 (f k))
  stable := fun _ _ h ⟨b, o, cs, hA, hb, h'⟩ => ⟨b, o, cs, hA, (h b ⟨_, hA, rfl⟩).trans hb, h'⟩

section
variable {P : Program} {ops : Array Oper} {w w0 : World} {F0 F : Nat → Prop} {R : List Mem} {Q : Exit → Act → World → Prop} {rest : List Oper} {N : FN} {L : List (Nat × Value)} {a : Act} {ty : TypeId} {pos : String} {af : Array Edge}
variable {e n c i : Nat} {A : Option Addr} {f : Nat → Int}

theorem queM.rd {k : Nat} (S : St w0 F0 R w) (hi : R[i]? = some (queM e A n c f)) (hk : k < n) : w.cell? (pt A 1 k 0) = some (.int .i64 (f k)) := by
  obtain ⟨b, o, cs, rfl, hb, _, _, _, hc⟩ := S.holds hi
  have : pt (some ⟨b, o, none⟩) 1 k 0 = ⟨b, o + k, none⟩ := by simp [pt, adr]
  rw [this, cell_of_row w b (o + k) cs e (0, 0) hb]
  exact hc k hk
theorem queM.adr (S : St w0 F0 R w) (hi : R[i]? = some (queM e A n c f)) : A = some ⟨(adr A).block, (adr A).off, none⟩ := by
  obtain ⟨b, o, cs, rfl, _⟩ := S.holds hi
  rfl
theorem queM.of_own {cell : Nat → Nat → Value} (S : St w0 F0 R w) (hi : R[i]? = some (ownM e 1 A n c cell)) (hn : 0 < n) (hf : ∀ k, k < n → cell k 0 = .int .i64 (f k)) : St w0 F0 (R.set i (queM e A n c f)) w := by
  refine S.imp hi ?_ (fun _ h => h)
  rintro (⟨_, h, _⟩ | ⟨b, cs, rfl, hb, h1, h2, h3, hc⟩)
  · omega
  · refine ⟨b, 0, cs, rfl, hb, h1, h2, fun _ => by omega, fun k hk => ?_⟩
    have := hc k 0 hk (by omega)
    rw [Nat.zero_add, ← hf k hk, ← this]; simp
theorem queM.congr {f' : Nat → Int} (S : St w0 F0 R w) (hi : R[i]? = some (queM e A n c f)) (h : ∀ k, k < n → f k = f' k) : St w0 F0 (R.set i (queM e A n c f')) w := by
  refine S.imp hi ?_ (fun _ h => h)
  rintro ⟨b, o, cs, hA, hb, h1, h2, h3, hc⟩
  exact ⟨b, o, cs, hA, hb, h1, h2, h3, fun k hk => by rw [← h k hk]; exact hc k hk⟩
theorem queM.le (S : St w0 F0 R w) (hi : R[i]? = some (queM e A n c f)) : n ≤ c ∧ c ≤ maxLen := by
  obtain ⟨b, o, cs, rfl, _, h1, h2, _⟩ := S.holds hi
  exact ⟨h1, h2⟩
theorem cutA_fp {A : Option Addr} {c lo sz k : Nat} : (∃ a, cutA A c lo sz = some a ∧ a.block = k) ↔ (∃ a, A = some a ∧ a.block = k) := by
  unfold cutA
  split
  · exact Iff.rfl
  · cases A with
    | none => simp
    | some a => simp [Addr.add]; split <;> rfl
/-- The first one is taken off. -/
theorem queM.cut1 (S : St w0 F0 R w) (hi : R[i]? = some (queM e A n c f)) (hn : 0 < n) : St w0 F0 (R.set i (queM e (cutA A c 1 1) (n - 1) (c - 1) (fun k => f (k + 1)))) w := by
  refine S.imp hi ?_ (fun _ h => cutA_fp.1 h)
  rintro ⟨b, o, cs, rfl, hb, h1, h2, h3, hc⟩
  by_cases h : c = 1
  · subst h
    exact ⟨b, o, cs, by simp [cutA], hb, by omega, by omega, fun h => by omega, fun k hk => by omega⟩
  · refine ⟨b, o + 1, cs, by simp [cutA, h, add_lit], hb, by omega, by omega, fun h0 => ?_, fun k hk => ?_⟩
    · have := h3 (by omega); omega
    · have := hc (k + 1) (by omega)
      rw [show o + 1 + k = o + (k + 1) by omega]
      exact this
theorem setCell_heap (w : World) (b o : Nat) (v : Value) (cs : Array Value) (e : TypeId) (hb : w.heap[b]? = some (.cells cs e (0, 0))) : (w.setCell ⟨b, o, none⟩ v).heap[b]? = some (.cells (cs.setIfInBounds o v) e (0, 0)) := by
  simp [World.setCell, Array.getElem?_modify, hb]
theorem setCell_keeps (w : World) (b o : Nat) (v : Value) : Keeps w (w.setCell ⟨b, o, none⟩ v) (fun k => k = b) := by
  refine ⟨rfl, rfl, rfl, by simp [World.setCell], fun k hk hf => ?_⟩
  simp only [World.setCell, Array.getElem?_modify]
  rw [if_neg (fun e => hf e.symm)]
/-- One number more. -/
theorem list_push {d t by_ c' : Nat} {x y : Operand} {z : List Value} {B : Option Addr} {cell' : Nat → Nat → Value} {v : Int} (H : Fr N L a) (hd : Nat.blt d N.n = true) (S : St w0 F0 R w) (ht : SlT P t e) (hs : Sz P e 1) (hz : Zero P e z) (hby : Bytes P e by_) (hzs : Nat.beq z.length 1 = true)
    (hi : R[i]? = some (queM e A n c f)) (hx : ev L x = some (.slice A n c)) (hy : ev L y = some (.slice B 1 c')) (hB : InS w noF 1 B 1 cell') (hv : cell' 0 0 = .int .i64 v)
    (hlen : (n + 1) * by_ ≤ 140737488355328) (hlen2 : n + 1 ≤ 9223372036854775807)
    (k : ∀ A' c1 w' a', St w0 F0 (R.set i (queM e A' (n + 1) c1 (fun k => if k = n then v else f k))) w' → Fr N ((d, .slice A' (n + 1) c1) :: L) a' → wpList P ops Q rest a' w') :
    wpList P ops Q (⟨some d, .call ⟨.builtin .append, #[x, y], #[t, t]⟩, ty, pos, af, none⟩ :: rest) a w := by
  obtain ⟨b, o, cs, rfl, hb, h1, h2, h3, hc⟩ := S.holds hi
  obtain ⟨b', o', rfl, hb', _, hc'⟩ := hB (by omega)
  have hcell := hc' 0 0 (by omega) (by omega)
  rw [hv] at hcell
  simp only [Nat.zero_mul, Nat.add_zero] at hcell
  unfold Zero at hz
  unfold Sz at hs
  unfold Bytes at hby
  cases hin : P.info? e with
  | none => rw [hin] at hz; simp at hz
  | some inf =>
    rw [hin] at hz hs hby
    simp at hz hs hby
    obtain ⟨zv, hz1, hz2⟩ := hz
    have hzsz : zv.cells.size = 1 := by have := Nat.eq_of_beq_eq_true hzs; rw [← hz2] at this; simpa using this
    have hold : ∀ (j : Nat) u, ((List.range n).map fun k => Value.int .i64 (f k))[j]? = some u → w.cell? ⟨b, o + j, none⟩ = some u := by
      intro j u hu
      have hj : j < n := by have := (List.getElem?_eq_some_iff.1 hu).1; simpa using this
      rw [cell_of_row w b (o + j) cs e (0, 0) hb, hc j hj]
      rw [List.getElem?_map, List.getElem?_range hj] at hu
      simpa using hu
    refine wpList_append_arg (P := P) w rfl x y t rfl e inf zv 1 by_ ht hin hz1 hs hby hzsz (by omega) b o n c ((List.range n).map fun k => Value.int .i64 (f k)) (H.eval hx) (by simp) hold ⟨b', o', none⟩ 1 c' [.int .i64 v] (H.eval hy) (by simp)
      (fun j u hj => by
        have hj0 : j = 0 := by have := (List.getElem?_eq_some_iff.1 hj).1; simp at this; omega
        subst hj0
        simp at hj
        subst hj
        rw [add_lit]; simpa using hcell) (by simp [Value.oneCell'])
      (fun hr j hj => by
        have hlt : o + n * 1 + j < cs.size := by have := h3 (by omega); simp at hj; omega
        refine ⟨?_, ?_⟩
        · rw [cell_of_row w b _ cs e (0, 0) hb, Array.getElem?_eq_getElem hlt]; rfl
        · simp [World.frozen?, hb]) (by simp only [maxLen]; omega) hlen ?_ ?_
    · intro hr
      have hlt : o + n < cs.size := by have := h3 (by omega); omega
      have e1 : w.setCells b (o + n * 1) [Value.int .i64 v] = w.setCell ⟨b, o + n, none⟩ (.int .i64 v) := by rw [Nat.mul_one]; rfl
      rw [e1]
      refine k (some ⟨b, o, none⟩) c _ _ (S.updSame hi ((setCell_keeps w b (o + n) _).mono ?_) ?_ (fun _ h => h)) (H.put _ hd)
      · rintro q rfl; exact ⟨_, rfl, rfl⟩
      · refine ⟨b, o, _, rfl, setCell_heap w b (o + n) _ cs e hb, hr, h2, fun h0 => by simpa using h3 h0, fun q hq => ?_⟩
        show _ = some (Value.int .i64 (if q = n then v else f q))
        by_cases hqn : q = n
        · subst hqn
          rw [if_pos rfl, Array.getElem?_setIfInBounds_self_of_lt hlt]
        · rw [if_neg hqn, Array.getElem?_setIfInBounds_ne (by omega)]
          exact hc q (by omega)
    · intro hg v' w' hown hgr
      obtain ⟨A', c1, rfl, h6, h7⟩ := of_owns (cell := fun q _ => .int .i64 (if q = n then v else f q)) (n := n + 1) (e := e) (sz := 1) (w := w') (v := v') (xs := ((List.range n).map fun k => Value.int .i64 (f k)) ++ [.int .i64 v])
        (by
          obtain ⟨x1, x2⟩ := hown
          refine ⟨x1, x2.imp (fun h => h) ?_⟩
          rintro ⟨g, cap, cur, y1, y2, y3⟩
          exact ⟨g, cap, cur, y1, Nat.zero_le _, y3⟩)
        (fun q j hq hj => by
          have hj0 : j = 0 := by omega
          subst hj0
          simp only [Nat.mul_one, Nat.add_zero]
          by_cases hqn : q = n
          · subst hqn
            rw [List.getElem?_append_right (by simp)]
            simp
          · rw [List.getElem?_append_left (by simp; omega), List.getElem?_map, List.getElem?_range (by omega), if_neg hqn]
            rfl)
      rcases h6 with ⟨_, h, _⟩ | ⟨b9, cs9, rfl, hb9, k1, k2, k3, k4⟩
      · omega
      have hnew : w.heap.size ≤ b9 ∧ b9 < w'.heap.size := by
        refine ⟨?_, lt_of_heap hb9⟩
        obtain ⟨x1, x2⟩ := hown
        rcases x2 with ⟨y1, y2⟩ | ⟨g, cap, cur, y1, y2, y3⟩
        · omega
        · injection y1 with z1 z2 z3
          injection z1 with z1
          injection z1 with z1
          omega
      refine k (some ⟨b9, 0, none⟩) c1 _ _ (S.upd hi (Keeps.of_grown hgr |>.mono (fun q hq => by cases hq)) ?_ ?_) (H.put _ hd)
      · refine ⟨b9, 0, cs9, rfl, hb9, k1, k2, fun _ => by omega, fun q hq => ?_⟩
        have := k4 q 0 hq (by omega)
        rw [Nat.zero_add]
        simpa using this
      · rintro q ⟨aa, h9, rfl⟩
        cases h9
        exact .inr hnew
end
end Go.Proofs.Ytlmddkekeoebcaa
