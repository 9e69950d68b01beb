/- Slice expressions, copy, conversions; cells said otherwise. -/
import Derived.Test.YtlmddkekeoebcaaDraw
namespace Go.Proofs.Ytlmddkekeoebcaa
set_option linter.unusedVariables false
set_option linter.unusedSimpArgs false
open Go.RowKit

/-- The address of s[lo:] (Go leaves it where nothing is behind). -/
def cutA (A : Option Addr) (c lo sz : Nat) : Option Addr := if c = lo then A else A.map (·.add (lo * sz))

section
variable {P : Program} {ops : Array Oper} {w w0 : World} {F0 F : Nat → Prop} {R : List Mem} {Q : Exit → Act → World → Prop} {rest : List Oper} {N : FN} {L : List (Nat × Value)} {a : Act} {ty : TypeId} {pos : String} {af : Array Edge} {d : Option Nat} {g : Option (Nat × Bool)}

theorem run_slice {t e sz : Nat} {A : Option Addr} {n c lo hi : Nat} {vl vh : Option Value} (ht : SlT P t e) (hs : Sz P e sz) (hlo : vl = none ∧ lo = 0 ∨ ∃ k, vl = some (.int k (lo : Int))) (hhi : vh = none ∧ hi = n ∨ ∃ k, vh = some (.int k (hi : Int))) (h1 : lo ≤ hi) (h2 : hi ≤ c) :
    (Instr.sliceAt t (.slice A n c) vl vh none).run P w = .ok (.slice (cutA A c lo sz) (hi - lo) (c - lo)) w := by
  have hb : (Instr.sliceBounds true n c vl vh none).run P w = .ok (lo, hi, c) w := by
    have e1 : (0 : Int) ≤ (lo : Int) ∧ (lo : Int) ≤ (hi : Int) := ⟨by omega, by omega⟩
    have e2 : (0 : Int) ≤ (hi : Int) ∧ (hi : Int) ≤ (c : Int) := ⟨by omega, by omega⟩
    rcases hlo with ⟨rfl, rfl⟩ | ⟨k, rfl⟩ <;> rcases hhi with ⟨rfl, rfl⟩ | ⟨k', rfl⟩ <;> simp [Instr.sliceBounds, Instr.sliceBound, asIntOf, h1, h2]
  have hst : Instr.sliceAt t (.slice A n c) vl vh none = (do
      match ← underlying t with
      | .array n elem =>
        let a ← Instr.sureAddr (.slice A n c)
        let (l, h, m) ← Instr.sliceBounds false n n vl vh none
        let size ← sizeOf elem
        pure (.slice (some (if m = l then a else a.add (l * size))) (h - l) (m - l))
      | _ => Instr.slice t (.slice A n c) vl vh none) := rfl
  rw [hst]
  simp only [Sem.run_bind, run_und ht, Result.andThen_ok, Instr.slice, hb, hs.run, Sem.run_pure, cutA]

theorem does_slice {t e sz : Nat} {x : Operand} {xl xh : Option Operand} {A : Option Addr} {n c lo hi : Nat} (ht : SlT P t e) (hs : Sz P e sz) (hx : ev L x = some (.slice A n c))
    (hlo : xl = none ∧ lo = 0 ∨ ∃ y, xl = some y ∧ ∃ k, ev L y = some (.int k (lo : Int))) (hhi : xh = none ∧ hi = n ∨ ∃ y, xh = some y ∧ ∃ k, ev L y = some (.int k (hi : Int))) (h1 : lo ≤ hi) (h2 : hi ≤ c) :
    Does P L ⟨d, .slice t x xl xh none, ty, pos, af, g⟩ w (.slice (cutA A c lo sz) (hi - lo) (c - lo)) := fun ρ hρ => by
  have hr := run_slice (P := P) (w := w) (A := A) (n := n) (c := c) (lo := lo) (hi := hi) (vl := xl.map ρ) (vh := xh.map ρ) ht hs
    (by rcases hlo with ⟨rfl, rfl⟩ | ⟨y, rfl, k, hy⟩
        · exact .inl ⟨rfl, rfl⟩
        · exact .inr ⟨k, by simp [hρ _ _ hy]⟩)
    (by rcases hhi with ⟨rfl, rfl⟩ | ⟨y, rfl, k, hy⟩
        · exact .inl ⟨rfl, rfl⟩
        · exact .inr ⟨k, by simp [hρ _ _ hy]⟩) h1 h2
  simp [execOp, hρ _ _ hx, hr]

theorem InS.cut {sz n c lo hi : Nat} {A : Option Addr} {cell : Nat → Nat → Value} (h : InS w F sz A n cell) (h1 : lo ≤ hi) (h2 : hi ≤ n) (h3 : n ≤ c) : InS w F sz (cutA A c lo sz) (hi - lo) (fun k j => cell (lo + k) j) := by
  intro hn
  obtain ⟨b, o, rfl, hb, hF, hc⟩ := h (by omega)
  have hne : ¬ c = lo := by omega
  refine ⟨b, o + lo * sz, ?_, hb, hF, fun k j hk hj => ?_⟩
  · simp [cutA, hne, add_lit]
  · have := hc (lo + k) j (by omega) hj
    rw [Nat.add_mul] at this
    rw [← this]
    congr 2
    omega

theorem InS.sub {sz n m : Nat} {A : Option Addr} {cell : Nat → Nat → Value} (h : InS w F sz A n cell) (hm : m ≤ n) : InS w F sz A m cell := by
  intro hn
  obtain ⟨b, o, rfl, hb, hF, hc⟩ := h (by omega)
  exact ⟨b, o, rfl, hb, hF, fun k j hk hj => hc k j (by omega) hj⟩

theorem InS.congr {sz n : Nat} {A : Option Addr} {cell cell' : Nat → Nat → Value} (h : InS w F sz A n cell) (hc : ∀ k j, k < n → j < sz → cell k j = cell' k j) : InS w F sz A n cell' := by
  intro hn
  obtain ⟨b, o, rfl, hb, hF, h1⟩ := h hn
  exact ⟨b, o, rfl, hb, hF, fun k j hk hj => by rw [h1 k j hk hj, hc k j hk hj]⟩

theorem InS.nil {sz : Nat} {A : Option Addr} {cell : Nat → Nat → Value} : InS w F sz A 0 cell := fun h => absurd h (by omega)

theorem St.recell {e sz n c i : Nat} {A : Option Addr} {cell cell' : Nat → Nat → Value} (S : St w0 F0 R w) (hi : R[i]? = some (ownM e sz A n c cell)) (h : ∀ k j, k < n → j < sz → cell k j = cell' k j) : St w0 F0 (R.set i (ownM e sz A n c cell')) w := by
  refine S.imp hi ?_ (fun _ h => h)
  rintro (h1 | ⟨b, cs, h1, h2, h3, h4, h5, h6⟩)
  · exact .inl h1
  · exact .inr ⟨b, cs, h1, h2, h3, h4, h5, fun k j hk hj => by rw [h6 k j hk hj, h k j hk hj]⟩

theorem does_convert {x : Operand} {s t : Nat} {k k' : IntKind} {n : Int} {ds : TypeDesc} (h1 : P.underlying s = some ds) (h2 : P.underlying t = some (.int k)) (hx : ev L x = some (.int k' n)) (hr : k.wrap n = n) :
    Does P L ⟨d, .convert s t x, ty, pos, af, g⟩ w (.int k n) := fun ρ hρ => by
  have e : (convert s t (.int k' n)).run P w = .ok (.int k n) w := by
    simp only [convert, Sem.run_bind, run_und h1, run_und h2, Result.andThen_ok]
    simp [Conv.intToInt, hr]
  simp only [execOp, hρ _ _ hx]
  simp [e]

theorem u64_in {n : Int} (h : 0 ≤ n ∧ n ≤ 18446744073709551615) : IntKind.u64.wrap n = n := IntWalk.u64_in _ h

/-- copy(dst, src), elements of one cell: dst lies in an owned slice, from its element lo on. -/
theorem list_copy {d t e i lo dl dc n c m c' : Nat} {x y : Operand} {A B : Option Addr} {Ad : Option Addr} {cell cell' : Nat → Nat → Value} {t' : Nat} (H : Fr N L a) (hd : Nat.blt d N.n = true) (S : St w0 F0 R w) (ht : SlT P t e) (hs : Sz P e 1)
    (hi : R[i]? = some (ownM e 1 A n c cell)) (hx : ev L x = some (.slice Ad dl dc)) (hAd : Ad = some ⟨(adr A).block, lo, none⟩) (hA : A ≠ none) (hy : ev L y = some (.slice B m c')) (hB : InS w noF 1 B m cell') (hm : 0 < m) (hone : ∀ k j, k < m → j < 1 → (cell' k j).oneCell' = true)
    (hlo : lo + dl ≤ n)
    (k : ∀ w' a', St w0 F0 (R.set i (ownM e 1 A n c (fun k j => if lo ≤ k ∧ k < lo + min m dl then cell' (k - lo) j else cell k j))) w' → Fr N ((d, .int .i64 ((min m dl : Nat) : Int)) :: L) a' → wpList P ops Q rest a' w') :
    wpList P ops Q (⟨some d, .call ⟨.builtin .copy, #[x, y], #[t, t']⟩, ty, pos, af, none⟩ :: rest) a w := by
  refine wpList_plain rfl fun K hK => ?_
  unfold Oper.wp
  subst hAd
  obtain ⟨b0, o0, rfl, _, _, hcB⟩ := hB hm
  rcases S.holds hi with ⟨h, _, _⟩ | ⟨b, cs, rfl, hb, hnc, hcm, hsz, hc⟩
  · exact absurd h hA
  let xs : List Value := (List.range (min m dl)).map fun k => cell' k 0
  have hxl : xs.length = min m dl := by simp [xs]
  have hxg : ∀ (j : Nat) v, xs[j]? = some v → w.cell? ((⟨b0, o0, none⟩ : Addr).add j) = some v := by
    intro j v hv
    have hj : j < min m dl := by have := (List.getElem?_eq_some_iff.1 hv).1; omega
    have e0 : xs[j]? = some (cell' j 0) := by simp [xs, hj]
    rw [e0, Option.some.injEq] at hv
    rw [add_lit, ← hv]
    have := hcB j 0 (by omega) (by omega)
    simpa using this
  have hx1 : ∀ v ∈ xs, v.oneCell' = true := by
    intro v hv
    simp only [xs, List.mem_map, List.mem_range] at hv
    obtain ⟨q, hq, rfl⟩ := hv
    exact hone q 0 (by omega) (by omega)
  have hr := run_copy_row (P := P) w t t' ty e b lo dl dc ⟨b0, o0, none⟩ m c' cs e xs ht hs hb hxl hxg (by rw [hxl, hsz]; omega) hx1
  have e1 : (execOp a.eval ⟨some d, .call ⟨.builtin .copy, #[x, y], #[t, t']⟩, ty, pos, af, none⟩).run P w = .ok (.value (.int .i64 ((min m dl : Nat) : Int))) (w.setRow b (cs.toList.take lo ++ xs ++ cs.toList.drop (lo + xs.length)).toArray) := by
    have hbl : (adr (some (⟨b, 0, none⟩ : Addr))).block = b := rfl
    rw [hbl] at hx
    simp [execOp, resolve, H.eval hx, H.eval hy, invoke, builtin, hr, goInt, hxl]
  rw [e1]
  refine hK _ _ (k _ _ (S.updSame hi ((setRow_keeps w b _).mono ?_) ?_ (fun _ h => h)) (H.put _ hd))
  · rintro q rfl; exact ⟨_, rfl, rfl⟩
  · have hle : lo + xs.length ≤ cs.size := by rw [hxl, hsz]; omega
    refine .inr ⟨b, _, rfl, setRow_heap w b _ _ e (0, 0) hb, hnc, hcm, ?_, ?_⟩
    · simp; omega
    · intro k' j' hk' hj'
      have hj0 : j' = 0 := by omega
      subst hj0
      have hck := hc k' 0 hk' (by omega)
      simp only [Nat.mul_one, Nat.add_zero] at hck ⊢
      rw [List.getElem?_toArray]
      by_cases h1 : lo ≤ k' ∧ k' < lo + min m dl
      · rw [if_pos h1, List.append_assoc, List.getElem?_append_right (by simp; omega)]
        simp only [List.length_take, Array.length_toList]
        rw [Nat.min_eq_left (by omega), List.getElem?_append_left (by omega)]
        have : k' - lo < min m dl := by omega
        simp [xs, this]
      · rw [if_neg h1, ← hck]
        rcases Nat.lt_or_ge k' lo with h2 | h2
        · rw [List.append_assoc, List.getElem?_append_left (by simp; omega), List.getElem?_take_of_lt h2]; simp
        · rw [List.getElem?_append_right (by simp; omega), List.getElem?_drop]
          simp only [List.length_append, List.length_take, Array.length_toList]
          rw [Nat.min_eq_left (by omega), hxl]
          rw [show lo + min m dl + (k' - (lo + min m dl)) = k' by omega]
          simp
end
end Go.Proofs.Ytlmddkekeoebcaa
