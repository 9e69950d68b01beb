/- A stretch under a guard that makes memory, and leaves what is owned as it was. -/
import Derived.Test.YtlmddkekeoebcaaDraw
namespace Go.Proofs.Ytlmddkekeoebcaa
set_option linter.unusedVariables false
set_option linter.unusedSimpArgs false
open Go.RowKit
section
variable {P : Program} {ops : Array Oper} {w w0 : World} {F0 : Nat → Prop} {R : List Mem} {Q : Exit → Act → World → Prop} {rest l : List Oper} {N : FN} {L : List (Nat × Value)} {a : Act} {ty : TypeId} {pos : String} {af : Array Edge} {op : Op}
theorem wp_only {o : Oper} {K K' : Act → World → Prop} {K1 : Act → World → Prop} (h : o.wp P a w K (onlyN K1)) (hK : ∀ a w, K a w → K' a w) : o.wp P a w K' Q :=
  Oper.wp_mono hK (upon_q (upon_only h))
theorem wpList_append {l2 : List Oper} : ∀ (l1 : List Oper) (a : Act) (w : World), wpList P ops (onlyN fun a w => wpList P ops Q l2 a w) l1 a w → wpList P ops Q (l1 ++ l2) a w := by
  intro l1
  induction l1 with
  | nil => intro a w h; exact h
  | cons o l1 ih =>
    intro a w h
    simp only [List.cons_append]
    unfold wpList at h ⊢
    split
    · rename_i hw
      rw [if_pos hw] at h
      rcases h with h | ⟨_, _, _, h⟩
      · exact .inl (wp_only h ih)
      · exact h.elim
    · rename_i hw
      rw [if_neg hw] at h
      exact ih _ _ h
theorem wpList_only {K K' : Act → World → Prop} (hK : ∀ a w, K a w → K' a w) : ∀ (l : List Oper) (a : Act) (w : World), wpList P ops (onlyN K) l a w → wpList P ops (onlyN K') l a w := by
  intro l
  induction l with
  | nil => intro a w h; exact hK a w h
  | cons o l ih =>
    intro a w h
    unfold wpList at h ⊢
    split
    · rename_i hw
      rw [if_pos hw] at h
      rcases h with h | ⟨_, _, _, h⟩
      · exact .inl (wp_only h ih)
      · exact h.elim
    · rename_i hw
      rw [if_neg hw] at h
      exact ih _ _ h
theorem list_yes' {d : Option Nat} {i g : Nat} {b c : Bool} (H : Fr N L a) (hg : (ops[i]?).bind (·.dst) = some g) (hc : look L g = some (.bool c)) (e : c = b)
    (k : wpList P ops Q (⟨d, op, ty, pos, af, none⟩ :: rest) a w) : wpList P ops Q (⟨d, op, ty, pos, af, some (i, b)⟩ :: rest) a w := by
  subst e
  exact list_yes H hg hc k
theorem wanted_un {d : Option Nat} {i g : Nat} {b : Bool} (H : Fr N L a) (hg : (ops[i]?).bind (·.dst) = some g) (hc : look L g = some undef) :
    Region.wanted ⟨d, op, ty, pos, af, some (i, b)⟩ (yielded ops a.tmps) = false :=
  not_wanted fun s hs q hq => by
    rw [hg, Option.some.injEq] at hs
    subst hs
    rw [H.at_ _ _ hc] at hq
    simp [undef] at hq
/-- An operation whose guard was not reached. -/
theorem still_un {Qs : Act → Prop} {d i g : Nat} {b : Bool} (H : Fr N L a) (hg : (ops[i]?).bind (·.dst) = some g) (hc : look L g = some undef) (hd : Nat.blt d N.n = true)
    (k : ∀ a', Fr N ((d, undef) :: L) a' → wpStill P ops w Qs rest a') : wpStill P ops w Qs (⟨some d, op, ty, pos, af, some (i, b)⟩ :: rest) a := by
  unfold wpStill
  rw [if_neg (by rw [wanted_un H hg hc]; simp)]
  exact k _ (H.put _ hd)
theorem list_un {d i g : Nat} {b : Bool} (H : Fr N L a) (hg : (ops[i]?).bind (·.dst) = some g) (hc : look L g = some undef) (hd : Nat.blt d N.n = true)
    (k : ∀ a', Fr N ((d, undef) :: L) a' → wpList P ops Q rest a' w) : wpList P ops Q (⟨some d, op, ty, pos, af, some (i, b)⟩ :: rest) a w := by
  unfold wpList
  rw [if_neg (by rw [wanted_un H hg hc]; simp)]
  exact k _ (H.put _ hd)
theorem list_guard {i g t : Nat} {b c : Bool} {v : Value} (m : Nat) (H : Fr N L a) (S : St w0 F0 R w) (hg : (ops[i]?).bind (·.dst) = some g) (hc : look L g = some (.bool c))
    (hs : skips ops i g b [] (l.take m) = true) (hw : writes t (l.take m) = true) (hcl : clean L (l.take m) = true) (ht : Nat.blt t N.n = true)
    (h1 : c = b → wpList P ops (onlyN fun a' w' => Fr N ((t, v) :: L) a' ∧ St w0 F0 R w') (l.take m) a w)
    (k : ∀ a' w', Fr N ((t, gv c b v) :: L) a' → St w0 F0 R w' → wpList P ops Q (l.drop m) a' w') : wpList P ops Q l a w := by
  by_cases e : c = b
  · have h2 := wpList_append (P := P) (ops := ops) (Q := Q) (l2 := l.drop m) (l.take m) a w (wpList_only (fun a' w' ⟨h3, h4⟩ => k a' w' (by simpa [gv, e] using h3) h4) _ _ _ (h1 e))
    rwa [List.take_append_drop] at h2
  · refine list_still m ?_
    refine still_skip hg e (l.take m) [] a H (H.at_ _ _ hc) (by simp) hs hcl fun a' H' h' => k a' w ?_ S
    have hlt : t < N.n := by simpa using ht
    have := h' t (.inr hw) hlt
    refine ⟨H'.size, H'.defs, fun s u hu => ?_⟩
    simp only [look] at hu
    cases hb : Nat.beq t s
    · rw [hb] at hu; exact H'.at_ s u hu
    · rw [hb] at hu
      have := Nat.eq_of_beq_eq_true hb
      subst this
      simp only [cond_true, Option.some.injEq] at hu
      subst hu
      have e' : (c == b) = false := by simpa using e
      simpa [gv, e'] using this
end
end Go.Proofs.Ytlmddkekeoebcaa
