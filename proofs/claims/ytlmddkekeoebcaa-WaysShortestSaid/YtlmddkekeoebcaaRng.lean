/- A range over a function: the loop's record and the rounds, with memory as a list of parts. -/
import Derived.Test.YtlmddkekeoebcaaSf
import Derived.Test.YtlmddkekeoebcaaRag
import Derived.Test.YtlmddkekeoebcaaTree
import Derived.RangeFuncRecord
import Derived.RangeFuncLeaves
import Derived.RangeFuncSeq
import Derived.OrdersIn
import Derived.TacticsIn
namespace Go.Proofs.Ytlmddkekeoebcaa
set_option linter.unusedVariables false
set_option linter.unusedSimpArgs false
open Go.RowKit

/-! ## parts as one part -/
def bun (Ms : List Mem) : Mem where
  fp := fps Ms
  holds := fun w => (∀ m ∈ Ms, m.holds w) ∧ ∀ (i j : Nat) (m m' : Mem), Ms[i]? = some m → Ms[j]? = some m' → i ≠ j → ∀ k, m.fp k → ¬ m'.fp k
  stable := fun w w' h ⟨h1, h2⟩ => ⟨fun m hm => m.stable w w' (fun k hk => h k ⟨m, hm, hk⟩) (h1 m hm), h2⟩
section
variable {w w0 : World} {F0 : Nat → Prop} {R Ms : List Mem}
theorem St.pack (S : St w0 F0 (Ms ++ R) w) : St w0 F0 (bun Ms :: R) w := by
  refine ⟨S.os, S.tape, S.out, S.size, S.ro, ?_, ?_, ?_⟩
  · intro m hm
    rcases List.mem_cons.1 hm with rfl | hm
    · refine ⟨fun m hm => S.res m (List.mem_append_left _ hm), fun i j m m' hi hj hij => S.disj i j m m' ?_ ?_ hij⟩
      · rw [List.getElem?_append_left (List.getElem?_eq_some_iff.1 hi).1]; exact hi
      · rw [List.getElem?_append_left (List.getElem?_eq_some_iff.1 hj).1]; exact hj
    · exact S.res m (List.mem_append_right _ hm)
  · intro m hm k hk
    rcases List.mem_cons.1 hm with rfl | hm
    · obtain ⟨m1, h1, h2⟩ := hk
      exact S.inn m1 (List.mem_append_left _ h1) k h2
    · exact S.inn m (List.mem_append_right _ hm) k hk
  · have key : ∀ (j : Nat) (b : Mem), R[j]? = some b → ∀ k, (bun Ms).fp k → ¬ b.fp k := by
      rintro j b hj k ⟨m, hm, hk⟩ hk'
      obtain ⟨i, hi⟩ := List.getElem?_of_mem hm
      have hil := (List.getElem?_eq_some_iff.1 hi).1
      refine S.disj i (Ms.length + j) m b ?_ ?_ (by omega) k hk hk'
      · rw [List.getElem?_append_left hil]; exact hi
      · rw [List.getElem?_append_right (by omega)]; simpa using hj
    intro i j a b hi hj hij k hk hk'
    cases i with
    | zero =>
      cases j with
      | zero => exact hij rfl
      | succ j => simp at hi hj; subst hi; exact key j b hj k hk hk'
    | succ i =>
      cases j with
      | zero => simp at hi hj; subst hj; exact key i a hi k hk' hk
      | succ j =>
        simp at hi hj
        refine S.disj (Ms.length + i) (Ms.length + j) a b ?_ ?_ (by omega) k hk hk'
        · rw [List.getElem?_append_right (by omega)]; simpa using hi
        · rw [List.getElem?_append_right (by omega)]; simpa using hj
theorem St.unpack (S : St w0 F0 (bun Ms :: R) w) : St w0 F0 (Ms ++ R) w := by
  obtain ⟨h1, h2⟩ := S.holds (i := 0) (m := bun Ms) rfl
  refine ⟨S.os, S.tape, S.out, S.size, S.ro, ?_, ?_, ?_⟩
  · intro m hm
    rcases List.mem_append.1 hm with hm | hm
    · exact h1 m hm
    · exact S.res m (List.mem_cons_of_mem _ hm)
  · intro m hm k hk
    rcases List.mem_append.1 hm with hm | hm
    · exact S.inn (bun Ms) (List.mem_cons_self ..) k ⟨m, hm, hk⟩
    · exact S.inn m (List.mem_cons_of_mem _ hm) k hk
  · intro i j a b hi hj hij k hk hk'
    rw [List.getElem?_append] at hi hj
    split at hi <;> split at hj
    · exact h2 i j a b hi hj hij k hk hk'
    · rename_i h3 h4
      exact S.disj 0 (j - Ms.length + 1) (bun Ms) b rfl (by simpa using hj) (by omega) k ⟨a, List.mem_of_getElem? hi, hk⟩ hk'
    · rename_i h3 h4
      exact S.disj 0 (i - Ms.length + 1) (bun Ms) a rfl (by simpa using hi) (by omega) k ⟨b, List.mem_of_getElem? hj, hk'⟩ hk
    · rename_i h3 h4
      exact S.disj (i - Ms.length + 1) (j - Ms.length + 1) a b (by simpa using hi) (by simpa using hj) (by omega) k hk hk'
end

/-- A block that is no cells: known, or no longer known. -/
def objM (b : Nat) (o : Obj) : Mem where
  fp := fun k => k = b
  holds := fun w => w.heap[b]? = some o
  stable := fun _ _ h h' => (h b rfl).trans h'
def defM (b : Nat) : Mem := objM b (.deferred (some []))
def anyM (b : Nat) : Mem where
  fp := fun k => k = b
  holds := fun _ => True
  stable := fun _ _ _ h => h

section
variable {w w0 : World} {F0 : Nat → Prop} {R : List Mem}
theorem putObj_keeps (w : World) (b : Nat) (o : Obj) : Keeps w (w.putObj b o) (fun k => k = b) :=
  ⟨rfl, rfl, rfl, by simp [World.putObj], fun k _ hk => World.putObj_heap_other (fun e => hk e)⟩
theorem St.putObj {i b : Nat} {o : Obj} (o' : Obj) (S : St w0 F0 R w) (hi : R[i]? = some (objM b o)) : St w0 F0 (R.set i (objM b o')) (w.putObj b o') :=
  S.updSame hi (putObj_keeps w b o') (World.putObj_heap_same (lt_of_heap (S.holds hi))) (fun _ h => h)
theorem St.newObj (S : St w0 F0 R w) (o : Obj) : St w0 F0 (objM w.heap.size o :: R) (w.alloc o) :=
  S.new (Keeps.alloc w _ _) (heap_alloc_new w o) fun k hk => by rw [show k = w.heap.size from hk]; simp
end

/-! ## within rounds -/
def FR (r : Option Nat) : Fence := { Fence.wide with round := r }
section
variable {P : Program} {r : Option Nat} {n : Nat}
theorem callsIn_FR {f : FuncId} {args : Array Value} {w : World} {R : Ending → World → Prop} : CallsIn (FR r) n P f args w R ↔ Calls P f args w R := callsIn_wide (n := n)
theorem rowsIn_FR {row : String} {args : Array Value} {w : World} {R : Value → World → Prop} (h : Rows P row args w R) : RowsIn (FR r) n P row args w R := by
  intro c cs _
  obtain ⟨v, w', h1, h2⟩ := h c cs
  exact ⟨v, w', h1, (stepsIn_wide (P := P)).2 h2⟩
def noDefer (o : Oper) : Bool := match o.op with | .defer _ => false | _ => true
theorem noDefer_spec {o : Oper} (h : noDefer o = true) : ∀ c, o.op ≠ .defer c := by
  intro c e
  unfold noDefer at h
  rw [e] at h
  cases h
theorem opIn {o : Oper} {K K1 : Act → World → Prop} {Q : Exit → Act → World → Prop} {a : Act} {w : World} (hd : noDefer o = true) (h : o.wp P a w K (onlyN K1)) : o.wpIn (FR r) n P a w K Q := by
  refine ⟨fun _ _ => trivial, ?_⟩
  rw [Oper.semAt_eq _ _ _ (noDefer_spec hd)]
  unfold Oper.wp at h
  revert h
  generalize (execOp a.eval o).run P w = res
  intro h
  cases res with
  | ok nx w' =>
    cases nx <;> simp only [Oper.upon, Oper.uponIn] at h ⊢ <;> first
      | exact h
      | exact h.elim
      | exact ⟨fun hh => (by cases hh), callsIn_FR.2 (Calls.mono h fun e w'' he => by
          cases e with
          | returned v => exact he
          | panicked c => exact he.elim
          | outgrown => obtain ⟨_, _, hh⟩ := he; exact hh.elim)⟩
      | exact ⟨fun hh => (by cases hh), rowsIn_FR h⟩
  | halt x w' => cases x <;> simp only [Oper.upon, Oper.uponIn] at h ⊢ <;> exact h.elim
theorem about_trivial {o : Oper} {a : Act} {w : World} : ∀ f, o.about P w a.eval = some f → (FR r).fn f := fun _ _ => trivial
theorem listIn {ops : Array Oper} {Q : Exit → Act → World → Prop} {l2 : List Oper} : ∀ (l1 : List Oper) (a : Act) (w : World), l1.all noDefer = true → wpList P ops (onlyN fun a w => wpListIn (FR r) n P ops Q l2 a w) l1 a w → wpListIn (FR r) n P ops Q (l1 ++ l2) a w := by
  intro l1
  induction l1 with
  | nil => intro a w _ h; exact h
  | cons o l1 ih =>
    intro a w hd h
    simp only [List.all_cons, Bool.and_eq_true] at hd
    simp only [List.cons_append]
    unfold wpList at h
    unfold wpListIn
    split
    · rename_i hw
      rw [if_pos hw] at h
      rcases h with h | ⟨_, _, _, h⟩
      · exact opIn hd.1 (Oper.wp_mono (fun a w h => ih a w hd.2 h) h)
      · exact h.elim
    · rename_i hw
      rw [if_neg hw] at h
      exact ⟨about_trivial, ih _ _ hd.2 h⟩
theorem list_in {ops : Array Oper} {Q : Exit → Act → World → Prop} {l : List Oper} {a : Act} {w : World} (m : Nat) (h : wpList P ops (onlyN fun a w => wpListIn (FR r) n P ops Q (l.drop m) a w) (l.take m) a w) (hd : (l.take m).all noDefer = true := by kernel_rfl) : wpListIn (FR r) n P ops Q l a w := by
  have := listIn (r := r) (n := n) (Q := Q) (l2 := l.drop m) (l.take m) a w hd h
  rwa [List.take_append_drop] at this
theorem in_list {ops : Array Oper} {Q : Exit → Act → World → Prop} {K : Act → World → Prop} {l : List Oper} {a : Act} {w : World} (hK : ∀ a w, K a w → Q .normal a w) (h : wpList P ops (onlyN K) l a w) (hd : l.all noDefer = true := by kernel_rfl) : wpListIn (FR r) n P ops Q l a w := by
  have := listIn (r := r) (n := n) (Q := Q) (ops := ops) (l2 := []) l a w hd (wpList_only (fun a w h => hK a w h) l a w h)
  rwa [List.append_nil] at this
end

/-- Code in a round of loop l. -/
def wpR (l : Nat) (P : Program) (c : Code) (Q : Exit → Act → World → Prop) (a : Act) (w : World) : Prop := c.wpIn (FR (some l)) 5 P Q a w

namespace Rd
section
variable {P : Program} {ly : Nat} {ops : Array Oper} {w w0 : World} {F0 : Nat → Prop} {R : List Mem} {Q : Exit → Act → World → Prop} {l : List Oper} {N : FN} {L : List (Nat × Value)} {a : Act} {x y : Code} {id : Nat}
theorem wp_seq_k (h : ∀ K : Act → World → Prop, (∀ a w, wpR ly P y Q a w → K a w) → wpR ly P x (Exit.then K Q) a w) : wpR ly P (.seq x y) Q a w := wpIn_seq_k h
theorem wp_skip (h : Q .normal a w) : wpR ly P .skip Q a w := wpIn_skip h
theorem wp_label {i : Nat} (h : Q .normal a w) : wpR ly P (.label i) Q a w := wpIn_label h
theorem wp_exit {i : Nat} (h : Q (.exit i) a w) : wpR ly P (.exit i) Q a w := wpIn_exit h
theorem wp_block {i : Nat} (h : wpR ly P x (Exit.inBlock i Q) a w) : wpR ly P (.block i x) Q a w := wpIn_block h
theorem one_list (h : wpList P l.toArray (onlyN fun a w => Q .normal a w) l a w) (hd : l.all noDefer = true := by kernel_rfl) : wpR ly P (.region id l.toArray false) Q a w :=
  wpIn_region_lit (in_list (fun _ _ h => h) h hd)
theorem seq_list (h : ∀ K : Act → World → Prop, (∀ a w, wpR ly P y Q a w → K a w) → wpList P l.toArray (onlyN K) l a w) (hd : l.all noDefer = true := by kernel_rfl) : wpR ly P (.seq (.region id l.toArray false) y) Q a w :=
  wpIn_seq (wpIn_region_lit (in_list (fun _ _ h => h) (h (fun a w => wpR ly P y Q a w) (fun _ _ h => h)) hd))
theorem sS (H : Fr N L a) (h : ∀ K : Act → Prop, (∀ a, wpR ly P y Q a w → K a) → SF P l.toArray w K N l L) (hd : l.all noDefer = true := by kernel_rfl) : wpR ly P (.seq (.region id l.toArray false) y) Q a w := by
  refine seq_list (fun K hK => ?_) hd
  have := h (fun a => K a w) (fun a ha => hK a w ha) a H
  have h2 := list_of_still (P := P) (ops := l.toArray) (w := w) (Q := onlyN K) l [] a (wpStill_mono (fun a ha => ha) _ _ this)
  simpa using h2
theorem sO (H : Fr N L a) (h : SF P l.toArray w (fun a => Q .normal a w) N l L) (hd : l.all noDefer = true := by kernel_rfl) : wpR ly P (.region id l.toArray false) Q a w := by
  refine one_list ?_ hd
  have h2 := list_of_still (P := P) (ops := l.toArray) (w := w) (Q := onlyN fun a w => Q .normal a w) l [] a (wpStill_mono (fun a ha => ha) _ _ (h a H))
  simpa using h2
theorem cond_ {t : Nat} {b : Bool} (H : Fr N L a) (hc : look L t = some (.bool b)) (h1 : b = true → wpR ly P x Q a w) (h2 : b = false → wpR ly P y Q a w) : wpR ly P (.cond (.tmp t) x y) Q a w :=
  wpIn_cond_split (H.eval (x := .tmp t) hc) h1 h2
theorem condL {t : Nat} {m n : Int} (H : Fr N L a) (hc : look L t = some (.bool (decide (m < n)))) (h1 : m < n → wpR ly P x Q a w) (h2 : n ≤ m → wpR ly P y Q a w) : wpR ly P (.cond (.tmp t) x y) Q a w :=
  cond_ H hc (fun h => h1 (by simpa using h)) (fun h => h2 (by simpa using h))
theorem condG {t : Nat} {m n : Int} (H : Fr N L a) (hc : look L t = some (.bool (decide (m ≤ n)))) (h1 : m ≤ n → wpR ly P x Q a w) (h2 : n < m → wpR ly P y Q a w) : wpR ly P (.cond (.tmp t) x y) Q a w :=
  cond_ H hc (fun h => h1 (by simpa using h)) (fun h => h2 (by simpa using h))
theorem condE {t : Nat} {m n : Int} (H : Fr N L a) (hc : look L t = some (.bool (decide (m = n)))) (h1 : m = n → wpR ly P x Q a w) (h2 : ¬ m = n → wpR ly P y Q a w) : wpR ly P (.cond (.tmp t) x y) Q a w :=
  cond_ H hc (fun h => h1 (by simpa using h)) (fun h => h2 (by simpa using h))
theorem condN {t : Nat} {m n : Int} (H : Fr N L a) (hc : look L t = some (.bool (!decide (m = n)))) (h1 : ¬ m = n → wpR ly P x Q a w) (h2 : m = n → wpR ly P y Q a w) : wpR ly P (.cond (.tmp t) x y) Q a w :=
  cond_ H hc (fun h => h1 (by simpa using h)) (fun h => h2 (by simpa using h))
theorem least_of {p : Nat → Prop} : (∃ n, p n) → ∃ n, p n ∧ ∀ m, p m → n ≤ m := by
  classical
  rintro ⟨n, hn⟩
  induction n using Nat.strongRecOn with
  | ind n ih =>
    by_cases h : ∃ m, m < n ∧ p m
    · obtain ⟨m, hm, hp⟩ := h
      exact ih m hm hp
    · refine ⟨n, hn, fun m hp => ?_⟩
      rcases Nat.lt_or_ge m n with hlt | hge
      · exact absurd ⟨m, hlt, hp⟩ h
      · exact hge
theorem loop_ {c : Code} (I : Nat → Act → World → Prop) (n0 : Nat) (h0 : I n0 a w)
    (round : ∀ n a w, I n a w → ∀ K : Act → World → Prop, (∀ n' a' w', n' < n → I n' a' w' → K a' w') → wpR ly P c (Exit.then K Q) a w) : wpR ly P (.loop c) Q a w := by
  classical
  have least := fun a w (h : ∃ n, I n a w) => least_of h
  obtain ⟨μ, hμ⟩ : ∃ μ : Act → World → Nat, ∀ a w, (∃ n, I n a w) → I (μ a w) a w ∧ ∀ m, I m a w → μ a w ≤ m :=
    ⟨fun a w => if h : ∃ n, I n a w then Classical.choose (least a w h) else 0, fun a w h => by (try dsimp only); rw [dif_pos h]; exact Classical.choose_spec (least a w h)⟩
  refine wpIn_loop (fun a w => ∃ n, I n a w) μ ⟨n0, h0⟩ ?_
  intro a w h
  have hs := hμ a w h
  refine round _ a w hs.1 _ fun n' a' w' hlt h' => ⟨⟨n', h'⟩, ?_⟩
  have := (hμ a' w' ⟨n', h'⟩).2 n' h'
  omega
theorem loop_st {c : Code} {X : Type} {L0 : List (Nat × Value)} {R0 : List Mem} (ks : List Nat) (H : Fr N L a) (_hk : pick ks L = some L0) (F : X → List (Nat × Value)) (M : X → List Mem) (Pr : Nat → X → Prop)
    (n0 : Nat) (x0 : X) (h0 : Pr n0 x0) (S0 : St w0 F0 (M x0 ++ R0) w) (H0 : Fr N (F x0 ++ L0) a)
    (round : ∀ g x a w, Pr g x → St w0 F0 (M x ++ R0) w → Fr N (F x ++ L0) a → ∀ K : Act → World → Prop, (∀ g' x' a' w', g' < g → Pr g' x' → St w0 F0 (M x' ++ R0) w' → Fr N (F x' ++ L0) a' → K a' w') → wpR ly P c (Exit.then K Q) a w) :
    wpR ly P (.loop c) Q a w :=
  loop_ (fun g a w => ∃ x, Pr g x ∧ St w0 F0 (M x ++ R0) w ∧ Fr N (F x ++ L0) a) n0 ⟨x0, h0, S0, H0⟩
    fun g a w ⟨x, hp, S, H⟩ K hK => round g x a w hp S H K fun g' x' a' w' hlt hp' S' H' => hK g' a' w' hlt ⟨x', hp', S', H'⟩
/-! statements in an open order -/
theorem wpOp_in {i : Nat} {K : Act → World → Prop} (hd : (ops.toList.all noDefer) = true) (h : wpOp P ops NoQ i K a w) : wpOpIn (FR (some ly)) 5 P ops Q i K a w := by
  unfold wpOp at h
  unfold wpOpIn
  split
  · rename_i ho; simp only [ho] at h; exact h
  · rename_i o ho
    simp only [ho] at h
    have hod : noDefer o = true := by
      have := List.all_eq_true.1 hd o (by rw [Array.getElem?_eq_some_iff] at ho; obtain ⟨h1, rfl⟩ := ho; simp)
      exact this
    split
    · rename_i hw
      simp only [hw, if_true] at h
      rcases h with h | ⟨_, _, _, h⟩
      · exact opIn hod (K1 := fun _ _ => False) (by
          unfold Oper.wp at h ⊢
          revert h
          generalize (execOp a.eval o).run P w = res
          intro h
          exact upon_q h)
      · exact h.elim
    · rename_i hw
      simp only [hw] at h
      exact ⟨about_trivial, h⟩
theorem any_in {C : World → Prop} {Qn : Act → World → Prop} (hd : (ops.toList.all noDefer) = true) (hQ : ∀ a w, Qn a w → Q .normal a w) : ∀ (fuel : Nat) (listed : Array Bool) (a : Act) (w : World), anyC P ops C Qn fuel listed a w → wpAnyIn (FR (some ly)) 5 P .any ops Q fuel listed a w
  | 0, _, _, _, h => ⟨h.1, hQ _ _ h.2⟩
  | fuel + 1, _, _, _, h => ⟨fun hr => hQ _ _ (h.1 hr), fun i hi => wpOpIn_mono (fun a' w' h' => any_in hd hQ fuel _ a' w' h'.2) (wpOp_in hd (h.2 i hi))⟩
theorem region_wq {C : World → Prop} (π : List (Nat × Bool)) (hm : P.follows .mixedOrders = true) (hck : ckAll ops π = true) (hd : (ops.toList.all noDefer) = true) (hC : C w.drew)
    (h : wq P ops C (fun a w => Q .normal a w) π a w.drew) : wpR ly P (.region id ops true) Q a w := by
  simp only [ckAll, Bool.and_eq_true] at hck
  obtain ⟨⟨h1, h2⟩, h3⟩ := hck
  refine wpIn_region_any hm (any_in (C := C) (Qn := fun a w => Q .normal a w) hd (fun _ _ h => h) _ _ _ _ ?_)
  have h4 := anyC_of_wq h1 π _ a _ h2 hC h
  rw [Nat.eq_of_beq_eq_true h3] at h4
  exact h4
theorem seq_wq {RE : List Mem} (π : List (Nat × Bool)) (hm : P.follows .mixedOrders = true) (hck : ckAll l.toArray π = true) (SE : St w0 F0 RE w.drew)
    (h : ∀ K : Act → World → Prop, (∀ a w, wpR ly P y Q a w → K a w) → wq P l.toArray (fun w' => St w0 F0 RE w') K π a w.drew) (hd : (l.toArray.toList.all noDefer) = true := by kernel_rfl) : wpR ly P (.seq (.region id l.toArray true) y) Q a w :=
  wpIn_seq (region_wq π hm hck hd SE (h _ (fun _ _ h => h)))
theorem one_wq {RE : List Mem} (π : List (Nat × Bool)) (hm : P.follows .mixedOrders = true) (hck : ckAll l.toArray π = true) (SE : St w0 F0 RE w.drew)
    (h : wq P l.toArray (fun w' => St w0 F0 RE w') (fun a w => Q .normal a w) π a w.drew) (hd : (l.toArray.toList.all noDefer) = true := by kernel_rfl) : wpR ly P (.region id l.toArray true) Q a w := region_wq π hm hck hd SE h
theorem any_inZ {C : World → Prop} {Qn : Act → World → Prop} {z : Nat} (hd : (ops.toList.all noDefer) = true) (hQ : ∀ a w, Qn a w → Q .normal a w) : ∀ (f : Bool) (fuel : Nat) (listed : Array Bool) (a : Act) (w : World), anyZ P ops C z Qn f fuel listed a w → wpAnyIn (FR (some ly)) 5 P .any ops Q fuel listed a w
  | _, 0, _, _, _, h => ⟨h.1, hQ _ _ h.2⟩
  | f, fuel + 1, _, _, _, h => ⟨fun hr => hQ _ _ (h.1 hr), fun i hi => wpOpIn_mono (fun a' w' h' => any_inZ hd hQ _ fuel _ a' w' h'.2) (wpOp_in hd (h.2 i hi))⟩
theorem region_wt {z : Nat} {C : World → Prop} (π : Wt) (hm : P.follows .mixedOrders = true) (hck : ckTree ops z π = true) (hd : (ops.toList.all noDefer) = true) (hC : C w.drew)
    (h : wt P ops C z (fun a w => Q .normal a w) π a w.drew) : wpR ly P (.region id ops true) Q a w := by
  simp only [ckTree, Bool.and_eq_true] at hck
  exact wpIn_region_any hm (any_inZ (C := C) (z := z) (Qn := fun a w => Q .normal a w) hd (fun _ _ h => h) _ _ _ _ _ (anyZ_of_wt hck.1 π false _ _ a _ hck.2 (.inr hC) h))
theorem seq_wt {RE : List Mem} (z : Nat) (π : Wt) (hm : P.follows .mixedOrders = true) (hck : ckTree l.toArray z π = true) (SE : St w0 F0 RE w.drew)
    (h : ∀ K : Act → World → Prop, (∀ a w, wpR ly P y Q a w → K a w) → wt P l.toArray (fun w' => St w0 F0 RE w') z K π a w.drew) (hd : (l.toArray.toList.all noDefer) = true := by kernel_rfl) : wpR ly P (.seq (.region id l.toArray true) y) Q a w :=
  wpIn_seq (region_wt π hm hck hd SE (h _ (fun _ _ h => h)))
theorem one_wt {RE : List Mem} (z : Nat) (π : Wt) (hm : P.follows .mixedOrders = true) (hck : ckTree l.toArray z π = true) (SE : St w0 F0 RE w.drew)
    (h : wt P l.toArray (fun w' => St w0 F0 RE w') z (fun a w => Q .normal a w) π a w.drew) (hd : (l.toArray.toList.all noDefer) = true := by kernel_rfl) : wpR ly P (.region id l.toArray true) Q a w := region_wt π hm hck hd SE h
theorem meet_sr {X : Type} {L0 : List (Nat × Value)} {R0 : List Mem} (ks : List Nat) (H : Fr N L a) (_hk : pick ks L = some L0) (F : X → List (Nat × Value)) (M : X → List Mem) (Pr : X → Prop)
    (_SR : St w0 F0 R0 w)
    (h1 : ∀ K : Act → World → Prop, (∀ x a' w', Pr x → St w0 F0 (M x ++ R0) w' → Fr N (F x ++ L0) a' → K a' w') → wpR ly P x (Exit.then K Q) a w)
    (h2 : ∀ x a' w', Pr x → St w0 F0 (M x ++ R0) w' → Fr N (F x ++ L0) a' → wpR ly P y Q a' w') : wpR ly P (.seq x y) Q a w :=
  wp_seq_k fun K hK => h1 K fun x a' w' hp S' H' => hK a' w' (h2 x a' w' hp S' H')
end
end Rd

/-! ## the statement -/
section
variable {P : Program} {w w0 : World} {F0 : Nat → Prop} {R : List Mem} {Q : Exit → Act → World → Prop} {N : Nat} {L : List (Nat × Value)} {a : Act}

theorem St.tl {m : Mem} (S : St w0 F0 (m :: R) w) : St w0 F0 R w :=
  ⟨S.os, S.tape, S.out, S.size, S.ro, fun x hx => S.res x (List.mem_cons_of_mem _ hx), fun x hx => S.inn x (List.mem_cons_of_mem _ hx), fun i j a b hi hj hij => S.disj (i + 1) (j + 1) a b (by simpa using hi) (by simpa using hj) (by omega)⟩
/-- What a round must do. -/
def Round (P : Program) (l : Nat) (v : Value) (J : Nat → Mem → Prop) (w0 : World) (F0 : Nat → Prop) (i : Nat) (x : Mem) (w : World) : Prop :=
  YieldAt Fence.wide 5 P l #[v] w fun e w2 => e = .returned (.bool true) ∧ ∃ m2, J (i + 1) m2 ∧ St w0 F0 [m2, x] w2

theorem putFr {p : Nat} {v : Value} (H : Fr ⟨N, []⟩ L a) (hp : Nat.blt p N = true) : Fr ⟨N, []⟩ ((p, v) :: L) { tmps := ((#[p] : Array Tmp).zip #[v]).foldl (fun tmps (t, a) => tmps.setIfInBounds t a) a.tmps, defers := [] } := by
  have h := H.put (d := p) v hp
  have e : ((#[p] : Array Tmp).zip #[v]).foldl (fun tmps (t, a) => tmps.setIfInBounds t a) a.tmps = (a.put (some p) v).tmps := by simp [Act.put]
  rw [e]
  exact ⟨h.size, rfl, h.at_⟩

theorem range_st {id t p d gf cnt : Nat} {fn : Func} {body : Code} {g : Operand} {lb : List Value} {m : Mem} {zs : List Value} {pos1 pos2 : String} {ty1 ty2 : TypeId} {af1 af2 : Array Edge}
    (H : Fr ⟨N, []⟩ L a) (S : St w0 F0 (m :: R) w) (hg : ev L g = some (.func (.func gf) #[] lb.toArray)) (hf : P.funcs[gf]? = some fn) (hfb : fn.body.isNone = false) (hn : (fn.name == "runtime.NumGoroutine") = false)
    (hp : Nat.blt p N = true) (hd : Nat.blt d N = true) (hdp : Nat.beq d p = false) (hz : Zero P t zs) (cs : Nat → List Value) (hcs : ∀ i, (cs i).length = zs.length) (hs : Sz P t zs.length) (h1 : ∀ i, ((cs i).all fun u => u.oneCell') = true)
    (J : Nat → Mem → Prop) (h0 : J 0 m) (In : World → (Nat → Prop) → Prop)
    (hiter : ∀ (l : Nat) (Jm : Nat → Mem → Prop) (M : Mem) (w' : World), Jm 0 M → St w0 F0 (M :: R) w' → (∀ i m' x w00 F00 w1, i < cnt → Jm i m' → In w00 F00 → St w00 F00 [m', x] w1 → Round P l (.agg (cs i).toArray) Jm w00 F00 i x w1) →
      Calls P gf (.func (.yield l) #[] #[] :: lb).toArray w' (Ret fun _ w2 => ∃ m', Jm cnt m' ∧ St w0 F0 (m' :: R) w2))
    (hbody : ∀ l i m' x w00 F00 w1 a1 b, i < cnt → J i m' → In w00 F00 → St w00 F00 [boxM b t (cs i), m', x] w1 → Fr ⟨N, []⟩ ((d, .pointer (some ⟨b, 0, none⟩)) :: (p, .agg (cs i).toArray) :: L) a1 →
      wpR l P body (onlyN fun _ w3 => ∃ m2, J (i + 1) m2 ∧ St w00 F00 [m2, x] w3) a1 w1)
    (hdone : ∀ D m' w' a', J cnt m' → St w0 F0 (defM D :: m' :: R) w' → Fr ⟨N, [⟨.collected D, #[]⟩]⟩ L a' → Q .normal a' w') :
    (Code.rangeFunc g #[p] (.region id ([⟨some d, .alloc t, ty1, pos1, af1, none⟩, ⟨none, .store t (.tmp d) (.tmp p), ty2, pos2, af2, none⟩].toArray) false) body).wp P Q a w := by
  refine (wpIn_wide (n := 9)).1 (wpIn_rangeFunc fun fid _ => ?_)
  obtain ⟨asg, hasg⟩ : ∃ asg, asg = Code.region id ([⟨some d, .alloc t, ty1, pos1, af1, none⟩, ⟨none, .store t (.tmp d) (.tmp p), ty2, pos2, af2, none⟩].toArray) false := ⟨_, rfl⟩
  rw [← hasg]
  obtain ⟨rec, hrec⟩ : ∃ rec : LoopState → Loop, rec = fun st => { state := st, pending := none, fn := fid, tmps := a.tmps, params := #[p], assign := asg, body, defers := w.heap.size } := ⟨_, rfl⟩
  obtain ⟨W1, hW1⟩ : ∃ W1, W1 = (w.alloc (.deferred (some []))).alloc (.loop (rec .ready)) := ⟨_, rfl⟩
  have hen : (Instr.enterLoop fid a.tmps #[p] asg body none).run P w = .ok (w.heap.size + 1, [⟨.collected w.heap.size, #[]⟩]) W1 := by rw [hW1, hrec]; exact run_enterLoop_outer fid a.tmps #[p] asg body
  have S1 := (S.newObj (.deferred (some []))).newObj (.loop (rec .ready))
  have hsz : (w.alloc (.deferred (some []))).heap.size = w.heap.size + 1 := by simp
  rw [hsz, ← hW1] at S1
  refine ⟨w.heap.size + 1, [⟨.collected w.heap.size, #[]⟩], W1, ⟨.fn (.func gf) lb.toArray, #[.func (.yield (w.heap.size + 1)) #[] #[]]⟩, W1, gf, (.func (.yield (w.heap.size + 1)) #[] #[] :: lb).toArray, W1, hen, ?_, fun _ _ => trivial, ?_, (fun h => by cases h), ?_⟩
  · have hgv := H.eval hg
    simp only [rangeCall, resolve, hgv]
    simp [Deferred.ofValue, Act.eval]
  · have hfb' : fn.body ≠ none := by intro e; rw [e] at hfb; simp at hfb
    have hn' : ¬ fn.name = "runtime.NumGoroutine" := by simpa using hn
    have e : (#[.func (.yield (w.heap.size + 1)) #[] #[]] : Array Value) ++ lb.toArray = (.func (.yield (w.heap.size + 1)) #[] #[] :: lb).toArray := by simp
    rw [← e]
    simp [invoke, callFunc, hf, hn', hfb']
  · have S2 := St.pack (Ms := [objM (w.heap.size + 1) (.loop (rec .ready)), defM w.heap.size, m]) (R := R) S1
    refine callsIn_wide.2 (Calls.mono (hiter (w.heap.size + 1) (fun i M => ∃ m', J i m' ∧ M = bun [objM (w.heap.size + 1) (.loop (rec .ready)), defM w.heap.size, m']) _ _ ⟨m, h0, rfl⟩ S2 ?_) ?_)
    · rintro i M x w00 F00 w1 hi ⟨m', hJ, rfl⟩ hIn SM
      have S3 := St.unpack SM
      have hrd : w1.heap[w.heap.size + 1]? = some (.loop (rec .ready)) := S3.holds (i := 0) rfl
      have hy := run_yield (P := P) (args := #[.agg (cs i).toArray]) hrd (by rw [hrec]; rfl)
      rw [hrec] at hy
      refine ⟨fid, _, asg, body, hy, roundIn_of_wpIn (F := Fence.wide) trivial ?_⟩
      subst hasg
      refine wpIn_region_lit (F := FR (some (w.heap.size + 1))) (n := 5) ?_
      refine in_list (K := fun a w9 => ∃ w2, (Instr.beginRound (w.heap.size + 1)).run P w9 = .ok () w2 ∧ body.wpIn (Fence.wide.inRound (w.heap.size + 1)) 5 P _ a w2) (fun _ _ h => h) ?_ rfl
      have HR := putFr (v := .agg (cs i).toArray) H hp
      refine list_alloc HR hd S3 hz fun b9 w9 a9 _ _ S9 H9 => ?_
      refine list_store H9 S9 (i := 0) rfl (x := .tmp d) (y := .tmp p) (v := .agg (cs i).toArray) (vs := cs i) (by simp [ev, look]; rfl) ?_ rfl (by rw [hcs]; exact hs) (by simp [hcs]) (h1 i) fun w8 a8 S8 H8 => wpList_nil ?_
      · show look _ p = _
        simp [look, hdp]
      · have hspl : splice zs 0 (cs i) = cs i := by rw [splice_eq _ _ _ (by rw [hcs]; omega)]; simp [hcs]
        rw [hspl] at S8
        have hr8 : w8.heap[w.heap.size + 1]? = some (.loop (rec .ready)) := S8.holds (i := 1) rfl
        refine ⟨_, run_beginRound hr8 (by rw [hrec]), ?_⟩
        have S7 := S8.putObj (.loop { rec .ready with state := .busy }) (i := 1) rfl
        have S6 := S7.sel [1, 2, 4, 0, 3] rfl rfl
        have S5 := (St.pack (Ms := [objM (w.heap.size + 1) (.loop { rec .ready with state := .busy }), defM w.heap.size, x]) (R := [_, _]) S6).sel [1, 2, 0] rfl rfl
        refine wpIn_mono (hbody _ i m' _ w00 F00 _ a8 b9 hi hJ hIn S5 H8) ?_
        intro e a3 w3 hpo
        cases e with
        | normal =>
          obtain ⟨m2, hJ2, S4⟩ := hpo
          have S3' := St.unpack (S4.sel [1, 0] rfl rfl)
          have hr3 : w3.heap[w.heap.size + 1]? = some (.loop { rec .ready with state := .busy }) := S3'.holds (i := 0) rfl
          refine ⟨_, _, run_endRound none hr3, rfl, bun [objM (w.heap.size + 1) (.loop (rec .ready)), defM w.heap.size, m2], ⟨m2, hJ2, rfl⟩, ?_⟩
          have S2' := S3'.putObj (.loop (rec .ready)) (i := 0) rfl
          have S1' := St.pack (Ms := [objM (w.heap.size + 1) (.loop (rec .ready)), defM w.heap.size, m2]) (R := [x]) (S2'.sel [0, 1, 3, 2] rfl rfl)
          have e1 : ({ { rec .ready with state := .busy } with state := if (none : Option Code).isNone then .ready else .done, pending := none } : Loop) = rec .ready := by rw [hrec]; rfl
          rw [e1]
          exact S1'
        | _ => exact hpo.elim
    · intro e w2 he
      cases e with
      | returned v =>
        obtain ⟨_, ⟨m', hJ, rfl⟩, SM⟩ := he
        have S3 := St.unpack SM
        have hr3 : w2.heap[w.heap.size + 1]? = some (.loop (rec .ready)) := S3.holds (i := 0) rfl
        refine ⟨_, _, run_endLoop hr3 (by rw [hrec]; simp), ?_⟩
        have e1 : (rec .ready).pending = none := by rw [hrec]
        rw [e1]
        refine hdone w.heap.size m' _ _ hJ (S3.putObj _ (i := 0) rfl).tl ⟨H.size, ?_, H.at_⟩
        show _ ++ a.defers = _
        rw [H.defs]
        rfl
      | panicked _ => exact he.elim
      | outgrown => exact he.elim

/-! ## functions that hold such a loop -/
def bodyM (P : Program) (fn : Func) (R : Ending → World → Prop) : Exit → Act → World → Prop := bodyPostM Fence.wide 9 P fn R
theorem enterM {f : FuncId} {fn : Func} {c : Code} {vs : List Value} {R : Ending → World → Prop} (hf : P.funcs[f]? = some fn) (hb : fn.body = some c) (hN : fn.ntmps = N) (hle : Nat.ble vs.length N = true)
    (k : ∀ a, Fr ⟨N, []⟩ (number 0 vs) a → c.wp P (bodyM P fn R) a w) : Calls P f vs.toArray w R :=
  callsIn_wide.1 (callsIn_of_wp_marks (F := Fence.wide) (n := 9) hf hb trivial ((wpIn_wide (n := 9)).2 (k _ (Fr.entry vs hN hle))))
theorem leaves_val {fn : Func} {R : Ending → World → Prop} {v : Value} (hr : (results fn a.tmps).run P w = .ok v w) (h : R (.returned v) w) : LeavesInM Fence.wide 9 P fn a.tmps R [] .returning w := ⟨v, hr, h⟩
theorem retM0 {fn : Func} {R : Value → World → Prop} {v : Value} (H : Fr ⟨N, []⟩ L a) (hr : (results fn a.tmps).run P w = .ok v w) (h : R v w) : bodyM P fn (Ret R) .ret a w := by
  show LeavesInM Fence.wide 9 P fn a.tmps (Ret R) a.defers .returning w
  rw [H.defs]
  exact leaves_val hr h
theorem retM1 {fn : Func} {R : Value → World → Prop} {t : Nat} {v : Value} (hrs : fn.results = #[.tmp t]) (H : Fr ⟨N, []⟩ L a) (hv : look L t = some v) (h : R v w) : bodyM P fn (Ret R) .ret a w :=
  retM0 H (by rw [results_tmp hrs]; simp [H.at_ _ _ hv]) h
theorem retM2 {fn : Func} {R : Value → World → Prop} {t u : Nat} {v v' : Value} (hrs : fn.results = #[.tmp t, .tmp u]) (H : Fr ⟨N, []⟩ L a) (hv : look L t = some v) (hv' : look L u = some v') (h : R (.tuple #[v, v']) w) : bodyM P fn (Ret R) .ret a w :=
  retM0 H (by rw [results_tmp2 hrs]; simp [H.at_ _ _ hv, H.at_ _ _ hv']) h
/-- Behind the loop: the block of its deferred calls is shut. -/
theorem retC0 {D i : Nat} {fn : Func} {R : List Mem} {Rt : Value → World → Prop} {v : Value} (H : Fr ⟨N, [⟨.collected D, #[]⟩]⟩ L a) (S : St w0 F0 R w) (hi : R[i]? = some (defM D)) (hr : ∀ w', (results fn a.tmps).run P w' = .ok v w') (h : ∀ w', St w0 F0 (R.set i (anyM D)) w' → Rt v w') : bodyM P fn (Ret Rt) .ret a w := by
  show LeavesInM Fence.wide 9 P fn a.tmps (Ret Rt) a.defers .returning w
  rw [H.defs]
  have hD : w.heap[D]? = some (.deferred (some [])) := S.holds hi
  refine ⟨(fun h => by cases h), .inl ⟨D, _, rfl, run_takeDeferred hD, leaves_val (a := a) (hr _) (h _ ?_)⟩⟩
  exact S.updSame hi (putObj_keeps w D _) trivial (fun _ h => h)
theorem retC1 {D i : Nat} {fn : Func} {R : List Mem} {Rt : Value → World → Prop} {t : Nat} {v : Value} (hrs : fn.results = #[.tmp t]) (H : Fr ⟨N, [⟨.collected D, #[]⟩]⟩ L a) (S : St w0 F0 R w) (hi : R[i]? = some (defM D)) (hv : look L t = some v) (h : ∀ w', St w0 F0 (R.set i (anyM D)) w' → Rt v w') : bodyM P fn (Ret Rt) .ret a w :=
  retC0 H S hi (fun w' => by rw [results_tmp hrs]; simp [H.at_ _ _ hv]) h
theorem retC2 {D i : Nat} {fn : Func} {R : List Mem} {Rt : Value → World → Prop} {t u : Nat} {v v' : Value} (hrs : fn.results = #[.tmp t, .tmp u]) (H : Fr ⟨N, [⟨.collected D, #[]⟩]⟩ L a) (S : St w0 F0 R w) (hi : R[i]? = some (defM D)) (hv : look L t = some v) (hv' : look L u = some v') (h : ∀ w', St w0 F0 (R.set i (anyM D)) w' → Rt (.tuple #[v, v']) w') : bodyM P fn (Ret Rt) .ret a w :=
  retC0 H S hi (fun w' => by rw [results_tmp2 hrs]; simp [H.at_ _ _ hv, H.at_ _ _ hv']) h

/-! ## the iterator's side: a call of yield -/
variable {ops : Array Oper} {rest l : List Oper} {ty : TypeId} {pos : String} {af : Array Edge} {y : Code} {id : Nat}
def LI (P : Program) (ops : Array Oper) (Q : Exit → Act → World → Prop) (l : List Oper) (a : Act) (w : World) : Prop := wpListIn (FR none) 6 P ops Q l a w
theorem seq_in (h : ∀ K : Act → World → Prop, (∀ a w, y.wp P Q a w → K a w) → LI P l.toArray (Exit.then K Q) l a w) : (Code.seq (.region id l.toArray false) y).wp P Q a w :=
  wp_seq ((wpIn_wide (n := 6)).1 (wpIn_region_lit (h (fun a w => y.wp P Q a w) (fun _ _ h => h))))
theorem li_list (m : Nat) (h : wpList P ops (onlyN fun a w => LI P ops Q (l.drop m) a w) (l.take m) a w) (hd : (l.take m).all noDefer = true := by kernel_rfl) : LI P ops Q l a w := list_in m h hd
theorem li_yes {NN : FN} {d : Option Nat} {op : Op} {i g : Nat} {b c : Bool} (H : Fr NN L a) (hg : (ops[i]?).bind (·.dst) = some g) (hc : look L g = some (.bool c)) (e : c = b)
    (k : LI P ops Q (⟨d, op, ty, pos, af, none⟩ :: rest) a w) : LI P ops Q (⟨d, op, ty, pos, af, some (i, b)⟩ :: rest) a w := by
  subst e
  unfold LI wpListIn at k ⊢
  rw [if_pos (wanted_yes H hg hc)]
  have hw : Region.wanted ⟨d, op, ty, pos, af, none⟩ (yielded ops a.tmps) = true := rfl
  rw [if_pos hw] at k
  exact ⟨about_trivial, k.2⟩
theorem li_yield {NN : FN} {d t ln : Nat} {x : Operand} {ats : Array TypeId} {v : Value} {Rt : Ending → World → Prop} (H : Fr NN L a) (hd : Nat.blt d NN.n = true) (ht : look L t = some (.func (.yield ln) #[] #[])) (hx : ev L x = some v)
    (hy : YieldAt Fence.wide 5 P ln #[v] w Rt) (hR : ∀ e w', Rt e w' → e = .returned (.bool true)) (k : ∀ w' a', Rt (.returned (.bool true)) w' → Fr NN ((d, .bool true) :: L) a' → LI P ops Q rest a' w') :
    LI P ops Q (⟨some d, .call ⟨.value (.tmp t), #[x], ats⟩, ty, pos, af, none⟩ :: rest) a w := by
  obtain ⟨fid, tmps, asg, body, hrun, hround⟩ := hy
  refine wpListIn_plain rfl fun K hK => ⟨about_trivial, ?_⟩
  have e1 : a.eval (.tmp t) = .func (.yield ln) #[] #[] := H.eval (x := .tmp t) ht
  have e2 : (Oper.semAt (FR none).round a.eval ⟨some d, .call ⟨.value (.tmp t), #[x], ats⟩, ty, pos, af, none⟩).run P w = .ok (.round ln fid tmps asg body) w := by
    rw [Oper.semAt_eq _ _ _ (fun c h => by cases h)]
    simp [execOp, resolve, e1, Deferred.ofValue, H.eval hx, invoke, hrun]
  rw [e2]
  refine ⟨(fun h => by cases h), RoundIn.mono (F := FR none) (n := 5) hround fun e w' he => ?_⟩
  have := hR e w' he
  subst this
  exact hK _ _ (k w' _ he (H.put _ hd))
end
end Go.Proofs.Ytlmddkekeoebcaa
