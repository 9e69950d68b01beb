/- ChT. Printed by gen.py. -/
import Derived.Test.YtlejjfhgfajoiaaChS
import Derived.ProofKit
import Derived.OpenShut
import Derived.Deep.Slices
import Derived.Lib.SmallJoins
namespace Go.Proofs.Ytlejjfhgfajoiaa
open Go.RowKit
set_option linter.unusedVariables false
set_option linter.unusedSimpArgs false


open Go.ChangeShapes Go.WideShapes Go.ChangeAt Go.Deep Go.Joins
section
variable {H : Type} {enc : TypeId × Value → H} {P : Program}
/-- As post_of_same: only what was there need stay unfrozen. -/
theorem post_of_old {f : Func} {s : ChangeSpec} {apart fresh handsOn again : Bool} {W W' : World} {args : Array Value} {v : Value} {ds gs : List (DataW H)} {before pa pv : List MemPlace}
    (hW : DataW.Whole enc P f.params.toList s.vars apart W args.toList ds gs before)
    (hres : ∀ (b : Nat) (sp : Nat → Bool) (hd : Bool), DataW.TrodAll enc P W' b sp hd f.resultTypes.toList (v.resultList f.resultTypes.size) (s.fn H (ds ++ gs)).results [])
    (hargs : ∀ sp : Nat → Bool, (∀ p ∈ before, sp p.block = true) → DataW.TrodAll enc P W' 0 sp true f.params.toList args.toList (s.fn H (ds ++ gs)).args pa)
    (hvars : ∀ sp : Nat → Bool, (∀ p ∈ before, sp p.block = true) → DataW.TrodVars enc P W' sp s.vars (s.fn H (ds ++ gs)).vars pv)
    (hps : before = pa ++ pv) (hk : W.keptBut W' (· ∈ before)) (hfz : ∀ a : Addr, a.block < W.heap.size → W'.frozen? a = W.frozen? a)
    (hok : ∀ (j : Nat) (t : TypeId) (r : Value), f.resultTypes[j]? = some t → (v.resultList f.resultTypes.size)[j]? = some r → Value.okWide P W' .any 0 t r) :
    s.post enc P f apart fresh handsOn again W args v W' := by
  have hold : ∀ p ∈ before, (fun b => decide (b < W.heap.size)) p.block = true := fun p hp => by simpa using hW.lt p hp
  have hlt := hW.lt
  refine ⟨ds, gs, before, [], pa, pv, hW, hres _ _ _, hargs _ hold, hvars _ hold, World.keptBut_mono (fun p hp => ⟨hp, ?_⟩) hk, fun _ => ?_⟩
  · rw [hps, List.mem_append] at hp
    exact Or.inr hp
  · obtain ⟨_, _, _, _, _, hz, hn⟩ := hW
    refine ⟨hok, _, _, ([] ++ pa) ++ pv, ⟨[] ++ pa, pv, trodAll_append (hargs _ (fun _ _ => rfl)) (hres _ _ _), hvars _ (fun _ _ => rfl), rfl, ?_, ?_⟩, ?_⟩
    · intro b off hp
      have hb : MemPlace.cell b off ∈ before := by rw [hps]; simpa using hp
      rw [hfz _ (hlt _ hb)]
      exact hz b off hb
    · intro ha
      have := hn ha
      rw [hps] at this
      simpa using this
    · intro p hp _
      rw [hps]
      simpa using hp
end
theorem St.same {w w' : World} {R : List Mem} (S : St w noF R w') {k : Nat} (hk : k < w.heap.size) : w'.heap[k]? = w.heap[k]? := S.ro k hk (fun h => h)
theorem St.kept {w w' : World} {R : List Mem} (S : St w noF R w') (may : MemPlace → Prop) : w.keptBut w' may := by
  refine ⟨S.os, S.out, fun i hi => ?_⟩
  rw [S.same hi]
  cases w.heap[i]? with
  | none => trivial
  | some o =>
    cases o with
    | cells c t fr => exact ⟨rfl, rfl, rfl, fun _ _ => rfl⟩
    | map es c => exact .inr ⟨rfl, rfl⟩
    | _ => rfl
theorem St.frozen {w w' : World} {R : List Mem} (S : St w noF R w') (a : Addr) (ha : a.block < w.heap.size) : w'.frozen? a = w.frozen? a := World.frozen?_of_block (S.same ha)
theorem St.sameAt {w w' : World} {R : List Mem} (S : St w noF R w') (p : MemPlace) (hp : p.block < w.heap.size) : w.sameAt w' p := by
  cases p with
  | cell b off => exact World.cell?_of_block (S.same hp)
  | map b => exact S.same hp

theorem seat_own : ownKnob Try.prog.godebug = none := by kernel_rfl
theorem seat_laid : laidOutB Try.prog = true := by kernel_rfl

section
variable {H : Type} {enc : TypeId × Value → H} {w : World} {base fuel : Nat} {spare : Nat → Bool} {held : Bool}
theorem cells_int : Try.prog.cellsOf 3 = 1 := by kernel_rfl
theorem cells_span : Try.prog.cellsOf 42 = 2 := by kernel_rfl
theorem cells_gauge : Try.prog.cellsOf 48 = 4 := by kernel_rfl
set_option maxRecDepth 100000 in
theorem open_i {c : Value} {x : DataW H × List MemPlace} (h : DataW.trod enc Try.prog w base spare held fuel 3 [c] = some x) : ∃ n, c = .int .i64 n := by
  obtain ⟨n, e, _, _⟩ := DataW.trod_int Try.underlying3 h
  exact ⟨n, by simpa using e⟩
set_option maxRecDepth 100000 in
theorem open_span {cs : List Value} {x : DataW H × List MemPlace} (h : DataW.trod enc Try.prog w base spare held fuel 42 cs = some x) : ∃ a b, cs = [.int .i64 a, .int .i64 b] := by
  obtain ⟨xs, n, _, _, hl, hlen, hf⟩ := DataW.trod_struct Try.underlying42 h
  rw [cells_span] at hl
  match cs, hl with
  | [c0, c1], _ =>
    match xs, hlen with
    | [y0, y1], _ =>
      have f0 : DataW.trod enc Try.prog w base spare held n 3 [c0] = some y0 := by have := hf 0 _ rfl; simpa [cells_int] using this
      have f1 : DataW.trod enc Try.prog w base spare held n 3 [c1] = some y1 := by have := hf 1 _ rfl; simpa [cells_int] using this
      obtain ⟨a, rfl⟩ := open_i f0
      obtain ⟨b, rfl⟩ := open_i f1
      exact ⟨a, b, rfl⟩
set_option maxRecDepth 100000 in
theorem open_gauge {cs : List Value} {x : DataW H × List MemPlace} (h : DataW.trod enc Try.prog w base spare held fuel 48 cs = some x) : ∃ g : Gauge, cs = [.int .i64 g.fr, .int .i64 g.to, .int .i64 g.lo, .int .i64 g.hi] := by
  obtain ⟨xs, n, _, _, hl, hlen, hf⟩ := DataW.trod_struct Try.underlying48 h
  rw [cells_gauge] at hl
  match cs, hl with
  | [c0, c1, c2, c3], _ =>
    match xs, hlen with
    | [y0, y1, y2], _ =>
      have f0 : DataW.trod enc Try.prog w base spare held n 3 [c0] = some y0 := by have := hf 0 _ rfl; simpa [cells_int] using this
      have f1 : DataW.trod enc Try.prog w base spare held n 3 [c1] = some y1 := by have := hf 1 _ rfl; simpa [cells_int] using this
      have f2 : DataW.trod enc Try.prog w base spare held n 42 [c2, c3] = some y2 := by have := hf 2 _ rfl; simpa [cells_span] using this
      obtain ⟨a, rfl⟩ := open_i f0
      obtain ⟨b, rfl⟩ := open_i f1
      obtain ⟨lo, hi, e⟩ := open_span f2
      cases e
      exact ⟨⟨a, b, lo, hi⟩, rfl⟩
end
theorem addr_ok {w : World} {a : Addr} {v : Value} (h : w.cell? a = some v) : a.spot = none ∧ a.block < w.heap.size := by
  have hc := h
  unfold World.cell? at hc
  split at hc
  · rename_i c t fr hb
    split at hc
    · cases hc
    · rename_i hs
      refine ⟨?_, lt_of_heap hb⟩
      cases hq : a.spot with
      | none => rfl
      | some x => simp [hq] at hs
  · cases hc
/-- A slice of structs, as a list. -/
theorem InS_of {w : World} {α : Type} {sz len : Nat} {a : Addr} (hsz : 0 < sz) (cell : α → Nat → Value) (zero : α) (h : ∀ i, i < len → ∃ g : α, ∀ j, j < sz → w.cell? ((a.add (i * sz)).add j) = some (cell g j)) :
    ∃ l : List α, l.length = len ∧ InS w noF sz (some a) len (fun k j => cell (l.getD k zero) j) := by
  classical
  obtain ⟨ab, ao, asp⟩ := a
  refine ⟨(List.range len).map fun i => if h' : i < len then Classical.choose (h i h') else zero, by simp, fun h0 => ?_⟩
  obtain ⟨g0, hg0⟩ := h 0 h0
  have h00 := hg0 0 hsz
  rw [show ((⟨ab, ao, asp⟩ : Addr).add (0 * sz)).add 0 = ⟨ab, ao, asp⟩ by simp [Addr.add]] at h00
  obtain ⟨hsp, hlt⟩ := addr_ok h00
  dsimp only at hsp hlt
  subst hsp
  refine ⟨ab, ao, rfl, hlt, fun h => h, fun k j hk hj => ?_⟩
  have := (Classical.choose_spec (h k hk)) j hj
  simp only [List.getD_eq_getElem?_getD, List.getElem?_map, List.getElem?_range hk, Option.map_some, Option.getD_some, dif_pos hk]
  have e : ((⟨ab, ao, none⟩ : Addr).add (k * sz)).add j = ⟨ab, ao + k * sz + j, none⟩ := by rw [add_lit, add_lit]
  exact (congrArg w.cell? e).symm.trans this
set_option maxRecDepth 100000 in
theorem open_gauges {H : Type} {enc : TypeId × Value → H} {w : World} {r : Reach} {b0 : Nat} {v : Value} {d : DataW H} {p : List MemPlace} {sp : Nat → Bool} {hd : Bool} (hv : Value.okWide Try.prog w r b0 24 v) (h : DataW.Trod enc Try.prog w 0 sp hd 24 v d p) :
    ∃ (l : List Gauge) (A : Option Addr) (cp : Nat), v = .slice A l.length cp ∧ InS w noF 4 A l.length (gcell l) ∧ l.length ≤ 9223372036854775807 := by
  obtain ⟨a0, len, cap, rfl⟩ := okWide_slice Try.underlying24 hv
  obtain ⟨fuel, hf⟩ := h
  rcases open_slice Try.underlying24 hf with ⟨hcs, _⟩ | ⟨a, len', cap', m, n, D, Pl, hcs, _, hlc, hcm, hm, _, hi⟩
  · simp [Value.cells] at hcs
    obtain ⟨rfl, rfl, rfl⟩ := hcs
    exact ⟨[], none, 0, rfl, InS.nil, by decide⟩
  · simp [Value.cells] at hcs
    obtain ⟨rfl, rfl, rfl⟩ := hcs
    have hmle : len ≤ m := by rw [hm]; split <;> omega
    obtain ⟨l, hl, hin⟩ := InS_of (w := w) (a := a) (len := len) (sz := 4) (by decide) Gauge.cell Gauge.zero (fun i hil => by
      obtain ⟨cs', hc, ht⟩ := hi i (by omega)
      rw [cells_gauge] at hc
      obtain ⟨_, _, hat⟩ := World.cells?_some hc
      obtain ⟨g, rfl⟩ := open_gauge ht
      exact ⟨g, fun j hj => by rw [hat j hj]; revert j; exact four rfl rfl rfl rfl⟩)
    subst hl
    exact ⟨l, some a, cap, rfl, hin, by unfold maxLen at hcm; omega⟩
set_option maxRecDepth 100000 in
theorem open_three {H : Type} {enc : TypeId × Value → H} {w : World} {r : Reach} {b0 t : Nat} {f0 f1 f2 : Field} {v : Value} {d : DataW H} {p : List MemPlace} {sp : Nat → Bool} {hd : Bool} (hs : Try.prog.underlying t = some (.struct #[f0, f1, f2])) (hone : oneCellFields Try.prog #[f0, f1, f2] = true) (hC : Try.prog.cellsOf t = 3)
    (e0 : f0.type = 3) (e1 : f1.type = 3) (e2 : f2.type = 3) (hv : Value.okWide Try.prog w r b0 t v) (h : DataW.Trod enc Try.prog w 0 sp hd t v d p) : ∃ a b c, v = .agg [.int .i64 a, .int .i64 b, .int .i64 c].toArray := by
  obtain ⟨v0, v1, v2, y0, y1, y2, n, rfl, _, _, h0, h1, h2⟩ := open_agg3 hs hone hC hv h
  rw [e0] at h0; rw [e1] at h1; rw [e2] at h2
  obtain ⟨a, rfl⟩ := open_i h0
  obtain ⟨b, rfl⟩ := open_i h1
  obtain ⟨c, rfl⟩ := open_i h2
  exact ⟨a, b, c, rfl⟩


end Go.Proofs.Ytlejjfhgfajoiaa
