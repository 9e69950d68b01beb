/- Rw. Printed by gen.py. -/
import Derived.Test.YtdepakimbagonaaGaA
import Derived.Test.YtdepakimbagonaaFacts
import Derived.Test.YtdepakimbagonaaRows
import Derived.ProofKit
import Derived.OpenShut
import Derived.Deep.Slices
import Derived.Lib.SmallJoins
import Derived.SizedLaws
import Derived.JoinedCond
namespace Go.Proofs.Ytdepakimbagonaa
open Go.RowKit
set_option linter.unusedVariables false
set_option linter.unusedSimpArgs false
set_option maxRecDepth 100000
set_option maxHeartbeats 4000000


open Go.ChangeShapes Go.WideShapes Go.ChangeAt Go.Deep Go.Joins
section
variable {H : Type} {enc : TypeId × Value → H} {P : Program}
/-- As post_of_same: only what was there need stay unfrozen. -/
theorem post_of_old {f : Func} {s : ChangeSpec} {apart fresh handsOn again : Bool} {W W' : World} {args : Array Value} {v : Value} {ds gs : List (DataW H)} {before pa pv : List MemPlace}
    (hW : DataW.Whole enc P f.params.toList s.vars apart W args.toList ds gs before)
    (hres : ∀ (b : Nat) (sp : Nat → Bool) (hd : Bool), DataW.TrodAll enc P W' b sp hd f.resultTypes.toList (v.resultList f.resultTypes.size) (s.fn H (ds ++ gs)).results [])
    (hargs : ∀ sp : Nat → Bool, (∀ p ∈ before, sp p.block = true) → DataW.TrodAll enc P W' 0 sp true f.params.toList args.toList (s.fn H (ds ++ gs)).args pa)
    (hvars : ∀ sp : Nat → Bool, (∀ p ∈ before, sp p.block = true) → DataW.TrodVars enc P W' sp s.vars (s.fn H (ds ++ gs)).vars pv)
    (hps : before = pa ++ pv) (hk : W.keptBut W' (· ∈ before)) (hfz : ∀ a : Addr, a.block < W.heap.size → W'.frozen? a = W.frozen? a)
    (hok : ∀ (j : Nat) (t : TypeId) (r : Value), f.resultTypes[j]? = some t → (v.resultList f.resultTypes.size)[j]? = some r → Value.okWide P W' .any 0 t r) :
    s.post enc P f apart fresh handsOn again W args v W' := by
  have hold : ∀ p ∈ before, (fun b => decide (b < W.heap.size)) p.block = true := fun p hp => by simpa using hW.lt p hp
  have hlt := hW.lt
  refine ⟨ds, gs, before, [], pa, pv, hW, hres _ _ _, hargs _ hold, hvars _ hold, World.keptBut_mono (fun p hp => ⟨hp, ?_⟩) hk, fun _ => ?_⟩
  · rw [hps, List.mem_append] at hp
    exact Or.inr hp
  · obtain ⟨_, _, _, _, _, hz, hn⟩ := hW
    refine ⟨hok, _, _, ([] ++ pa) ++ pv, ⟨[] ++ pa, pv, trodAll_append (hargs _ (fun _ _ => rfl)) (hres _ _ _), hvars _ (fun _ _ => rfl), rfl, ?_, ?_⟩, ?_⟩
    · intro b off hp
      have hb : MemPlace.cell b off ∈ before := by rw [hps]; simpa using hp
      rw [hfz _ (hlt _ hb)]
      exact hz b off hb
    · intro ha
      have := hn ha
      rw [hps] at this
      simpa using this
    · intro p hp _
      rw [hps]
      simpa using hp
end
theorem St.same {w w' : World} {R : List Mem} (S : St w noF R w') {k : Nat} (hk : k < w.heap.size) : w'.heap[k]? = w.heap[k]? := S.ro k hk (fun h => h)
theorem St.kept {w w' : World} {R : List Mem} (S : St w noF R w') (may : MemPlace → Prop) : w.keptBut w' may := by
  refine ⟨S.os, S.out, fun i hi => ?_⟩
  rw [S.same hi]
  cases w.heap[i]? with
  | none => trivial
  | some o =>
    cases o with
    | cells c t fr => exact ⟨rfl, rfl, rfl, fun _ _ => rfl⟩
    | map es c => exact .inr ⟨rfl, rfl⟩
    | _ => rfl
theorem St.frozen {w w' : World} {R : List Mem} (S : St w noF R w') (a : Addr) (ha : a.block < w.heap.size) : w'.frozen? a = w.frozen? a := World.frozen?_of_block (S.same ha)
theorem St.sameAt {w w' : World} {R : List Mem} (S : St w noF R w') (p : MemPlace) (hp : p.block < w.heap.size) : w.sameAt w' p := by
  cases p with
  | cell b off => exact World.cell?_of_block (S.same hp)
  | map b => exact S.same hp

theorem seat_own : ownKnob Try.prog.godebug = none := by kernel_rfl
theorem seat_laid : laidOutB Try.prog = true := by kernel_rfl

theorem addr_ok' {w : World} {a : Addr} {v : Value} (h : w.cell? a = some v) : a.spot = none ∧ a.block < w.heap.size := by
  have hc := h
  unfold World.cell? at hc
  split at hc
  · rename_i c t fr hb
    split at hc
    · cases hc
    · rename_i hs
      refine ⟨?_, lt_of_heap hb⟩
      cases hq : a.spot with
      | none => rfl
      | some x => simp [hq] at hs
  · cases hc
/-- A slice, as a list, with what holds of each element. -/
theorem InS_of2 {w : World} {α : Type} {sz len : Nat} {a : Addr} (hsz : 0 < sz) (cell : α → Nat → Value) (zero : α) (Q : α → Prop) (h : ∀ i, i < len → ∃ g : α, (∀ j, j < sz → w.cell? ((a.add (i * sz)).add j) = some (cell g j)) ∧ Q g) :
    ∃ l : List α, l.length = len ∧ InS w noF sz (some a) len (fun k j => cell (l.getD k zero) j) ∧ ∀ k, k < len → Q (l.getD k zero) := by
  classical
  obtain ⟨ab, ao, asp⟩ := a
  refine ⟨(List.range len).map fun i => if h' : i < len then Classical.choose (h i h') else zero, by simp, fun h0 => ?_, fun k hk => ?_⟩
  · obtain ⟨g0, hg0, _⟩ := h 0 h0
    have h00 := hg0 0 hsz
    rw [show ((⟨ab, ao, asp⟩ : Addr).add (0 * sz)).add 0 = ⟨ab, ao, asp⟩ by simp [Addr.add]] at h00
    obtain ⟨hsp, hlt⟩ := addr_ok' h00
    dsimp only at hsp hlt
    subst hsp
    refine ⟨ab, ao, rfl, hlt, fun h => h, fun k j hk hj => ?_⟩
    have := (Classical.choose_spec (h k hk)).1 j hj
    simp only [List.getD_eq_getElem?_getD, List.getElem?_map, List.getElem?_range hk, Option.map_some, Option.getD_some, dif_pos hk]
    have e : ((⟨ab, ao, none⟩ : Addr).add (k * sz)).add j = ⟨ab, ao + k * sz + j, none⟩ := by rw [add_lit, add_lit]
    exact (congrArg w.cell? e).symm.trans this
  · simp only [List.getD_eq_getElem?_getD, List.getElem?_map, List.getElem?_range hk, Option.map_some, Option.getD_some, dif_pos hk]
    exact (Classical.choose_spec (h k hk)).2

theorem bulk_pos {H : Type} (d : DataW H) : 1 ≤ Rows.uptoBulk d := by
  cases d with
  | lit v => cases v <;> simp only [Rows.uptoBulk] <;> omega
  | _ => simp only [Rows.uptoBulk] <;> omega
theorem bulk_len {H : Type} : ∀ (ds : List (DataW H)), ds.length ≤ Rows.uptoBulkAll ds := by
  intro ds
  induction ds with
  | nil => exact Nat.zero_le _
  | cons d ds ih => have := bulk_pos d; simp only [Rows.uptoBulkAll, List.length_cons]; omega
theorem bulk_mem {H : Type} {d : DataW H} : ∀ {ds : List (DataW H)}, d ∈ ds → Rows.uptoBulk d ≤ Rows.uptoBulkAll ds := by
  intro ds
  induction ds with
  | nil => intro h; cases h
  | cons e ds ih =>
    intro h
    simp only [Rows.uptoBulkAll]
    rcases List.mem_cons.1 h with rfl | h
    · omega
    · have := ih h; omega
theorem wts_mem {H : Type} {P : Program} {e : TypeId} {d : DataW H} {n : Nat} : ∀ {ds : List (DataW H)}, d ∈ ds → n ∈ d.weights P e → n ∈ DataW.weightsAll P e ds := by
  intro ds
  induction ds with
  | nil => intro h; cases h
  | cons f ds ih =>
    intro h hn
    simp only [DataW.weightsAll, List.mem_append]
    rcases List.mem_cons.1 h with rfl | h
    · exact .inl hn
    · exact .inr (ih h hn)
/-- What is read before the call fits into memory. -/
def Fits {H : Type} (P : Program) (t : TypeId) (B : Nat) (d : DataW H) : Prop := (B ≤ 1048576 ∨ ∀ n ∈ d.weights P t, n ≤ reachBytes) ∧ Rows.uptoBulk d ≤ B
theorem fits_slice {H : Type} {P : Program} {t e B b : Nat} {elems spare : List (DataW H)} (hu : P.underlying t = some (.slice e)) (hb : P.bytesOf e = b) (hb' : b ≤ 1000) (h : Fits P t B (.slice elems spare)) : elems.length * b ≤ 140737488351232 ∧ elems.length ≤ B ∧ ∀ d ∈ elems, Fits P e B d := by
  obtain ⟨h1, h2⟩ := h
  simp only [Rows.uptoBulk] at h2
  have h4 := bulk_len elems
  have h5 : ∀ d ∈ elems, Rows.uptoBulk d ≤ B := fun d hd => by have := bulk_mem hd; omega
  rcases h1 with h1 | h1
  · refine ⟨?_, by omega, fun d hd => ⟨.inl h1, h5 d hd⟩⟩
    have : elems.length * b ≤ 1048576 * 1000 := Nat.mul_le_mul (by omega) hb'
    omega
  · simp only [DataW.weights, hu, List.mem_cons, List.mem_append] at h1
    have h3 := h1 _ (.inl rfl)
    rw [hb, Nat.add_mul] at h3
    unfold reachBytes at h3
    exact ⟨by omega, by omega, fun d hd => ⟨.inr fun n hn => h1 n (.inr (.inl (wts_mem hd hn))), h5 d hd⟩⟩
theorem fits_part {H : Type} {P : Program} {t B i u : Nat} {fs : Array Field} {parts : List (DataW H)} {d : DataW H} (hu : P.underlying t = some (.struct fs)) (ht : (fs.toList.map (·.type))[i]? = some u) (hd : parts[i]? = some d) (h : Fits P t B (.agg parts)) : Fits P u B d := by
  obtain ⟨h1, h2⟩ := h
  simp only [Rows.uptoBulk] at h2
  have := bulk_mem (List.mem_of_getElem? hd)
  refine ⟨h1.imp (fun h => h) fun h1 => ?_, by omega⟩
  simp only [DataW.weights, hu] at h1
  exact fun n hn => h1 n (DataW.weights_mem_each ht hd n hn)

theorem cells_1 {p : Nat → Prop} (h0 : p 0) : ∀ j, j < 1 → p j := by
  intro j hj
  match j, hj with
  | 0, _ => exact h0
theorem cells_4 {p : Nat → Prop} (h0 : p 0) (h1 : p 1) (h2 : p 2) (h3 : p 3) : ∀ j, j < 4 → p j := by
  intro j hj
  match j, hj with
  | 0, _ => exact h0
  | 1, _ => exact h1
  | 2, _ => exact h2
  | 3, _ => exact h3
set_option maxRecDepth 100000 in
theorem opn_3 {H : Type} {enc : TypeId × Value → H} {w : World} {fuel : Nat} {spare : Nat → Bool} {held : Bool} {cs : List Value} {x : DataW H × List MemPlace} (h : DataW.trod enc Try.prog w 0 spare held fuel 3 cs = some x) : ∃ n0 : Int, cs = [.int .i64 n0] := by
  obtain ⟨n, e, _, _⟩ := DataW.trod_int Try.underlying3 h
  exact ⟨n, by simpa using e⟩
theorem cof_23 : Try.prog.cellsOf 23 = 3 := by kernel_rfl
theorem cof_3 : Try.prog.cellsOf 3 = 1 := by kernel_rfl
set_option maxRecDepth 100000 in
theorem opn_23 {H : Type} {enc : TypeId × Value → H} {w : World} {fuel : Nat} {spare : Nat → Bool} {held : Bool} {cs : List Value} {x : DataW H × List MemPlace} (h : DataW.trod enc Try.prog w 0 spare held fuel 23 cs = some x) : ∃ n0 : Int, ∃ n1 : Int, ∃ n2 : Int, cs = [.int .i64 n0, .int .i64 n1, .int .i64 n2] := by
  obtain ⟨xs, n, _, hx, hl, hlen, hf⟩ := DataW.trod_struct Try.underlying23 h
  rw [cof_23] at hl
  match cs, hl with
  | [q0, q1, q2], _ =>
    match xs, hlen with
    | [y0, y1, y2], _ =>
      have f0 : DataW.trod enc Try.prog w 0 spare held n 3 [q0] = some y0 := by have := hf 0 _ rfl; simpa [cof_3] using this
      obtain ⟨p0n0, e0⟩ := opn_3 f0
      cases e0
      have f1 : DataW.trod enc Try.prog w 0 spare held n 3 [q1] = some y1 := by have := hf 1 _ rfl; simpa [cof_3] using this
      obtain ⟨p1n0, e1⟩ := opn_3 f1
      cases e1
      have f2 : DataW.trod enc Try.prog w 0 spare held n 3 [q2] = some y2 := by have := hf 2 _ rfl; simpa [cof_3] using this
      obtain ⟨p2n0, e2⟩ := opn_3 f2
      cases e2
      exact ⟨p0n0, p1n0, p2n0, rfl⟩
theorem cof_36 : Try.prog.cellsOf 36 = 2 := by kernel_rfl
set_option maxRecDepth 100000 in
theorem opn_36 {H : Type} {enc : TypeId × Value → H} {w : World} {fuel : Nat} {spare : Nat → Bool} {held : Bool} {cs : List Value} {x : DataW H × List MemPlace} (h : DataW.trod enc Try.prog w 0 spare held fuel 36 cs = some x) : ∃ n0 : Int, ∃ n1 : Int, cs = [.int .i64 n0, .int .i64 n1] := by
  obtain ⟨xs, n, _, hx, hl, hlen, hf⟩ := DataW.trod_struct Try.underlying36 h
  rw [cof_36] at hl
  match cs, hl with
  | [q0, q1], _ =>
    match xs, hlen with
    | [y0, y1], _ =>
      have f0 : DataW.trod enc Try.prog w 0 spare held n 3 [q0] = some y0 := by have := hf 0 _ rfl; simpa [cof_3] using this
      obtain ⟨p0n0, e0⟩ := opn_3 f0
      cases e0
      have f1 : DataW.trod enc Try.prog w 0 spare held n 3 [q1] = some y1 := by have := hf 1 _ rfl; simpa [cof_3] using this
      obtain ⟨p1n0, e1⟩ := opn_3 f1
      cases e1
      exact ⟨p0n0, p1n0, rfl⟩
theorem cof_41 : Try.prog.cellsOf 41 = 4 := by kernel_rfl
set_option maxRecDepth 100000 in
theorem opn_41 {H : Type} {enc : TypeId × Value → H} {w : World} {fuel : Nat} {spare : Nat → Bool} {held : Bool} {cs : List Value} {x : DataW H × List MemPlace} (h : DataW.trod enc Try.prog w 0 spare held fuel 41 cs = some x) : ∃ n0 : Int, ∃ n1 : Int, ∃ n2 : Int, ∃ n3 : Int, cs = [.int .i64 n0, .int .i64 n1, .int .i64 n2, .int .i64 n3] := by
  obtain ⟨xs, n, _, hx, hl, hlen, hf⟩ := DataW.trod_struct Try.underlying41 h
  rw [cof_41] at hl
  match cs, hl with
  | [q0, q1, q2, q3], _ =>
    match xs, hlen with
    | [y0, y1, y2], _ =>
      have f0 : DataW.trod enc Try.prog w 0 spare held n 3 [q0] = some y0 := by have := hf 0 _ rfl; simpa [cof_3] using this
      obtain ⟨p0n0, e0⟩ := opn_3 f0
      cases e0
      have f1 : DataW.trod enc Try.prog w 0 spare held n 3 [q1] = some y1 := by have := hf 1 _ rfl; simpa [cof_3] using this
      obtain ⟨p1n0, e1⟩ := opn_3 f1
      cases e1
      have f2 : DataW.trod enc Try.prog w 0 spare held n 36 [q2, q3] = some y2 := by have := hf 2 _ rfl; simpa [cof_36] using this
      obtain ⟨p2n0, p2n1, e2⟩ := opn_36 f2
      cases e2
      exact ⟨p0n0, p1n0, p2n0, p2n1, rfl⟩
theorem bof_41 : Try.prog.bytesOf 41 = 32 := by kernel_rfl
set_option maxRecDepth 100000 in
theorem opn_24 {H : Type} {enc : TypeId × Value → H} {w : World} {fuel : Nat} {spare : Nat → Bool} {held : Bool} {cs : List Value} {x : DataW H × List MemPlace} (h : DataW.trod enc Try.prog w 0 spare held fuel 24 cs = some x) {B : Nat} (hz : Fits Try.prog 24 B x.1) : ∃ l0 : List Gauge, ∃ A0 : Option Addr, ∃ c0 : Nat, cs = [.slice A0 l0.length c0] ∧ InS w noF 4 A0 l0.length (gcell l0) ∧ l0.length * 32 ≤ 140737488351232 ∧ l0.length ≤ B := by
  rcases Go.Deep.open_slice Try.underlying24 h with ⟨hcs, _⟩ | ⟨a, len', cap', m, n, D, Pl, hcs, _, hlc, hcm, hm, hx, hi⟩
  · subst hcs
    exact ⟨[], none, 0, rfl, InS.nil, by decide, Nat.zero_le _⟩
  · subst hcs
    rw [hx] at hz
    obtain ⟨hz1, hz2, hz3⟩ := fits_slice Try.underlying24 bof_41 (by decide) hz
    rw [List.length_map, List.length_range] at hz1 hz2
    have hmle : len' ≤ m := by rw [hm]; split <;> omega
    obtain ⟨l, hl, hin, hq⟩ := InS_of2 (w := w) (a := a) (len := len') (sz := 4) (by decide) Gauge.cell Gauge.zero (fun _ => True) (fun i hil => by
      obtain ⟨cs', hc, ht⟩ := hi i (by omega)
      rw [cof_41] at hc
      obtain ⟨_, _, hat⟩ := World.cells?_some hc
      obtain ⟨en0, en1, en2, en3, rfl⟩ := opn_41 ht
      exact ⟨⟨en0, en1, en2, en3⟩, fun j hj => by rw [hat j hj]; revert j; exact cells_4 (rfl) (rfl) (rfl) (rfl), trivial⟩)
    subst hl
    exact ⟨l, some a, cap', rfl, hin, hz1, hz2⟩
theorem bof_3 : Try.prog.bytesOf 3 = 8 := by kernel_rfl
set_option maxRecDepth 100000 in
theorem opn_25 {H : Type} {enc : TypeId × Value → H} {w : World} {fuel : Nat} {spare : Nat → Bool} {held : Bool} {cs : List Value} {x : DataW H × List MemPlace} (h : DataW.trod enc Try.prog w 0 spare held fuel 25 cs = some x) {B : Nat} (hz : Fits Try.prog 25 B x.1) : ∃ l0 : List Int, ∃ A0 : Option Addr, ∃ c0 : Nat, cs = [.slice A0 l0.length c0] ∧ InS w noF 1 A0 l0.length (icl l0) ∧ l0.length * 8 ≤ 140737488351232 ∧ l0.length ≤ B := by
  rcases Go.Deep.open_slice Try.underlying25 h with ⟨hcs, _⟩ | ⟨a, len', cap', m, n, D, Pl, hcs, _, hlc, hcm, hm, hx, hi⟩
  · subst hcs
    exact ⟨[], none, 0, rfl, InS.nil, by decide, Nat.zero_le _⟩
  · subst hcs
    rw [hx] at hz
    obtain ⟨hz1, hz2, hz3⟩ := fits_slice Try.underlying25 bof_3 (by decide) hz
    rw [List.length_map, List.length_range] at hz1 hz2
    have hmle : len' ≤ m := by rw [hm]; split <;> omega
    obtain ⟨l, hl, hin, hq⟩ := InS_of2 (w := w) (a := a) (len := len') (sz := 1) (by decide) icell1 0 (fun _ => True) (fun i hil => by
      obtain ⟨cs', hc, ht⟩ := hi i (by omega)
      rw [cof_3] at hc
      obtain ⟨_, _, hat⟩ := World.cells?_some hc
      obtain ⟨en0, rfl⟩ := opn_3 ht
      exact ⟨en0, fun j hj => by rw [hat j hj]; revert j; exact cells_1 (rfl), trivial⟩)
    subst hl
    exact ⟨l, some a, cap', rfl, hin, hz1, hz2⟩
theorem cof_95 : Try.prog.cellsOf 95 = 4 := by kernel_rfl
set_option maxRecDepth 100000 in
theorem opn_95 {H : Type} {enc : TypeId × Value → H} {w : World} {fuel : Nat} {spare : Nat → Bool} {held : Bool} {cs : List Value} {x : DataW H × List MemPlace} (h : DataW.trod enc Try.prog w 0 spare held fuel 95 cs = some x) : ∃ n0 : Int, ∃ n1 : Int, ∃ n2 : Int, ∃ n3 : Int, cs = [.int .i64 n0, .int .i64 n1, .int .i64 n2, .int .i64 n3] := by
  obtain ⟨xs, n, _, hx, hl, hlen, hf⟩ := DataW.trod_struct Try.underlying95 h
  rw [cof_95] at hl
  match cs, hl with
  | [q0, q1, q2, q3], _ =>
    match xs, hlen with
    | [y0, y1, y2, y3], _ =>
      have f0 : DataW.trod enc Try.prog w 0 spare held n 3 [q0] = some y0 := by have := hf 0 _ rfl; simpa [cof_3] using this
      obtain ⟨p0n0, e0⟩ := opn_3 f0
      cases e0
      have f1 : DataW.trod enc Try.prog w 0 spare held n 3 [q1] = some y1 := by have := hf 1 _ rfl; simpa [cof_3] using this
      obtain ⟨p1n0, e1⟩ := opn_3 f1
      cases e1
      have f2 : DataW.trod enc Try.prog w 0 spare held n 3 [q2] = some y2 := by have := hf 2 _ rfl; simpa [cof_3] using this
      obtain ⟨p2n0, e2⟩ := opn_3 f2
      cases e2
      have f3 : DataW.trod enc Try.prog w 0 spare held n 3 [q3] = some y3 := by have := hf 3 _ rfl; simpa [cof_3] using this
      obtain ⟨p3n0, e3⟩ := opn_3 f3
      cases e3
      exact ⟨p0n0, p1n0, p2n0, p3n0, rfl⟩
theorem bof_95 : Try.prog.bytesOf 95 = 32 := by kernel_rfl
set_option maxRecDepth 100000 in
theorem opn_26 {H : Type} {enc : TypeId × Value → H} {w : World} {fuel : Nat} {spare : Nat → Bool} {held : Bool} {cs : List Value} {x : DataW H × List MemPlace} (h : DataW.trod enc Try.prog w 0 spare held fuel 26 cs = some x) {B : Nat} (hz : Fits Try.prog 26 B x.1) : ∃ l0 : List Rdg, ∃ A0 : Option Addr, ∃ c0 : Nat, cs = [.slice A0 l0.length c0] ∧ InS w noF 4 A0 l0.length (rdcell l0) ∧ l0.length * 32 ≤ 140737488351232 ∧ l0.length ≤ B := by
  rcases Go.Deep.open_slice Try.underlying26 h with ⟨hcs, _⟩ | ⟨a, len', cap', m, n, D, Pl, hcs, _, hlc, hcm, hm, hx, hi⟩
  · subst hcs
    exact ⟨[], none, 0, rfl, InS.nil, by decide, Nat.zero_le _⟩
  · subst hcs
    rw [hx] at hz
    obtain ⟨hz1, hz2, hz3⟩ := fits_slice Try.underlying26 bof_95 (by decide) hz
    rw [List.length_map, List.length_range] at hz1 hz2
    have hmle : len' ≤ m := by rw [hm]; split <;> omega
    obtain ⟨l, hl, hin, hq⟩ := InS_of2 (w := w) (a := a) (len := len') (sz := 4) (by decide) Rdg.cell Rdg.zero (fun _ => True) (fun i hil => by
      obtain ⟨cs', hc, ht⟩ := hi i (by omega)
      rw [cof_95] at hc
      obtain ⟨_, _, hat⟩ := World.cells?_some hc
      obtain ⟨en0, en1, en2, en3, rfl⟩ := opn_95 ht
      exact ⟨⟨en0, en1, en2, en3⟩, fun j hj => by rw [hat j hj]; revert j; exact cells_4 (rfl) (rfl) (rfl) (rfl), trivial⟩)
    subst hl
    exact ⟨l, some a, cap', rfl, hin, hz1, hz2⟩
theorem cof_28 : Try.prog.cellsOf 28 = 4 := by kernel_rfl
theorem cof_25 : Try.prog.cellsOf 25 = 1 := by kernel_rfl
theorem cof_26 : Try.prog.cellsOf 26 = 1 := by kernel_rfl
set_option maxRecDepth 100000 in
theorem opn_28 {H : Type} {enc : TypeId × Value → H} {w : World} {fuel : Nat} {spare : Nat → Bool} {held : Bool} {cs : List Value} {x : DataW H × List MemPlace} (h : DataW.trod enc Try.prog w 0 spare held fuel 28 cs = some x) {B : Nat} (hz : Fits Try.prog 28 B x.1) : ∃ l0 : List Int, ∃ A0 : Option Addr, ∃ c0 : Nat, ∃ n1 : Int, ∃ n2 : Int, ∃ l3 : List Rdg, ∃ A3 : Option Addr, ∃ c3 : Nat, cs = [.slice A0 l0.length c0, .int .i64 n1, .int .i64 n2, .slice A3 l3.length c3] ∧ InS w noF 1 A0 l0.length (icl l0) ∧ l0.length * 8 ≤ 140737488351232 ∧ l0.length ≤ B ∧ InS w noF 4 A3 l3.length (rdcell l3) ∧ l3.length * 32 ≤ 140737488351232 ∧ l3.length ≤ B := by
  obtain ⟨xs, n, _, hx, hl, hlen, hf⟩ := DataW.trod_struct Try.underlying28 h
  rw [cof_28] at hl
  match cs, hl with
  | [q0, q1, q2, q3], _ =>
    match xs, hlen with
    | [y0, y1, y2, y3], _ =>
      have f0 : DataW.trod enc Try.prog w 0 spare held n 25 [q0] = some y0 := by have := hf 0 _ rfl; simpa [cof_25] using this
      have g0 := fits_part (i := 0) (u := 25) (d := y0.1) Try.underlying28 rfl rfl (by rw [hx] at hz; exact hz)
      obtain ⟨p0l0, p0A0, p0c0, e0, p0f0, p0f1, p0f2⟩ := opn_25 f0 g0
      cases e0
      have f1 : DataW.trod enc Try.prog w 0 spare held n 3 [q1] = some y1 := by have := hf 1 _ rfl; simpa [cof_3] using this
      obtain ⟨p1n0, e1⟩ := opn_3 f1
      cases e1
      have f2 : DataW.trod enc Try.prog w 0 spare held n 3 [q2] = some y2 := by have := hf 2 _ rfl; simpa [cof_3] using this
      obtain ⟨p2n0, e2⟩ := opn_3 f2
      cases e2
      have f3 : DataW.trod enc Try.prog w 0 spare held n 26 [q3] = some y3 := by have := hf 3 _ rfl; simpa [cof_26] using this
      have g3 := fits_part (i := 3) (u := 26) (d := y3.1) Try.underlying28 rfl rfl (by rw [hx] at hz; exact hz)
      obtain ⟨p3l0, p3A0, p3c0, e3, p3f0, p3f1, p3f2⟩ := opn_26 f3 g3
      cases e3
      exact ⟨p0l0, p0A0, p0c0, p1n0, p2n0, p3l0, p3A0, p3c0, rfl, p0f0, p0f1, p0f2, p3f0, p3f1, p3f2⟩
set_option maxRecDepth 100000 in
theorem par_23 {H : Type} {enc : TypeId × Value → H} {w : World} {r : Reach} {b0 : Nat} {v : Value} {d : DataW H} {p : List MemPlace} {sp : Nat → Bool} {hd : Bool} (hv : Value.okWide Try.prog w r b0 23 v) (h : DataW.Trod enc Try.prog w 0 sp hd 23 v d p) : ∃ n0 : Int, ∃ n1 : Int, ∃ n2 : Int, v = .agg [.int .i64 n0, .int .i64 n1, .int .i64 n2].toArray := by
  obtain ⟨cs, rfl, _⟩ := okWide_struct Try.underlying23 hv
  obtain ⟨fuel, hf⟩ := h
  obtain ⟨n0, n1, n2, e⟩ := opn_23 hf
  have e' : cs = [.int .i64 n0, .int .i64 n1, .int .i64 n2].toArray := by rw [← e]; simp [Value.cells]
  subst e'
  exact ⟨n0, n1, n2, rfl⟩
set_option maxRecDepth 100000 in
theorem par_24 {H : Type} {enc : TypeId × Value → H} {w : World} {r : Reach} {b0 : Nat} {v : Value} {d : DataW H} {p : List MemPlace} {sp : Nat → Bool} {hd : Bool} (hv : Value.okWide Try.prog w r b0 24 v) (h : DataW.Trod enc Try.prog w 0 sp hd 24 v d p) {B : Nat} (hz : Fits Try.prog 24 B d) : ∃ l0 : List Gauge, ∃ A0 : Option Addr, ∃ c0 : Nat, v = .slice A0 l0.length c0 ∧ InS w noF 4 A0 l0.length (gcell l0) ∧ l0.length * 32 ≤ 140737488351232 ∧ l0.length ≤ B := by
  obtain ⟨a0, len, cap, rfl⟩ := okWide_slice Try.underlying24 hv
  obtain ⟨fuel, hf⟩ := h
  obtain ⟨l0, A0, c0, e, f0, f1, f2⟩ := opn_24 hf hz
  have e2 : Value.slice a0 len cap = .slice A0 l0.length c0 := by simpa [Value.cells] using e
  exact ⟨l0, A0, c0, e2, f0, f1, f2⟩
set_option maxRecDepth 100000 in
theorem par_28 {H : Type} {enc : TypeId × Value → H} {w : World} {r : Reach} {b0 : Nat} {v : Value} {d : DataW H} {p : List MemPlace} {sp : Nat → Bool} {hd : Bool} (hv : Value.okWide Try.prog w r b0 28 v) (h : DataW.Trod enc Try.prog w 0 sp hd 28 v d p) {B : Nat} (hz : Fits Try.prog 28 B d) : ∃ l0 : List Int, ∃ A0 : Option Addr, ∃ c0 : Nat, ∃ n1 : Int, ∃ n2 : Int, ∃ l3 : List Rdg, ∃ A3 : Option Addr, ∃ c3 : Nat, v = .agg [.slice A0 l0.length c0, .int .i64 n1, .int .i64 n2, .slice A3 l3.length c3].toArray ∧ InS w noF 1 A0 l0.length (icl l0) ∧ l0.length * 8 ≤ 140737488351232 ∧ l0.length ≤ B ∧ InS w noF 4 A3 l3.length (rdcell l3) ∧ l3.length * 32 ≤ 140737488351232 ∧ l3.length ≤ B := by
  obtain ⟨cs, rfl, _⟩ := okWide_struct Try.underlying28 hv
  obtain ⟨fuel, hf⟩ := h
  obtain ⟨l0, A0, c0, n1, n2, l3, A3, c3, e, f0, f1, f2, f3, f4, f5⟩ := opn_28 hf hz
  have e' : cs = [.slice A0 l0.length c0, .int .i64 n1, .int .i64 n2, .slice A3 l3.length c3].toArray := by rw [← e]; simp [Value.cells]
  subst e'
  exact ⟨l0, A0, c0, n1, n2, l3, A3, c3, rfl, f0, f1, f2, f3, f4, f5⟩

end Go.Proofs.Ytdepakimbagonaa
