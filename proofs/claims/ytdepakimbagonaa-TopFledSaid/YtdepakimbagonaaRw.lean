/- Rw. Printed by gen.py. -/
import Derived.Test.YtdepakimbagonaaFlA
import Derived.Test.YtdepakimbagonaaFacts
import Derived.Test.YtdepakimbagonaaRows
import Derived.ProofKit
import Derived.OpenShut
import Derived.Deep.Slices
import Derived.Lib.SmallJoins
import Derived.SizedLaws
import Derived.JoinedCond
namespace Go.Proofs.Ytdepakimbagonaa
open Go.RowKit
set_option linter.unusedVariables false
set_option linter.unusedSimpArgs false
set_option maxRecDepth 100000
set_option maxHeartbeats 4000000


open Go.ChangeShapes Go.WideShapes Go.ChangeAt Go.Deep Go.Joins
section
variable {H : Type} {enc : TypeId × Value → H} {P : Program}
/-- As post_of_same: only what was there need stay unfrozen. -/
theorem post_of_old {f : Func} {s : ChangeSpec} {apart fresh handsOn again : Bool} {W W' : World} {args : Array Value} {v : Value} {ds gs : List (DataW H)} {before pa pv : List MemPlace}
    (hW : DataW.Whole enc P f.params.toList s.vars apart W args.toList ds gs before)
    (hres : ∀ (b : Nat) (sp : Nat → Bool) (hd : Bool), DataW.TrodAll enc P W' b sp hd f.resultTypes.toList (v.resultList f.resultTypes.size) (s.fn H (ds ++ gs)).results [])
    (hargs : ∀ sp : Nat → Bool, (∀ p ∈ before, sp p.block = true) → DataW.TrodAll enc P W' 0 sp true f.params.toList args.toList (s.fn H (ds ++ gs)).args pa)
    (hvars : ∀ sp : Nat → Bool, (∀ p ∈ before, sp p.block = true) → DataW.TrodVars enc P W' sp s.vars (s.fn H (ds ++ gs)).vars pv)
    (hps : before = pa ++ pv) (hk : W.keptBut W' (· ∈ before)) (hfz : ∀ a : Addr, a.block < W.heap.size → W'.frozen? a = W.frozen? a)
    (hok : ∀ (j : Nat) (t : TypeId) (r : Value), f.resultTypes[j]? = some t → (v.resultList f.resultTypes.size)[j]? = some r → Value.okWide P W' .any 0 t r) :
    s.post enc P f apart fresh handsOn again W args v W' := by
  have hold : ∀ p ∈ before, (fun b => decide (b < W.heap.size)) p.block = true := fun p hp => by simpa using hW.lt p hp
  have hlt := hW.lt
  refine ⟨ds, gs, before, [], pa, pv, hW, hres _ _ _, hargs _ hold, hvars _ hold, World.keptBut_mono (fun p hp => ⟨hp, ?_⟩) hk, fun _ => ?_⟩
  · rw [hps, List.mem_append] at hp
    exact Or.inr hp
  · obtain ⟨_, _, _, _, _, hz, hn⟩ := hW
    refine ⟨hok, _, _, ([] ++ pa) ++ pv, ⟨[] ++ pa, pv, trodAll_append (hargs _ (fun _ _ => rfl)) (hres _ _ _), hvars _ (fun _ _ => rfl), rfl, ?_, ?_⟩, ?_⟩
    · intro b off hp
      have hb : MemPlace.cell b off ∈ before := by rw [hps]; simpa using hp
      rw [hfz _ (hlt _ hb)]
      exact hz b off hb
    · intro ha
      have := hn ha
      rw [hps] at this
      simpa using this
    · intro p hp _
      rw [hps]
      simpa using hp
end
theorem St.same {w w' : World} {R : List Mem} (S : St w noF R w') {k : Nat} (hk : k < w.heap.size) : w'.heap[k]? = w.heap[k]? := S.ro k hk (fun h => h)
theorem St.kept {w w' : World} {R : List Mem} (S : St w noF R w') (may : MemPlace → Prop) : w.keptBut w' may := by
  refine ⟨S.os, S.out, fun i hi => ?_⟩
  rw [S.same hi]
  cases w.heap[i]? with
  | none => trivial
  | some o =>
    cases o with
    | cells c t fr => exact ⟨rfl, rfl, rfl, fun _ _ => rfl⟩
    | map es c => exact .inr ⟨rfl, rfl⟩
    | _ => rfl
theorem St.frozen {w w' : World} {R : List Mem} (S : St w noF R w') (a : Addr) (ha : a.block < w.heap.size) : w'.frozen? a = w.frozen? a := World.frozen?_of_block (S.same ha)
theorem St.sameAt {w w' : World} {R : List Mem} (S : St w noF R w') (p : MemPlace) (hp : p.block < w.heap.size) : w.sameAt w' p := by
  cases p with
  | cell b off => exact World.cell?_of_block (S.same hp)
  | map b => exact S.same hp

theorem seat_own : ownKnob Try.prog.godebug = none := by kernel_rfl
theorem seat_laid : laidOutB Try.prog = true := by kernel_rfl

theorem addr_ok' {w : World} {a : Addr} {v : Value} (h : w.cell? a = some v) : a.spot = none ∧ a.block < w.heap.size := by
  have hc := h
  unfold World.cell? at hc
  split at hc
  · rename_i c t fr hb
    split at hc
    · cases hc
    · rename_i hs
      refine ⟨?_, lt_of_heap hb⟩
      cases hq : a.spot with
      | none => rfl
      | some x => simp [hq] at hs
  · cases hc
/-- A slice, as a list, with what holds of each element. -/
theorem InS_of2 {w : World} {α : Type} {sz len : Nat} {a : Addr} (hsz : 0 < sz) (cell : α → Nat → Value) (zero : α) (Q : α → Prop) (h : ∀ i, i < len → ∃ g : α, (∀ j, j < sz → w.cell? ((a.add (i * sz)).add j) = some (cell g j)) ∧ Q g) :
    ∃ l : List α, l.length = len ∧ InS w noF sz (some a) len (fun k j => cell (l.getD k zero) j) ∧ ∀ k, k < len → Q (l.getD k zero) := by
  classical
  obtain ⟨ab, ao, asp⟩ := a
  refine ⟨(List.range len).map fun i => if h' : i < len then Classical.choose (h i h') else zero, by simp, fun h0 => ?_, fun k hk => ?_⟩
  · obtain ⟨g0, hg0, _⟩ := h 0 h0
    have h00 := hg0 0 hsz
    rw [show ((⟨ab, ao, asp⟩ : Addr).add (0 * sz)).add 0 = ⟨ab, ao, asp⟩ by simp [Addr.add]] at h00
    obtain ⟨hsp, hlt⟩ := addr_ok' h00
    dsimp only at hsp hlt
    subst hsp
    refine ⟨ab, ao, rfl, hlt, fun h => h, fun k j hk hj => ?_⟩
    have := (Classical.choose_spec (h k hk)).1 j hj
    simp only [List.getD_eq_getElem?_getD, List.getElem?_map, List.getElem?_range hk, Option.map_some, Option.getD_some, dif_pos hk]
    have e : ((⟨ab, ao, none⟩ : Addr).add (k * sz)).add j = ⟨ab, ao + k * sz + j, none⟩ := by rw [add_lit, add_lit]
    exact (congrArg w.cell? e).symm.trans this
  · simp only [List.getD_eq_getElem?_getD, List.getElem?_map, List.getElem?_range hk, Option.map_some, Option.getD_some, dif_pos hk]
    exact (Classical.choose_spec (h k hk)).2

theorem bulk_pos {H : Type} (d : DataW H) : 1 ≤ Rows.uptoBulk d := by
  cases d with
  | lit v => cases v <;> simp only [Rows.uptoBulk] <;> omega
  | _ => simp only [Rows.uptoBulk] <;> omega
theorem bulk_len {H : Type} : ∀ (ds : List (DataW H)), ds.length ≤ Rows.uptoBulkAll ds := by
  intro ds
  induction ds with
  | nil => exact Nat.zero_le _
  | cons d ds ih => have := bulk_pos d; simp only [Rows.uptoBulkAll, List.length_cons]; omega
theorem bulk_mem {H : Type} {d : DataW H} : ∀ {ds : List (DataW H)}, d ∈ ds → Rows.uptoBulk d ≤ Rows.uptoBulkAll ds := by
  intro ds
  induction ds with
  | nil => intro h; cases h
  | cons e ds ih =>
    intro h
    simp only [Rows.uptoBulkAll]
    rcases List.mem_cons.1 h with rfl | h
    · omega
    · have := ih h; omega
theorem wts_mem {H : Type} {P : Program} {e : TypeId} {d : DataW H} {n : Nat} : ∀ {ds : List (DataW H)}, d ∈ ds → n ∈ d.weights P e → n ∈ DataW.weightsAll P e ds := by
  intro ds
  induction ds with
  | nil => intro h; cases h
  | cons f ds ih =>
    intro h hn
    simp only [DataW.weightsAll, List.mem_append]
    rcases List.mem_cons.1 h with rfl | h
    · exact .inl hn
    · exact .inr (ih h hn)
/-- What is read before the call fits into memory. -/
def Fits {H : Type} (P : Program) (t : TypeId) (B : Nat) (d : DataW H) : Prop := (B ≤ 1048576 ∨ ∀ n ∈ d.weights P t, n ≤ reachBytes) ∧ Rows.uptoBulk d ≤ B
theorem fits_slice {H : Type} {P : Program} {t e B b : Nat} {elems spare : List (DataW H)} (hu : P.underlying t = some (.slice e)) (hb : P.bytesOf e = b) (hb' : b ≤ 1000) (h : Fits P t B (.slice elems spare)) : elems.length * b ≤ 140737488351232 ∧ elems.length ≤ B ∧ ∀ d ∈ elems, Fits P e B d := by
  obtain ⟨h1, h2⟩ := h
  simp only [Rows.uptoBulk] at h2
  have h4 := bulk_len elems
  have h5 : ∀ d ∈ elems, Rows.uptoBulk d ≤ B := fun d hd => by have := bulk_mem hd; omega
  rcases h1 with h1 | h1
  · refine ⟨?_, by omega, fun d hd => ⟨.inl h1, h5 d hd⟩⟩
    have : elems.length * b ≤ 1048576 * 1000 := Nat.mul_le_mul (by omega) hb'
    omega
  · simp only [DataW.weights, hu, List.mem_cons, List.mem_append] at h1
    have h3 := h1 _ (.inl rfl)
    rw [hb, Nat.add_mul] at h3
    unfold reachBytes at h3
    exact ⟨by omega, by omega, fun d hd => ⟨.inr fun n hn => h1 n (.inr (.inl (wts_mem hd hn))), h5 d hd⟩⟩
theorem fits_part {H : Type} {P : Program} {t B i u : Nat} {fs : Array Field} {parts : List (DataW H)} {d : DataW H} (hu : P.underlying t = some (.struct fs)) (ht : (fs.toList.map (·.type))[i]? = some u) (hd : parts[i]? = some d) (h : Fits P t B (.agg parts)) : Fits P u B d := by
  obtain ⟨h1, h2⟩ := h
  simp only [Rows.uptoBulk] at h2
  have := bulk_mem (List.mem_of_getElem? hd)
  refine ⟨h1.imp (fun h => h) fun h1 => ?_, by omega⟩
  simp only [DataW.weights, hu] at h1
  exact fun n hn => h1 n (DataW.weights_mem_each ht hd n hn)

theorem cells_1 {p : Nat → Prop} (h0 : p 0) : ∀ j, j < 1 → p j := by
  intro j hj
  match j, hj with
  | 0, _ => exact h0
theorem cells_7 {p : Nat → Prop} (h0 : p 0) (h1 : p 1) (h2 : p 2) (h3 : p 3) (h4 : p 4) (h5 : p 5) (h6 : p 6) : ∀ j, j < 7 → p j := by
  intro j hj
  match j, hj with
  | 0, _ => exact h0
  | 1, _ => exact h1
  | 2, _ => exact h2
  | 3, _ => exact h3
  | 4, _ => exact h4
  | 5, _ => exact h5
  | 6, _ => exact h6
set_option maxRecDepth 100000 in
theorem opn_3 {H : Type} {enc : TypeId × Value → H} {w : World} {fuel : Nat} {spare : Nat → Bool} {held : Bool} {cs : List Value} {x : DataW H × List MemPlace} (h : DataW.trod enc Try.prog w 0 spare held fuel 3 cs = some x) : ∃ n0 : Int, cs = [.int .i64 n0] := by
  obtain ⟨n, e, _, _⟩ := DataW.trod_int Try.underlying3 h
  exact ⟨n, by simpa using e⟩
theorem cof_62 : Try.prog.cellsOf 62 = 7 := by kernel_rfl
theorem cof_3 : Try.prog.cellsOf 3 = 1 := by kernel_rfl
set_option maxRecDepth 100000 in
theorem opn_62 {H : Type} {enc : TypeId × Value → H} {w : World} {fuel : Nat} {spare : Nat → Bool} {held : Bool} {cs : List Value} {x : DataW H × List MemPlace} (h : DataW.trod enc Try.prog w 0 spare held fuel 62 cs = some x) : ∃ n0 : Int, ∃ n1 : Int, ∃ n2 : Int, ∃ n3 : Int, ∃ n4 : Int, ∃ n5 : Int, ∃ n6 : Int, cs = [.int .i64 n0, .int .i64 n1, .int .i64 n2, .int .i64 n3, .int .i64 n4, .int .i64 n5, .int .i64 n6] := by
  obtain ⟨xs, n, _, hx, hl, hlen, hf⟩ := DataW.trod_struct Try.underlying62 h
  rw [cof_62] at hl
  match cs, hl with
  | [q0, q1, q2, q3, q4, q5, q6], _ =>
    match xs, hlen with
    | [y0, y1, y2, y3, y4, y5, y6], _ =>
      have f0 : DataW.trod enc Try.prog w 0 spare held n 3 [q0] = some y0 := by have := hf 0 _ rfl; simpa [cof_3] using this
      obtain ⟨p0n0, e0⟩ := opn_3 f0
      cases e0
      have f1 : DataW.trod enc Try.prog w 0 spare held n 3 [q1] = some y1 := by have := hf 1 _ rfl; simpa [cof_3] using this
      obtain ⟨p1n0, e1⟩ := opn_3 f1
      cases e1
      have f2 : DataW.trod enc Try.prog w 0 spare held n 3 [q2] = some y2 := by have := hf 2 _ rfl; simpa [cof_3] using this
      obtain ⟨p2n0, e2⟩ := opn_3 f2
      cases e2
      have f3 : DataW.trod enc Try.prog w 0 spare held n 3 [q3] = some y3 := by have := hf 3 _ rfl; simpa [cof_3] using this
      obtain ⟨p3n0, e3⟩ := opn_3 f3
      cases e3
      have f4 : DataW.trod enc Try.prog w 0 spare held n 3 [q4] = some y4 := by have := hf 4 _ rfl; simpa [cof_3] using this
      obtain ⟨p4n0, e4⟩ := opn_3 f4
      cases e4
      have f5 : DataW.trod enc Try.prog w 0 spare held n 3 [q5] = some y5 := by have := hf 5 _ rfl; simpa [cof_3] using this
      obtain ⟨p5n0, e5⟩ := opn_3 f5
      cases e5
      have f6 : DataW.trod enc Try.prog w 0 spare held n 3 [q6] = some y6 := by have := hf 6 _ rfl; simpa [cof_3] using this
      obtain ⟨p6n0, e6⟩ := opn_3 f6
      cases e6
      exact ⟨p0n0, p1n0, p2n0, p3n0, p4n0, p5n0, p6n0, rfl⟩
theorem bof_62 : Try.prog.bytesOf 62 = 56 := by kernel_rfl
set_option maxRecDepth 100000 in
theorem opn_47 {H : Type} {enc : TypeId × Value → H} {w : World} {fuel : Nat} {spare : Nat → Bool} {held : Bool} {cs : List Value} {x : DataW H × List MemPlace} (h : DataW.trod enc Try.prog w 0 spare held fuel 47 cs = some x) {B : Nat} (hz : Fits Try.prog 47 B x.1) : ∃ l0 : List Psg, ∃ A0 : Option Addr, ∃ c0 : Nat, cs = [.slice A0 l0.length c0] ∧ InS w noF 7 A0 l0.length (pcell l0) ∧ l0.length * 56 ≤ 140737488351232 ∧ l0.length ≤ B := by
  rcases Go.Deep.open_slice Try.underlying47 h with ⟨hcs, _⟩ | ⟨a, len', cap', m, n, D, Pl, hcs, _, hlc, hcm, hm, hx, hi⟩
  · subst hcs
    exact ⟨[], none, 0, rfl, InS.nil, by decide, Nat.zero_le _⟩
  · subst hcs
    rw [hx] at hz
    obtain ⟨hz1, hz2, hz3⟩ := fits_slice Try.underlying47 bof_62 (by decide) hz
    rw [List.length_map, List.length_range] at hz1 hz2
    have hmle : len' ≤ m := by rw [hm]; split <;> omega
    obtain ⟨l, hl, hin, hq⟩ := InS_of2 (w := w) (a := a) (len := len') (sz := 7) (by decide) Psg.cell Psg.zero (fun _ => True) (fun i hil => by
      obtain ⟨cs', hc, ht⟩ := hi i (by omega)
      rw [cof_62] at hc
      obtain ⟨_, _, hat⟩ := World.cells?_some hc
      obtain ⟨en0, en1, en2, en3, en4, en5, en6, rfl⟩ := opn_62 ht
      exact ⟨⟨en0, en1, en2, en3, en4, en5, en6⟩, fun j hj => by rw [hat j hj]; revert j; exact cells_7 (rfl) (rfl) (rfl) (rfl) (rfl) (rfl) (rfl), trivial⟩)
    subst hl
    exact ⟨l, some a, cap', rfl, hin, hz1, hz2⟩
theorem bof_3 : Try.prog.bytesOf 3 = 8 := by kernel_rfl
set_option maxRecDepth 100000 in
theorem opn_25 {H : Type} {enc : TypeId × Value → H} {w : World} {fuel : Nat} {spare : Nat → Bool} {held : Bool} {cs : List Value} {x : DataW H × List MemPlace} (h : DataW.trod enc Try.prog w 0 spare held fuel 25 cs = some x) {B : Nat} (hz : Fits Try.prog 25 B x.1) : ∃ l0 : List Int, ∃ A0 : Option Addr, ∃ c0 : Nat, cs = [.slice A0 l0.length c0] ∧ InS w noF 1 A0 l0.length (icl l0) ∧ l0.length * 8 ≤ 140737488351232 ∧ l0.length ≤ B := by
  rcases Go.Deep.open_slice Try.underlying25 h with ⟨hcs, _⟩ | ⟨a, len', cap', m, n, D, Pl, hcs, _, hlc, hcm, hm, hx, hi⟩
  · subst hcs
    exact ⟨[], none, 0, rfl, InS.nil, by decide, Nat.zero_le _⟩
  · subst hcs
    rw [hx] at hz
    obtain ⟨hz1, hz2, hz3⟩ := fits_slice Try.underlying25 bof_3 (by decide) hz
    rw [List.length_map, List.length_range] at hz1 hz2
    have hmle : len' ≤ m := by rw [hm]; split <;> omega
    obtain ⟨l, hl, hin, hq⟩ := InS_of2 (w := w) (a := a) (len := len') (sz := 1) (by decide) icell1 0 (fun _ => True) (fun i hil => by
      obtain ⟨cs', hc, ht⟩ := hi i (by omega)
      rw [cof_3] at hc
      obtain ⟨_, _, hat⟩ := World.cells?_some hc
      obtain ⟨en0, rfl⟩ := opn_3 ht
      exact ⟨en0, fun j hj => by rw [hat j hj]; revert j; exact cells_1 (rfl), trivial⟩)
    subst hl
    exact ⟨l, some a, cap', rfl, hin, hz1, hz2⟩
theorem cof_49 : Try.prog.cellsOf 49 = 3 := by kernel_rfl
theorem cof_47 : Try.prog.cellsOf 47 = 1 := by kernel_rfl
theorem cof_25 : Try.prog.cellsOf 25 = 1 := by kernel_rfl
set_option maxRecDepth 100000 in
theorem opn_49 {H : Type} {enc : TypeId × Value → H} {w : World} {fuel : Nat} {spare : Nat → Bool} {held : Bool} {cs : List Value} {x : DataW H × List MemPlace} (h : DataW.trod enc Try.prog w 0 spare held fuel 49 cs = some x) {B : Nat} (hz : Fits Try.prog 49 B x.1) : ∃ n0 : Int, ∃ l1 : List Psg, ∃ A1 : Option Addr, ∃ c1 : Nat, ∃ l2 : List Int, ∃ A2 : Option Addr, ∃ c2 : Nat, cs = [.int .i64 n0, .slice A1 l1.length c1, .slice A2 l2.length c2] ∧ InS w noF 7 A1 l1.length (pcell l1) ∧ l1.length * 56 ≤ 140737488351232 ∧ l1.length ≤ B ∧ InS w noF 1 A2 l2.length (icl l2) ∧ l2.length * 8 ≤ 140737488351232 ∧ l2.length ≤ B := by
  obtain ⟨xs, n, _, hx, hl, hlen, hf⟩ := DataW.trod_struct Try.underlying49 h
  rw [cof_49] at hl
  match cs, hl with
  | [q0, q1, q2], _ =>
    match xs, hlen with
    | [y0, y1, y2], _ =>
      have f0 : DataW.trod enc Try.prog w 0 spare held n 3 [q0] = some y0 := by have := hf 0 _ rfl; simpa [cof_3] using this
      obtain ⟨p0n0, e0⟩ := opn_3 f0
      cases e0
      have f1 : DataW.trod enc Try.prog w 0 spare held n 47 [q1] = some y1 := by have := hf 1 _ rfl; simpa [cof_47] using this
      have g1 := fits_part (i := 1) (u := 47) (d := y1.1) Try.underlying49 rfl rfl (by rw [hx] at hz; exact hz)
      obtain ⟨p1l0, p1A0, p1c0, e1, p1f0, p1f1, p1f2⟩ := opn_47 f1 g1
      cases e1
      have f2 : DataW.trod enc Try.prog w 0 spare held n 25 [q2] = some y2 := by have := hf 2 _ rfl; simpa [cof_25] using this
      have g2 := fits_part (i := 2) (u := 25) (d := y2.1) Try.underlying49 rfl rfl (by rw [hx] at hz; exact hz)
      obtain ⟨p2l0, p2A0, p2c0, e2, p2f0, p2f1, p2f2⟩ := opn_25 f2 g2
      cases e2
      exact ⟨p0n0, p1l0, p1A0, p1c0, p2l0, p2A0, p2c0, rfl, p1f0, p1f1, p1f2, p2f0, p2f1, p2f2⟩
theorem cof_51 : Try.prog.cellsOf 51 = 3 := by kernel_rfl
set_option maxRecDepth 100000 in
theorem opn_51 {H : Type} {enc : TypeId × Value → H} {w : World} {fuel : Nat} {spare : Nat → Bool} {held : Bool} {cs : List Value} {x : DataW H × List MemPlace} (h : DataW.trod enc Try.prog w 0 spare held fuel 51 cs = some x) {B : Nat} (hz : Fits Try.prog 51 B x.1) : ∃ n0 : Int, ∃ l1 : List Int, ∃ A1 : Option Addr, ∃ c1 : Nat, ∃ n2 : Int, cs = [.int .i64 n0, .slice A1 l1.length c1, .int .i64 n2] ∧ InS w noF 1 A1 l1.length (icl l1) ∧ l1.length * 8 ≤ 140737488351232 ∧ l1.length ≤ B := by
  obtain ⟨xs, n, _, hx, hl, hlen, hf⟩ := DataW.trod_struct Try.underlying51 h
  rw [cof_51] at hl
  match cs, hl with
  | [q0, q1, q2], _ =>
    match xs, hlen with
    | [y0, y1, y2], _ =>
      have f0 : DataW.trod enc Try.prog w 0 spare held n 3 [q0] = some y0 := by have := hf 0 _ rfl; simpa [cof_3] using this
      obtain ⟨p0n0, e0⟩ := opn_3 f0
      cases e0
      have f1 : DataW.trod enc Try.prog w 0 spare held n 25 [q1] = some y1 := by have := hf 1 _ rfl; simpa [cof_25] using this
      have g1 := fits_part (i := 1) (u := 25) (d := y1.1) Try.underlying51 rfl rfl (by rw [hx] at hz; exact hz)
      obtain ⟨p1l0, p1A0, p1c0, e1, p1f0, p1f1, p1f2⟩ := opn_25 f1 g1
      cases e1
      have f2 : DataW.trod enc Try.prog w 0 spare held n 3 [q2] = some y2 := by have := hf 2 _ rfl; simpa [cof_3] using this
      obtain ⟨p2n0, e2⟩ := opn_3 f2
      cases e2
      exact ⟨p0n0, p1l0, p1A0, p1c0, p2n0, rfl, p1f0, p1f1, p1f2⟩
set_option maxRecDepth 100000 in
theorem opn_4 {H : Type} {enc : TypeId × Value → H} {w : World} {fuel : Nat} {spare : Nat → Bool} {held : Bool} {cs : List Value} {x : DataW H × List MemPlace} (h : DataW.trod enc Try.prog w 0 spare held fuel 4 cs = some x) : ∃ b0 : Bool, cs = [.bool b0] := by
  obtain ⟨b, e, _⟩ := DataW.trod_bool Try.underlying4 h
  exact ⟨b, by simpa using e⟩
theorem cof_53 : Try.prog.cellsOf 53 = 9 := by kernel_rfl
theorem cof_4 : Try.prog.cellsOf 4 = 1 := by kernel_rfl
set_option maxRecDepth 100000 in
theorem opn_53 {H : Type} {enc : TypeId × Value → H} {w : World} {fuel : Nat} {spare : Nat → Bool} {held : Bool} {cs : List Value} {x : DataW H × List MemPlace} (h : DataW.trod enc Try.prog w 0 spare held fuel 53 cs = some x) {B : Nat} (hz : Fits Try.prog 53 B x.1) : ∃ b0 : Bool, ∃ n1 : Int, ∃ n2 : Int, ∃ n3 : Int, ∃ n4 : Int, ∃ n5 : Int, ∃ l6 : List Int, ∃ A6 : Option Addr, ∃ c6 : Nat, ∃ n7 : Int, ∃ n8 : Int, cs = [.bool b0, .int .i64 n1, .int .i64 n2, .int .i64 n3, .int .i64 n4, .int .i64 n5, .slice A6 l6.length c6, .int .i64 n7, .int .i64 n8] ∧ InS w noF 1 A6 l6.length (icl l6) ∧ l6.length * 8 ≤ 140737488351232 ∧ l6.length ≤ B := by
  obtain ⟨xs, n, _, hx, hl, hlen, hf⟩ := DataW.trod_struct Try.underlying53 h
  rw [cof_53] at hl
  match cs, hl with
  | [q0, q1, q2, q3, q4, q5, q6, q7, q8], _ =>
    match xs, hlen with
    | [y0, y1, y2, y3, y4, y5, y6, y7, y8], _ =>
      have f0 : DataW.trod enc Try.prog w 0 spare held n 4 [q0] = some y0 := by have := hf 0 _ rfl; simpa [cof_4] using this
      obtain ⟨p0b0, e0⟩ := opn_4 f0
      cases e0
      have f1 : DataW.trod enc Try.prog w 0 spare held n 3 [q1] = some y1 := by have := hf 1 _ rfl; simpa [cof_3] using this
      obtain ⟨p1n0, e1⟩ := opn_3 f1
      cases e1
      have f2 : DataW.trod enc Try.prog w 0 spare held n 3 [q2] = some y2 := by have := hf 2 _ rfl; simpa [cof_3] using this
      obtain ⟨p2n0, e2⟩ := opn_3 f2
      cases e2
      have f3 : DataW.trod enc Try.prog w 0 spare held n 3 [q3] = some y3 := by have := hf 3 _ rfl; simpa [cof_3] using this
      obtain ⟨p3n0, e3⟩ := opn_3 f3
      cases e3
      have f4 : DataW.trod enc Try.prog w 0 spare held n 3 [q4] = some y4 := by have := hf 4 _ rfl; simpa [cof_3] using this
      obtain ⟨p4n0, e4⟩ := opn_3 f4
      cases e4
      have f5 : DataW.trod enc Try.prog w 0 spare held n 3 [q5] = some y5 := by have := hf 5 _ rfl; simpa [cof_3] using this
      obtain ⟨p5n0, e5⟩ := opn_3 f5
      cases e5
      have f6 : DataW.trod enc Try.prog w 0 spare held n 25 [q6] = some y6 := by have := hf 6 _ rfl; simpa [cof_25] using this
      have g6 := fits_part (i := 6) (u := 25) (d := y6.1) Try.underlying53 rfl rfl (by rw [hx] at hz; exact hz)
      obtain ⟨p6l0, p6A0, p6c0, e6, p6f0, p6f1, p6f2⟩ := opn_25 f6 g6
      cases e6
      have f7 : DataW.trod enc Try.prog w 0 spare held n 3 [q7] = some y7 := by have := hf 7 _ rfl; simpa [cof_3] using this
      obtain ⟨p7n0, e7⟩ := opn_3 f7
      cases e7
      have f8 : DataW.trod enc Try.prog w 0 spare held n 3 [q8] = some y8 := by have := hf 8 _ rfl; simpa [cof_3] using this
      obtain ⟨p8n0, e8⟩ := opn_3 f8
      cases e8
      exact ⟨p0b0, p1n0, p2n0, p3n0, p4n0, p5n0, p6l0, p6A0, p6c0, p7n0, p8n0, rfl, p6f0, p6f1, p6f2⟩
theorem cof_55 : Try.prog.cellsOf 55 = 14 := by kernel_rfl
set_option maxRecDepth 100000 in
theorem opn_55 {H : Type} {enc : TypeId × Value → H} {w : World} {fuel : Nat} {spare : Nat → Bool} {held : Bool} {cs : List Value} {x : DataW H × List MemPlace} (h : DataW.trod enc Try.prog w 0 spare held fuel 55 cs = some x) {B : Nat} (hz : Fits Try.prog 55 B x.1) : ∃ n0 : Int, ∃ l1 : List Int, ∃ A1 : Option Addr, ∃ c1 : Nat, ∃ n2 : Int, ∃ n3 : Int, ∃ b4 : Bool, ∃ n5 : Int, ∃ n6 : Int, ∃ n7 : Int, ∃ n8 : Int, ∃ n9 : Int, ∃ l10 : List Int, ∃ A10 : Option Addr, ∃ c10 : Nat, ∃ n11 : Int, ∃ n12 : Int, ∃ n13 : Int, cs = [.int .i64 n0, .slice A1 l1.length c1, .int .i64 n2, .int .i64 n3, .bool b4, .int .i64 n5, .int .i64 n6, .int .i64 n7, .int .i64 n8, .int .i64 n9, .slice A10 l10.length c10, .int .i64 n11, .int .i64 n12, .int .i64 n13] ∧ InS w noF 1 A1 l1.length (icl l1) ∧ l1.length * 8 ≤ 140737488351232 ∧ l1.length ≤ B ∧ InS w noF 1 A10 l10.length (icl l10) ∧ l10.length * 8 ≤ 140737488351232 ∧ l10.length ≤ B := by
  obtain ⟨xs, n, _, hx, hl, hlen, hf⟩ := DataW.trod_struct Try.underlying55 h
  rw [cof_55] at hl
  match cs, hl with
  | [q0, q1, q2, q3, q4, q5, q6, q7, q8, q9, q10, q11, q12, q13], _ =>
    match xs, hlen with
    | [y0, y1, y2, y3], _ =>
      have f0 : DataW.trod enc Try.prog w 0 spare held n 51 [q0, q1, q2] = some y0 := by have := hf 0 _ rfl; simpa [cof_51] using this
      have g0 := fits_part (i := 0) (u := 51) (d := y0.1) Try.underlying55 rfl rfl (by rw [hx] at hz; exact hz)
      obtain ⟨p0n0, p0l1, p0A1, p0c1, p0n2, e0, p0f0, p0f1, p0f2⟩ := opn_51 f0 g0
      cases e0
      have f1 : DataW.trod enc Try.prog w 0 spare held n 3 [q3] = some y1 := by have := hf 1 _ rfl; simpa [cof_3] using this
      obtain ⟨p1n0, e1⟩ := opn_3 f1
      cases e1
      have f2 : DataW.trod enc Try.prog w 0 spare held n 53 [q4, q5, q6, q7, q8, q9, q10, q11, q12] = some y2 := by have := hf 2 _ rfl; simpa [cof_53] using this
      have g2 := fits_part (i := 2) (u := 53) (d := y2.1) Try.underlying55 rfl rfl (by rw [hx] at hz; exact hz)
      obtain ⟨p2b0, p2n1, p2n2, p2n3, p2n4, p2n5, p2l6, p2A6, p2c6, p2n7, p2n8, e2, p2f0, p2f1, p2f2⟩ := opn_53 f2 g2
      cases e2
      have f3 : DataW.trod enc Try.prog w 0 spare held n 3 [q13] = some y3 := by have := hf 3 _ rfl; simpa [cof_3] using this
      obtain ⟨p3n0, e3⟩ := opn_3 f3
      cases e3
      exact ⟨p0n0, p0l1, p0A1, p0c1, p0n2, p1n0, p2b0, p2n1, p2n2, p2n3, p2n4, p2n5, p2l6, p2A6, p2c6, p2n7, p2n8, p3n0, rfl, p0f0, p0f1, p0f2, p2f0, p2f1, p2f2⟩
set_option maxRecDepth 100000 in
theorem par_49 {H : Type} {enc : TypeId × Value → H} {w : World} {r : Reach} {b0 : Nat} {v : Value} {d : DataW H} {p : List MemPlace} {sp : Nat → Bool} {hd : Bool} (hv : Value.okWide Try.prog w r b0 49 v) (h : DataW.Trod enc Try.prog w 0 sp hd 49 v d p) {B : Nat} (hz : Fits Try.prog 49 B d) : ∃ n0 : Int, ∃ l1 : List Psg, ∃ A1 : Option Addr, ∃ c1 : Nat, ∃ l2 : List Int, ∃ A2 : Option Addr, ∃ c2 : Nat, v = .agg [.int .i64 n0, .slice A1 l1.length c1, .slice A2 l2.length c2].toArray ∧ InS w noF 7 A1 l1.length (pcell l1) ∧ l1.length * 56 ≤ 140737488351232 ∧ l1.length ≤ B ∧ InS w noF 1 A2 l2.length (icl l2) ∧ l2.length * 8 ≤ 140737488351232 ∧ l2.length ≤ B := by
  obtain ⟨cs, rfl, _⟩ := okWide_struct Try.underlying49 hv
  obtain ⟨fuel, hf⟩ := h
  obtain ⟨n0, l1, A1, c1, l2, A2, c2, e, f0, f1, f2, f3, f4, f5⟩ := opn_49 hf hz
  have e' : cs = [.int .i64 n0, .slice A1 l1.length c1, .slice A2 l2.length c2].toArray := by rw [← e]; simp [Value.cells]
  subst e'
  exact ⟨n0, l1, A1, c1, l2, A2, c2, rfl, f0, f1, f2, f3, f4, f5⟩
set_option maxRecDepth 100000 in
theorem par_55 {H : Type} {enc : TypeId × Value → H} {w : World} {r : Reach} {b0 : Nat} {v : Value} {d : DataW H} {p : List MemPlace} {sp : Nat → Bool} {hd : Bool} (hv : Value.okWide Try.prog w r b0 55 v) (h : DataW.Trod enc Try.prog w 0 sp hd 55 v d p) {B : Nat} (hz : Fits Try.prog 55 B d) : ∃ n0 : Int, ∃ l1 : List Int, ∃ A1 : Option Addr, ∃ c1 : Nat, ∃ n2 : Int, ∃ n3 : Int, ∃ b4 : Bool, ∃ n5 : Int, ∃ n6 : Int, ∃ n7 : Int, ∃ n8 : Int, ∃ n9 : Int, ∃ l10 : List Int, ∃ A10 : Option Addr, ∃ c10 : Nat, ∃ n11 : Int, ∃ n12 : Int, ∃ n13 : Int, v = .agg [.int .i64 n0, .slice A1 l1.length c1, .int .i64 n2, .int .i64 n3, .bool b4, .int .i64 n5, .int .i64 n6, .int .i64 n7, .int .i64 n8, .int .i64 n9, .slice A10 l10.length c10, .int .i64 n11, .int .i64 n12, .int .i64 n13].toArray ∧ InS w noF 1 A1 l1.length (icl l1) ∧ l1.length * 8 ≤ 140737488351232 ∧ l1.length ≤ B ∧ InS w noF 1 A10 l10.length (icl l10) ∧ l10.length * 8 ≤ 140737488351232 ∧ l10.length ≤ B := by
  obtain ⟨cs, rfl, _⟩ := okWide_struct Try.underlying55 hv
  obtain ⟨fuel, hf⟩ := h
  obtain ⟨n0, l1, A1, c1, n2, n3, b4, n5, n6, n7, n8, n9, l10, A10, c10, n11, n12, n13, e, f0, f1, f2, f3, f4, f5⟩ := opn_55 hf hz
  have e' : cs = [.int .i64 n0, .slice A1 l1.length c1, .int .i64 n2, .int .i64 n3, .bool b4, .int .i64 n5, .int .i64 n6, .int .i64 n7, .int .i64 n8, .int .i64 n9, .slice A10 l10.length c10, .int .i64 n11, .int .i64 n12, .int .i64 n13].toArray := by rw [← e]; simp [Value.cells]
  subst e'
  exact ⟨n0, l1, A1, c1, n2, n3, b4, n5, n6, n7, n8, n9, l10, A10, c10, n11, n12, n13, rfl, f0, f1, f2, f3, f4, f5⟩

end Go.Proofs.Ytdepakimbagonaa
