/- Chapter 12: the example: what is out, and the judgement. -/
import Derived.Test.YtopmadlgolnmfaaExT
import Derived.Test.YtopmadlgolnmfaaH2
namespace Go.Proofs.Ytopmadlgolnmfaa
set_option linter.unusedVariables false
set_option linter.unusedSimpArgs false
set_option maxRecDepth 100000
open Go.RowKit

def ex6 (i : Nat) : Int := [6, 1, 0, -1].getD i (-1)
def ex3 (i : Nat) : Int := [-1, 1, 0, -1].getD i (-1)
theorem exFar6 (out : Int) (h2 : oth out false (w8exW.getD 2 Psg.zero) 0 = ((1 : Nat) : Int)) (h3 : oth out false (w8exW.getD 3 Psg.zero) 1 = ((2 : Nat) : Int)) (key : ∀ i : Nat, i < 4 → ∀ k : Nat, k < 5 → (oth out false (w8exW.getD k Psg.zero) i < 0 ∨ ex6 (oth out false (w8exW.getD k Psg.zero) i).toNat < 0 ∨ (0 ≤ ex6 i ∧ ex6 i ≤ ex6 (oth out false (w8exW.getD k Psg.zero) i).toNat + (w8exW.getD k Psg.zero).ticks))) : FarOk 4 w8exW out false 2 ex6 := by
  have w2 : Wk w8exW out false 2 2 0 [] := Wk.nil 2
  have w1 : Wk w8exW out false 1 2 1 [3] := Wk.cons (k := 3) (by decide) h3 w2
  have w0 : Wk w8exW out false 0 2 6 [2, 3] := Wk.cons (k := 2) (by decide) h2 w1
  refine ⟨rfl, fun i => ?_, fun i hi h0 => ?_, fun i hi k hk => fixAt_of (key i hi k hk), fun i hi => ?_⟩
  · unfold ex6
    match i with
    | 0 => decide
    | 1 => decide
    | 2 => decide
    | 3 => decide
    | n + 4 => exact Int.le_refl _
  · match i, hi with
    | 0, _ => exact ⟨_, w0⟩
    | 1, _ => exact ⟨_, w1⟩
    | 2, _ => exact ⟨_, w2⟩
    | 3, _ => exact absurd h0 (by decide)
  · have key : ∀ i : Nat, i < 4 → ex6 i ≤ 200 := by decide +kernel
    exact key i hi
theorem exFar3 : FarOk 4 w8exW 3 false 2 ex3 := by
  have w2 : Wk w8exW 3 false 2 2 0 [] := Wk.nil 2
  have w1 : Wk w8exW 3 false 1 2 1 [3] := Wk.cons (k := 3) (by decide) (by decide +kernel) w2
  refine ⟨rfl, fun i => ?_, fun i hi h0 => ?_, fun i hi k hk => fixAt_of ?_, fun i hi => ?_⟩
  · unfold ex3
    match i with
    | 0 => decide
    | 1 => decide
    | 2 => decide
    | 3 => decide
    | n + 4 => exact Int.le_refl _
  · match i, hi with
    | 0, _ => exact absurd h0 (by decide)
    | 1, _ => exact ⟨_, w1⟩
    | 2, _ => exact ⟨_, w2⟩
    | 3, _ => exact absurd h0 (by decide)
  · have key : ∀ i : Nat, i < 4 → ∀ k : Nat, k < 5 → (oth 3 false (w8exW.getD k Psg.zero) i < 0 ∨ ex3 (oth 3 false (w8exW.getD k Psg.zero) i).toNat < 0 ∨ (0 ≤ ex3 i ∧ ex3 i ≤ ex3 (oth 3 false (w8exW.getD k Psg.zero) i).toNat + (w8exW.getD k Psg.zero).ticks)) := by decide +kernel
    exact key i hi k hk
  · have key : ∀ i : Nat, i < 4 → ex3 i ≤ 200 := by decide +kernel
    exact key i hi
theorem exD0 : dst 4 w8exW 0 false 2 0 = 6 := dst_eq exV.psv (exFar6 0 (by decide +kernel) (by decide +kernel) (by decide +kernel)) (by decide)
theorem exD1 : dst 4 w8exW 1 false 2 0 = 6 := dst_eq exV.psv (exFar6 1 (by decide +kernel) (by decide +kernel) (by decide +kernel)) (by decide)
theorem exD3 : dst 4 w8exW 3 false 2 0 = -1 := dst_eq exV.psv exFar3 (by decide)
def exM0 : List Mv := [⟨0, 0, 0, 2⟩, ⟨0, 0, 1, 2⟩, ⟨0, 0, 2, 2⟩, ⟨1, 0, 2, 2⟩, ⟨1, 0, 3, 2⟩, ⟨3, 1, 3, 2⟩, ⟨3, 1, 4, 4⟩, ⟨3, 1, 5, 4⟩]
def exM1 : List Mv := [⟨0, 0, 0, 2⟩, ⟨0, 0, 1, 2⟩, ⟨0, 0, 2, 2⟩, ⟨1, 0, 0, 2⟩, ⟨1, 0, 1, 2⟩, ⟨3, 1, 3, 2⟩, ⟨3, 1, 4, 4⟩, ⟨3, 1, 5, 4⟩]
theorem exPe : PeOk w8exP := by
  have key : ∀ k : Nat, k < 4 → 0 ≤ w8exP.getD k 0 ∧ w8exP.getD k 0 ≤ 1000 := by decide
  exact key
theorem exAll0 : mfv 4 6 w8exP exX (hds 0 exX w8exW) = 10 := by
  have h1 := plan_le (T := 6) exV (by decide : (0 : Int) ≤ 0) exPe (by decide) (show planB w8exW exX 0 w8exP exM0 4 = true by decide +kernel)
  have h2 := mfv_all (T := 6) exV (by decide : (0 : Int) ≤ 0) exPe
  have e1 : outN w8exW exX 0 w8exP exM0 4 6 = 10 := by decide +kernel
  have e2 : sumI w8exP 4 = 10 := by decide +kernel
  omega
theorem exAll1 : mfv 4 6 w8exP exX (hds 1 exX w8exW) = 10 := by
  have h1 := plan_le (T := 6) exV (by decide : (0 : Int) ≤ 1) exPe (by decide) (show planB w8exW exX 1 w8exP exM1 4 = true by decide +kernel)
  have h2 := mfv_all (T := 6) exV (by decide : (0 : Int) ≤ 1) exPe
  have e1 : outN w8exW exX 1 w8exP exM1 4 6 = 10 := by decide +kernel
  have e2 : sumI w8exP 4 = 10 := by decide +kernel
  omega
def exJob : List Tsk := [⟨1, 1, 1⟩]
section
variable {PA : Option Addr} {pc : Nat} {XA : Option Addr} {xc : Nat} {BA : Option Addr} {bc : Nat} {QA : Option Addr} {qc : Nat} {VA : Option Addr} {vc : Nat} {RA : Option Addr} {rc : Nat}
theorem exY_nil : taskE (exYr PA pc XA xc BA bc QA qc VA vc RA rc) [] = 0 := taskE_ok exY_year (by decide) rfl
theorem exY_one : taskE (exYr PA pc XA xc BA bc QA qc VA vc RA rc) exJob = 0 := taskE_ok exY_year (by decide) (allN_iff.2 fun k hk => by
  have : k = 0 := by have : exJob.length = 1 := rfl; omega
  subst this
  rfl)
theorem outY_two {l : List Tsk} {d : Nat} {a b : Bool} (ha : runsY (exYr PA pc XA xc BA bc QA qc VA vc RA rc) l 0 d = a) (hb : runsY (exYr PA pc XA xc BA bc QA qc VA vc RA rc) l 1 d = b) : outY (exYr PA pc XA xc BA bc QA qc VA vc RA rc) l d 2 = (if a = true then 0 else 1) + (if b = true then 0 else 2) := by
  show (0 + (if runsY (exYr PA pc XA xc BA bc QA qc VA vc RA rc) l 0 d = true then 0 else 2 ^ 0)) + (if runsY (exYr PA pc XA xc BA bc QA qc VA vc RA rc) l 1 d = true then 0 else 2 ^ 1) = _
  rw [ha, hb]
  cases a <;> cases b <;> rfl
theorem exR0 {l : List Tsk} (h : ∀ d, jobF l 0 d = 0) {d : Nat} (hd : d ≤ 3) : runsY (exYr PA pc XA xc BA bc QA qc VA vc RA rc) l 0 d = decide (d = 0) := z0 (RA := RA) (rc := rc) h hd
theorem exJ0 (d : Nat) : jobF exJob 0 d = 0 := by
  unfold jobF jobV hasT exJob
  simp
theorem exR1n {d : Nat} (hd : d ≤ 3) : runsY (exYr PA pc XA xc BA bc QA qc VA vc RA rc) [] 1 d = decide (d ≠ 3) := z1_nil (RA := RA) (rc := rc) (J := jobF [] 1) (fun _ => rfl) hd
theorem exR1o {d : Nat} (hd : d ≤ 3) : runsY (exYr PA pc XA xc BA bc QA qc VA vc RA rc) exJob 1 d = decide (d ≠ 1) := z1_one (RA := RA) (rc := rc) (J := jobF exJob 1) (by decide +kernel) (by decide +kernel) (by decide +kernel) (by decide +kernel) hd
theorem exOn {d : Nat} (hd : d ≤ 3) : outY (exYr PA pc XA xc BA bc QA qc VA vc RA rc) [] d (exYr PA pc XA xc BA bc QA qc VA vc RA rc).us.length = [0, 1, 1, 3].getD d 0 := by
  show outY (exYr PA pc XA xc BA bc QA qc VA vc RA rc) [] d 2 = _
  rw [outY_two (exR0 (fun _ => rfl) hd) (exR1n hd)]
  match d, hd with
  | 0, _ => rfl
  | 1, _ => rfl
  | 2, _ => rfl
  | 3, _ => rfl
theorem exOo {d : Nat} (hd : d ≤ 3) : outY (exYr PA pc XA xc BA bc QA qc VA vc RA rc) exJob d (exYr PA pc XA xc BA bc QA qc VA vc RA rc).us.length = [0, 3, 1, 1].getD d 0 := by
  show outY (exYr PA pc XA xc BA bc QA qc VA vc RA rc) exJob d 2 = _
  rw [outY_two (exR0 exJ0 hd) (exR1o hd)]
  match d, hd with
  | 0, _ => rfl
  | 1, _ => rfl
  | 2, _ => rfl
  | 3, _ => rfl
theorem ex_keep {d out : Int} {a b : Bool} (ha : prmB (exYr PA pc XA xc BA bc QA qc VA vc RA rc) d out 0 = a) (hb : prmB (exYr PA pc XA xc BA bc QA qc VA vc RA rc) d out 1 = b) : keepB (exYr PA pc XA xc BA bc QA qc VA vc RA rc) d out = ((true && a) && b) := by rw [← ha, ← hb]; rfl
theorem ex_p0 {d out x : Int} (h : dst 4 w8exW out false 2 0 = x) : prmB (exYr PA pc XA xc BA bc QA qc VA vc RA rc) d out 0 = (!(decide (0 ≤ d) && decide (d ≤ 0)) || decide (0 ≤ x)) := by rw [← h]; rfl
theorem ex_p1 {d out x : Int} (h : dst 4 w8exW out false 2 0 = x) : prmB (exYr PA pc XA xc BA bc QA qc VA vc RA rc) d out 1 = (!(decide (2 ≤ d) && decide (d ≤ 3)) || decide (0 ≤ x)) := by rw [← h]; rfl
theorem ex_k0 : keepB (exYr PA pc XA xc BA bc QA qc VA vc RA rc) (0 : Nat) 0 = true := ex_keep (ex_p0 exD0) (ex_p1 exD0)
theorem ex_k1 : keepB (exYr PA pc XA xc BA bc QA qc VA vc RA rc) (1 : Nat) 1 = true := ex_keep (ex_p0 exD1) (ex_p1 exD1)
theorem ex_k2 : keepB (exYr PA pc XA xc BA bc QA qc VA vc RA rc) (2 : Nat) 1 = true := ex_keep (ex_p0 exD1) (ex_p1 exD1)
theorem ex_k3 : keepB (exYr PA pc XA xc BA bc QA qc VA vc RA rc) (3 : Nat) 3 = false := ex_keep (ex_p0 exD3) (ex_p1 exD3)
theorem ex_l0 : leavB (exYr PA pc XA xc BA bc QA qc VA vc RA rc) 0 = true := decide_eq_true (show mfv 4 6 w8exP exX (hds 0 exX w8exW) = sumI w8exP 4 from exAll0.trans (by decide +kernel))
theorem ex_l1 : leavB (exYr PA pc XA xc BA bc QA qc VA vc RA rc) 1 = true := decide_eq_true (show mfv 4 6 w8exP exX (hds 1 exX w8exW) = sumI w8exP 4 from exAll1.trans (by decide +kernel))
theorem ex_flt {d : Nat} (hd : d ≤ 3) {o : Int} (ho : [0, 1, 1, 3].getD d 0 = o) (hk : keepB (exYr PA pc XA xc BA bc QA qc VA vc RA rc) d o = true) (hl : leavB (exYr PA pc XA xc BA bc QA qc VA vc RA rc) o = true) : faultD (exYr PA pc XA xc BA bc QA qc VA vc RA rc) [] d = 0 :=
  fault_0 (by show ¬ (1 : Int) < 0; decide) rfl (by rw [exOn hd, ho]; exact hk) (by rw [exOn hd, ho]; exact hl)
theorem ex_judge : judgeV (exYr PA pc XA xc BA bc QA qc VA vc RA rc) [] = (3, 3) := by
  have h3 : faultD (exYr PA pc XA xc BA bc QA qc VA vc RA rc) [] 3 = 3 := fault_3 (by show ¬ (1 : Int) < 0; decide) rfl (by rw [exOn (by decide)]; exact ex_k3)
  rw [judge_at (d := 3) (by show 3 < (4 : Int).toNat; decide) (fun q hq => ?_) (by rw [h3]; decide), h3]
  · rfl
  · match q, hq with
    | 0, _ => exact ex_flt (by decide) (o := 0) rfl ex_k0 ex_l0
    | 1, _ => exact ex_flt (by decide) (o := 1) rfl ex_k1 ex_l1
    | 2, _ => exact ex_flt (by decide) (o := 1) rfl ex_k2 ex_l1
end
end Go.Proofs.Ytopmadlgolnmfaa
