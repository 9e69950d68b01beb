/- WyM. Printed by gen.py. -/
import Derived.Test.YtlmddkekeoebcaaWyK
import Derived.Test.YtlmddkekeoebcaaWyI
import Derived.Test.YtlmddkekeoebcaaMus
import Derived.Sort.OwnSortedInts
namespace Go.Proofs.Ytlmddkekeoebcaa
open Go.RowKit
set_option linter.unusedVariables false
set_option linter.unusedSimpArgs false
set_option maxRecDepth 100000
set_option maxHeartbeats 4000000


theorem own_lenS {w0 : World} {F0 : Nat → Prop} {R : List Mem} {w : World} {e sz n m c i : Nat} {A : Option Addr} {cell : Nat → Nat → Value} (S : St w0 F0 R w) (hi : R[i]? = some (ownM e sz A n c cell)) (h : n = m) : St w0 F0 (R.set i (ownM e sz A m c cell)) w := by
  subst h
  exact S.recell hi (fun _ _ _ _ => rfl)
theorem sort_own {w0 w : World} {F0 : Nat → Prop} {R : List Mem} {i e c : Nat} {A : Option Addr} {zs : List Int} (S : St w0 F0 R w) (hi : R[i]? = some (ownM e 1 A zs.length c (icl zs))) (hz : zs.length ≤ 1000) :
    Calls Try.prog 83 [.slice A zs.length c].toArray w (Ret fun v w' => v = .tuple #[] ∧ St w0 F0 (R.set i (ownM e 1 A zs.length c (icl (zs.mergeSort fun x y => decide (x ≤ y))))) w') := by
  rcases S.holds hi with ⟨rfl, hn, rfl⟩ | ⟨b, cs, rfl, hb, h1, h2, h3, hc⟩
  · obtain rfl := List.eq_nil_of_length_eq_zero hn
    refine Calls.mono (Try.slices_Sort_int_none none 0 w) fun e' w' he => ?_
    obtain ⟨rfl, rfl⟩ := he
    exact ⟨rfl, S.recell hi fun k j hk _ => absurd hk (Nat.not_lt_zero k)⟩
  · have hcz : zs.length ≤ cs.size := by omega
    have ht : cs.toList.take zs.length = zs.map (Value.int .i64) := by
      apply List.ext_getElem?
      intro k
      by_cases hk : k < zs.length
      · have h9 := hc k 0 hk (by omega)
        rw [Nat.mul_one, Nat.add_zero] at h9
        rw [List.getElem?_take_of_lt hk, Array.getElem?_toList, h9, List.getElem?_map, List.getElem?_eq_getElem hk]
        unfold icl
        rw [List.getD_eq_getElem?_getD, List.getElem?_eq_getElem hk]
        rfl
      · rw [List.getElem?_take_eq_none (by omega), List.getElem?_eq_none (by simp; omega)]
    refine Calls.mono (Try.slices_Sort_int b 0 c zs w (holds_of_blockI hb ht) (lt_of_heap hb) (by omega)) fun e' w' he => ?_
    obtain ⟨rfl, n, os, rfl⟩ := he
    refine ⟨rfl, S.updSame hi ((Keeps.of_grown (grownBy_sortedI _)).mono fun k hk => ?_) ?_ fun k hk => hk⟩
    · cases hk; exact ⟨_, rfl, rfl⟩
    · refine .inr ⟨b, _, rfl, heap_sortedI _ hb, h1, h2, by simp [Go.Sort.putCells, h3], fun k j hk hj => ?_⟩
      have hj0 : j = 0 := by omega
      subst hj0
      have h9 := take_putCellsI cs (zs.mergeSort fun x y => decide (x ≤ y)) (by rw [List.length_mergeSort]; omega)
      have h8 := congrArg (fun l : List Value => l[k]?) h9
      rw [List.length_mergeSort, List.getElem?_take_of_lt hk, Array.getElem?_toList, List.getElem?_map] at h8
      rw [Nat.mul_one, Nat.add_zero, h8]
      have hk' : k < (zs.mergeSort fun x y => decide (x ≤ y)).length := by rw [List.length_mergeSort]; exact hk
      unfold icl
      rw [List.getD_eq_getElem?_getD, List.getElem?_eq_getElem hk']
      rfl
section
variable {P T : Nat} {ps : List Psg} {xs : List Int} {out : Int} {pe : List Int} {k : Nat}
theorem mov3 (a b : Int) : (¬ a = 3) ∨ (a = 3 ∧ ¬ b % 2 = 0) ∨ (a = 3 ∧ b % 2 = 0) := by omega
theorem mov_t (h : (ps.getD k Psg.zero).kind = 3 ∧ out / 2 ^ (ps.getD k Psg.zero).mach.toNat % 2 = 0) (h2 : ¬ mfv P T pe xs (hds (out + 2 ^ (ps.getD k Psg.zero).mach.toNat) xs ps) = sumI pe pe.length) : movB ps out (mustB P T ps xs out pe) k = true :=
  movB_iff.2 ⟨h, by unfold mustB allB machAt; rw [decide_eq_false h2]; rfl⟩
theorem mov_f (h2 : mfv P T pe xs (hds (out + 2 ^ (ps.getD k Psg.zero).mach.toNat) xs ps) = sumI pe pe.length) : movB ps out (mustB P T ps xs out pe) k = false := by
  unfold movB mustB allB machAt; rw [decide_eq_true h2]; simp
theorem mov_f1 {f : Nat → Bool} (h : ¬ (ps.getD k Psg.zero).kind = 3) : movB ps out f k = false := by unfold movB; rw [decide_eq_false h]; rfl
theorem mov_f2 {f : Nat → Bool} (h : ¬ out / 2 ^ (ps.getD k Psg.zero).mach.toNat % 2 = 0) : movB ps out f k = false := by unfold movB machAt; rw [decide_eq_false h, Bool.and_false]; rfl
theorem pwI_le {m : Int} (h : 0 ≤ m ∧ m ≤ 11) : (0 : Int) ≤ 2 ^ m.toNat ∧ (2 : Int) ^ m.toNat ≤ 2048 := by
  obtain ⟨n, rfl⟩ := Int.eq_ofNat_of_zero_le h.1
  exact pw_le (by omega)
end


theorem ways_Safe (pl : Int) (ps : List Psg) (PA : Option Addr) (pc : Nat) (xs : List Int) (XA : Option Addr) (xc : Nat) (day : List Hq) (HA : Option Addr) (hcp : Nat) (DA : Nat → Option Addr) (dc : Nat → Nat) (T0 : Int) (w : World) (hps : InS w noF 7 PA ps.length (pcell ps)) (hpn : ps.length ≤ 9223372036854775807) (hxs : InS w noF 1 XA xs.length (icl xs)) (hxn : xs.length ≤ 9223372036854775807) (hday : InS w noF 3 HA day.length (hcl day DA dc)) (hdn : day.length ≤ 9223372036854775807) (hdp : ∀ k, k < day.length → InS w noF 1 (DA k) (day.getD k Hq.zero).pe.length (icl (day.getD k Hq.zero).pe)) (hdl : ∀ k, k < day.length → (day.getD k Hq.zero).pe.length ≤ 9223372036854775807) :
    Calls Try.prog 46 [.agg [.int .i64 pl, .slice PA ps.length pc, .slice XA xs.length xc].toArray, .slice HA day.length hcp, .int .i64 T0].toArray w (Ret (fun u w' => u = .tuple #[.int .i64 (safeV pl ps xs day T0).1, .bool (safeV pl ps xs day T0).2.1, .int .i64 (safeV pl ps xs day T0).2.2] ∧ St w noF [] w')) := by
 refine enter Try.func46 rfl Try.ntmps46 rfl (fun a H => ?_)
 have S := St.start w
 refine seq_list fun K1 k1 => ?_
 refine list_box H rfl S rfl rfl ?_;clear H a S;intro b3 _ a hb3 hbw3 S H
 refine ls 3 H <| sr 3 rfl <| sE ?_;clear H a;intro a H
 refine k1 _ _ ?_;clear k1 K1
 refine wp_seq_k fun K2 k2 => ?_
 refine seq_list fun K3 k3 => ?_
 refine ls 1 H <| sd ((does_loadBox agg_25 sz_25 rfl S (i := 0) rfl rfl)) <| sE ?_;clear H a;intro a H
 refine list_call H rfl rfl Try.func19 rfl rfl (ways_Check pl ps PA pc xs XA xc _ (hps.now S) hpn (hxs.now S) hxn) ?_;clear H a
 rintro _ _ a ⟨rfl, S2⟩ H
 replace S := S.call S2;clear S2
 refine ls 1 H <| sr 1 rfl <| sE ?_;clear H a;intro a H
 refine k3 _ _ ?_;clear k3 K3
 refine sS H fun K4 k4=>sr 2 rfl <| sE ?_;clear H a;intro a H
 refine k4 _ ?_;clear k4 K4
 refine condN H rfl (fun hc1 => ?_) (fun hc1 => ?_)
 ·skip
  replace H := H.keep [8] rfl
  refine sS H fun K5 k5=>sr 4 rfl <| sE ?_;clear H a;intro a H
  refine k5 _ ?_;clear k5 K5
  refine wp_ret ?_
  refine ret3 (fn := Try.f46) rfl H rfl rfl rfl ?_
  have e9 : dayE pl ps xs day = stE pl ps xs := by unfold dayE; rw [if_pos hc1]
  rw [safe_err (by rw [e9]; exact hc1), e9]
  exact ⟨rfl, (S.sel [] rfl rfl)⟩
 have hst : stE pl ps xs = 0 := by omega
 have hV0 := st_valid hst
 obtain ⟨P, rfl⟩ : ∃ P : Nat, pl = P := ⟨pl.toNat, by have := hV0.size; omega⟩
 have hV := hV0
 have hP10 := hV.size
 refine wp_skip ?_
 refine k2 _ _ ?_
 refine wp_seq_k fun K6 k6 => ?_
 refine seq_list fun K7 k7 => ?_
 refine ls 2 H <| sd ((does_loadBox agg_25 sz_25 rfl S (i := 0) rfl rfl)) <| sr 1 rfl <| sE ?_;clear H a;intro a H
 refine list_call H rfl rfl Try.func79 rfl rfl (ways_hours P ps PA pc xs XA xc day HA hcp DA dc _ (hps.now S) hpn (hxs.now S) hxn (hday.now S) hdn (fun k hk => (hdp k hk).now S) hdl) ?_;clear H a
 rintro _ _ a ⟨rfl, S2⟩ H
 replace S := S.call S2;clear S2
 refine ls 1 H <| sr 1 rfl <| sE ?_;clear H a;intro a H
 refine k7 _ _ ?_;clear k7 K7
 refine cond_ H rfl (fun hc2 => ?_) (fun hc2 => ?_)
 ·skip
  try simp only [o1,o2,o3,o4,o5,o6,o7,o8,o9,oa] at hc2
  replace H := H.keep [] rfl
  refine sS H fun K8 k8=>sr 3 rfl <| sE ?_;clear H a;intro a H
  refine k8 _ ?_;clear k8 K8
  refine wp_ret ?_
  refine ret3 (fn := Try.f46) rfl H rfl rfl rfl ?_
  have e9 : dayE P ps xs day = 81 := by unfold dayE; rw [if_neg (by omega), if_neg (by rw [hc2]; simp)]
  rw [safe_err (by rw [e9]; decide), e9]
  exact ⟨rfl, (S.sel [] rfl rfl)⟩
 try simp only [o1,o2,o3,o4,o5,o6,o7,o8,o9,oa] at hc2
 have hdE := dayE_zero hst hc2
 have hdk := dayOk_ok hc2
 refine wp_skip ?_
 refine k6 _ _ ?_
 refine wp_seq_k fun K9 k9 => ?_
 refine sS H fun K10 k10=>sr 1 rfl <| sc rfl Try.func54 rfl rfl (ways_within _ _ _ _) <| sr 1 rfl <| sE ?_;clear H a;intro a H
 refine k10 _ ?_;clear k10 K10
 refine cond_ H rfl (fun hc3 => ?_) (fun hc3 => ?_)
 ·skip
  try simp only [o1,o2,o3,o4,o5,o6,o7,o8,o9,oa] at hc3
  refine sS H fun K11 k11=>sr 3 rfl <| sE ?_;clear H a;intro a H
  refine k11 _ ?_;clear k11 K11
  refine wp_ret ?_
  refine ret3 (fn := Try.f46) rfl H rfl rfl rfl ?_
  rw [safe_arg hdE (by omega)]
  exact ⟨rfl, (S.sel [] rfl rfl)⟩
 try simp only [o1,o2,o3,o4,o5,o6,o7,o8,o9,oa] at hc3
 obtain ⟨T, rfl⟩ : ∃ T : Nat, T0 = T := ⟨T0.toNat, by omega⟩
 have hT : T ≤ 60 := by omega
 refine wp_skip ?_
 refine k9 _ _ ?_
 refine wp_seq_k fun K12 k12 => ?_
 replace H := H.keep [1, 2, 3] rfl
 refine sS H fun K13 k13=>sr 1 rfl <| sL sl_65 rfl <| sr 1 rfl <| sE ?_;clear H a;intro a H
 refine k13 _ ?_;clear k13 K13
 refine wp_block ?_
 refine loop_st (X := Nat) (R0 := _) [2, 3, 23, 24] H rfl (fun k => [(25, .int .i64 (k : Int))]) (fun k => []) (fun g k => k ≤ day.length ∧ g + k = day.length ∧ ∀ q, q < k → allB P T ps xs (day.getD q Hq.zero).out (day.getD q Hq.zero).pe = true) (day.length) 0 ?_ (S.sel [0] rfl rfl) (H.keep [25, 2, 3, 23, 24] rfl) ?_
 · exact ⟨by omega, by omega, fun q hq => absurd hq (Nat.not_lt_zero q)⟩
 clear H S a
 intro g1 x1 a w1 hp S H K14 k14
 obtain ⟨k, rfl⟩ : ∃ y, y = x1 := ⟨_, rfl⟩
 refine sS H fun K15 k15=>sr 1 rfl <| sE ?_;clear H a;intro a H
 refine k15 _ ?_;clear k15 K15
 refine wp_seq_k fun K16 k16 => ?_
 refine condL H rfl (fun hc4 => ?_) (fun hc4 => ?_)
 ·skip
  refine wp_skip ?_
  refine k16 _ _ ?_
  refine wp_seq_k fun K17 k17 => ?_
  refine wp_block ?_
  refine seq_list fun K18 k18 => ?_
  refine ls 3 H <| sr 1 rfl <| si sl_65 sz_74 rfl rfl (hday.adr (by omega)) (by omega) <| sd ((does_loadIn agg_74 sz_74 rfl S hday (by omega) (by omega))) <| sE ?_;clear H a;intro a H
  refine list_alloc H rfl S ze_74 ?_;clear H a S;intro b10 _ a hb10 hbw10 S H
  refine ls 1 H <| sr 1 rfl <| sE ?_;clear H a;intro a H
  refine list_store H S (i := 0) rfl rfl rfl rfl sz_74 rfl rfl ?_
  clear H a S;intro _ a S H
  refine k18 _ _ ?_;clear k18 K18
  have hdo := hdk.2 k (by omega)
  obtain ⟨hpp, hpl⟩ := crowd_ok hdo.2
  replace H := H.keep [2, 3, 9, 10, 23, 24, 25] rfl
  refine seq_list fun K19 k19 => ?_
  refine ls 6 H <| sd ((does_loadBox agg_25 sz_25 rfl S (i := 1) rfl rfl)) <| sf fo_74_0 rfl <| sl S 0 one_3 rfl rfl rfl <| sf fo_74_2 rfl <| sl S 0 one_23 rfl rfl rfl <| sr 1 rfl <| sE ?_;clear H a;intro a H
  refine list_call H rfl rfl Try.func77 rfl rfl (ways_all P T ps PA pc xs XA xc (day.getD k Hq.zero).out (day.getD k Hq.zero).pe (DA k) (dc k) _ (hps.now S) hpn (hxs.now S) hxn ((hdp k (by omega)).now S) (by omega) hV hdo.1 hpp hT) ?_;clear H a
  rintro _ _ a ⟨rfl, S2⟩ H
  replace S := S.call S2;clear S2
  refine ls 1 H <| sr 1 rfl <| sE ?_;clear H a;intro a H
  refine k19 _ _ ?_;clear k19 K19
  refine cond_ H rfl (fun hc5 => ?_) (fun hc5 => ?_)
  ·skip
   try simp only [o1,o2,o3,o4,o5,o6,o7,o8,o9,oa] at hc5
   replace H := H.keep [9] rfl
   refine sS H fun K20 k20=>sr 4 rfl <| sE ?_;clear H a;intro a H
   refine k20 _ ?_;clear k20 K20
   refine wp_ret ?_
   refine ret3 (fn := Try.f46) rfl H rfl rfl rfl ?_
   rw [safe_at hdE hT (by omega) hp.2.2 (decide_eq_false hc5)]
   exact ⟨rfl, (S.sel [] rfl rfl)⟩
  try simp only [o1,o2,o3,o4,o5,o6,o7,o8,o9,oa] at hc5
  refine wp_skip ?_
  refine k17 _ _ ?_
  refine sO H <| sd (does_add rfl rfl (by unfold i64ok; omega)) <| sr 1 rfl <| sE ?_;clear H a;intro a H
  exact k14 (g1 - 1) (k + 1) a _ (by omega) (⟨by omega, by omega, safe_next (f := fun q => allB P T ps xs (day.getD q Hq.zero).out (day.getD q Hq.zero).pe) hp.2.2 (decide_eq_true hc5)⟩) (S.sel [1] rfl rfl) (H.keep [25, 2, 3, 23, 24] rfl)
 refine wp_exit ?_
 refine k12 _ _ ?_
 refine sS H fun K22 k22=>sr 3 rfl <| sE ?_;clear H a;intro a H
 refine k22 _ ?_;clear k22 K22
 refine wp_ret ?_
 refine ret3 (fn := Try.f46) rfl H rfl rfl rfl ?_
 obtain rfl : k = day.length := by omega
 rw [safe_all hdE hT hp.2.2]
 exact ⟨rfl, (S.sel [] rfl rfl)⟩

theorem ways_Must (pl : Int) (ps : List Psg) (PA : Option Addr) (pc : Nat) (xs : List Int) (XA : Option Addr) (xc : Nat) (out : Int) (pe : List Int) (BA : Option Addr) (bc : Nat) (T0 : Int) (w : World) (hps : InS w noF 7 PA ps.length (pcell ps)) (hpn : ps.length ≤ 9223372036854775807) (hxs : InS w noF 1 XA xs.length (icl xs)) (hxn : xs.length ≤ 9223372036854775807) (hpe : InS w noF 1 BA pe.length (icl pe)) (hpen : pe.length ≤ 9223372036854775807) :
    Calls Try.prog 45 [.agg [.int .i64 pl, .slice PA ps.length pc, .slice XA xs.length xc].toArray, .int .i64 out, .slice BA pe.length bc, .int .i64 T0].toArray w (Ret (fun u w' => ∃ A c, u = .tuple #[.slice A (mustV pl ps xs out pe T0).1.length c, .int .i64 (mustV pl ps xs out pe T0).2] ∧ St w noF [ownM 3 1 A (mustV pl ps xs out pe T0).1.length c (icl (mustV pl ps xs out pe T0).1)] w')) := by
 refine enter Try.func45 rfl Try.ntmps45 rfl (fun a H => ?_)
 have S := St.start w
 refine seq_list fun K1 k1 => ?_
 refine list_box H rfl S rfl rfl ?_;clear H a S;intro b4 _ a hb4 hbw4 S H
 refine ls 2 H <| sr 2 rfl <| sE ?_;clear H a;intro a H
 refine k1 _ _ ?_;clear k1 K1
 refine wp_seq_k fun K2 k2 => ?_
 refine seq_list fun K3 k3 => ?_
 refine ls 4 H <| sd ((does_loadBox agg_25 sz_25 rfl S (i := 0) rfl rfl)) <| sr 3 rfl <| sE ?_;clear H a;intro a H
 refine list_call H rfl rfl Try.func65 rfl rfl (ways_leaving pl ps PA pc xs XA xc out pe BA bc T0 _ (hps.now S) hpn (hxs.now S) hxn (hpe.now S) hpen) ?_;clear H a
 rintro _ _ a ⟨rfl, S2⟩ H
 replace S := S.call S2;clear S2
 refine ls 1 H <| sr 1 rfl <| sE ?_;clear H a;intro a H
 refine k3 _ _ ?_;clear k3 K3
 replace H := H.keep [1, 2, 3, 4, 10] rfl
 refine sS H fun K4 k4=>sr 2 rfl <| sE ?_;clear H a;intro a H
 refine k4 _ ?_;clear k4 K4
 refine condN H rfl (fun hc1 => ?_) (fun hc1 => ?_)
 ·skip
  refine sS H fun K5 k5=>sr 3 rfl <| sE ?_;clear H a;intro a H
  refine k5 _ ?_;clear k5 K5
  refine wp_ret ?_
  refine ret2 (fn := Try.f45) rfl H rfl rfl ?_
  rw [must_err hc1]
  exact ⟨none, 0, rfl, (S.sel [] rfl rfl).newNil _ _ _⟩
 obtain ⟨hst, hou, hcr, hti⟩ := leaveE_ok hc1
 have hV0 := st_valid hst
 obtain ⟨P, rfl⟩ : ∃ P : Nat, pl = P := ⟨pl.toNat, by have := hV0.size; omega⟩
 have hV := hV0
 obtain ⟨hpp, hpl'⟩ := crowd_ok hcr
 have hpl : pe.length = P := by omega
 obtain ⟨T, rfl⟩ : ∃ T : Nat, T0 = T := ⟨T0.toNat, by omega⟩
 have hT : T ≤ 60 := by omega
 have hP10 := hV.size
 refine wp_skip ?_
 refine k2 _ _ ?_
 refine wp_seq_k fun K6 k6 => ?_
 replace H := H.keep [1, 2, 3, 4] rfl
 refine seq_list fun K7 k7 => ?_
 refine ls 4 H <| sd ((does_loadBox agg_25 sz_25 rfl S (i := 0) rfl rfl)) <| sr 3 rfl <| sE ?_;clear H a;intro a H
 refine list_call H rfl rfl Try.func77 rfl rfl (ways_all P T ps PA pc xs XA xc out pe BA bc _ (hps.now S) hpn (hxs.now S) hxn (hpe.now S) hpl hV hou hpp hT) ?_;clear H a
 rintro _ _ a ⟨rfl, S2⟩ H
 replace S := S.call S2;clear S2
 refine ls 1 H <| sr 1 rfl <| sE ?_;clear H a;intro a H
 refine k7 _ _ ?_;clear k7 K7
 refine cond_ H rfl (fun hc2 => ?_) (fun hc2 => ?_)
 ·skip
  try simp only [o1,o2,o3,o4,o5,o6,o7,o8,o9,oa] at hc2
  refine sS H fun K8 k8=>sr 2 rfl <| sE ?_;clear H a;intro a H
  refine k8 _ ?_;clear k8 K8
  refine wp_ret ?_
  refine ret2 (fn := Try.f45) rfl H rfl rfl ?_
  rw [must_none hc1 hc2]
  exact ⟨none, 0, rfl, (S.sel [] rfl rfl).newNil _ _ _⟩
 try simp only [o1,o2,o3,o4,o5,o6,o7,o8,o9,oa] at hc2
 refine wp_skip ?_
 refine k6 _ _ ?_
 refine sS H fun K9 k9=>sr 1 rfl <| sE ?_;clear H a;intro a H
 refine k9 _ ?_;clear k9 K9
 refine wp_seq_k fun K10 k10 => ?_
 replace H := H.keep [1, 2, 3, 4, 11] rfl
 refine sS H fun K11 k11=>sf fo_25_1 rfl <| sl S 0 one_22 rfl rfl rfl <| sL sl_22 rfl <| sr 1 rfl <| sE ?_;clear H a;intro a H
 refine k11 _ ?_;clear k11 K11
 refine wp_block ?_
 replace S := S.newNil 3 1 (wcl [])
 refine loop_st (X := Nat × List Nat × Option Addr × Nat) (R0 := _) [1, 2, 3, 4, 29, 30] H rfl (fun ⟨k, wl, A9, c9⟩ => [(11, .slice A9 wl.length c9), (31, .int .i64 (k : Int))]) (fun ⟨k, wl, A9, c9⟩ => [ownM 3 1 A9 wl.length c9 (wcl wl)]) (fun g ⟨k, wl, A9, c9⟩ => k ≤ ps.length ∧ g + k = ps.length ∧ wl = mustP ps out (mustB P T ps xs out pe) k) (ps.length) (0, [], none, 0) ?_ (S.sel [0, 1] rfl rfl) (H.keep [11, 31, 1, 2, 3, 4, 29, 30] rfl) ?_
 · exact ⟨by omega, by omega, rfl⟩
 clear H S a
 intro g1 x1 a w1 hp S H K12 k12
 obtain ⟨k, wl, A9, c9⟩ := x1
 dsimp only at hp S H
 obtain ⟨hkl, hgk, hW⟩ := hp
 have hwn : wl.length ≤ k := by rw [hW]; exact mustP_len k
 refine sS H fun K13 k13=>sr 1 rfl <| sE ?_;clear H a;intro a H
 refine k13 _ ?_;clear k13 K13
 refine wp_seq_k fun K14 k14 => ?_
 refine condL H rfl (fun hc3 => ?_) (fun hc3 => ?_)
 ·skip
  refine wp_skip ?_
  refine k14 _ _ ?_
  refine wp_seq_k fun K15 k15 => ?_
  refine wp_block ?_
  refine seq_list fun K16 k16 => ?_
  refine ls 2 H <| si sl_22 sz_45 rfl rfl (hps.adr (by omega)) (by omega) <| sd ((does_loadIn agg_45 sz_45 rfl S hps (by omega) (by omega))) <| sE ?_;clear H a;intro a H
  refine list_alloc H rfl S ze_45 ?_;clear H a S;intro b13 _ a hb13 hbw13 S H
  refine list_store H S (i := 0) rfl rfl rfl rfl sz_45 rfl rfl ?_
  clear H a S;intro _ a S H
  refine k16 _ _ ?_;clear k16 K16
  rcases mov3 (ps.getD k Psg.zero).kind (out / 2 ^ (ps.getD k Psg.zero).mach.toNat) with hB | hB | hB
  ·skip
   skip
   replace H := H.keep [1, 2, 3, 4, 11, 13, 29, 30, 31] rfl
   replace S := S.drew
   refine seq_wq [(0, true), (1, true), (2, true), (3, true), (4, true), (5, true), (6, true), (7, true), (8, true), (9, true), (10, true), (11, true), (12, true), (13, true), (14, true), (15, true), (16, true), (17, true), (18, true), (19, true), (20, true), (21, true), (22, true)] (by kernel_rfl) (by kernel_rfl) (S.sel [0, 1, 2] rfl rfl) fun K17 k17 => ?_
   refine qF H <| qd rfl (fun _ S => (does_field fo_45_2 rfl)) <| qd rfl (fun _ S => does_load one_3 rfl (boxM.rd S (i := 0) rfl rfl)) <| qd rfl (fun _ S => (does_eql rfl rfl).to (congrArg Value.bool (decide_eq_false hB))) <| qr 1 rfl <| qK ?_;clear H a;intro a H
   refine wq_no H rfl rfl rfl rfl rfl ?_;clear H a;intro a H
   refine wq_no H rfl rfl rfl rfl rfl ?_;clear H a;intro a H
   refine wq_no H rfl rfl rfl rfl rfl ?_;clear H a;intro a H
   refine wq_no H rfl rfl rfl rfl rfl ?_;clear H a;intro a H
   refine wq_no H rfl rfl rfl rfl rfl ?_;clear H a;intro a H
   refine wq_no H rfl rfl rfl rfl rfl ?_;clear H a;intro a H
   refine qF H <| qd rfl (fun _ S => (does_pick rfl rfl rfl)) <| qr 1 rfl <| qK ?_;clear H a;intro a H
   refine wq_no H rfl rfl rfl rfl rfl ?_;clear H a;intro a H
   refine wq_no H rfl rfl rfl rfl rfl ?_;clear H a;intro a H
   refine wq_no H rfl rfl rfl rfl rfl ?_;clear H a;intro a H
   refine wq_no H rfl rfl rfl rfl rfl ?_;clear H a;intro a H
   refine wq_no H rfl rfl rfl rfl rfl ?_;clear H a;intro a H
   refine wq_no H rfl rfl rfl rfl rfl ?_;clear H a;intro a H
   refine wq_no H rfl rfl rfl rfl rfl ?_;clear H a;intro a H
   refine wq_no H rfl rfl rfl rfl rfl ?_;clear H a;intro a H
   refine wq_no H rfl rfl rfl rfl rfl ?_;clear H a;intro a H
   refine wq_no H rfl rfl rfl rfl rfl ?_;clear H a;intro a H
   refine qF H <| qd rfl (fun _ S => (does_pick rfl rfl rfl)) <| qK ?_;clear H a;intro a H
   refine wq_nil ?_
   refine k17 _ _ ?_
   clear k17 K17
   refine cond_ H rfl (fun hc4 => ?_) (fun hc4 => ?_)
   ·skip
    skip
    cases hc4
   skip
   refine wp_skip ?_
   refine k15 _ _ ?_
   replace H := H.keep [1, 2, 3, 4, 11, 29, 30, 31] rfl
   refine sO H <| sd (does_add rfl rfl (by unfold i64ok; omega)) <| sr 1 rfl <| sE ?_;clear H a;intro a H
   exact k12 (g1 - 1) (k + 1, _, _, _) a _ (by omega) (by first | exact ⟨by omega, by omega, mustP_yes hW (mov_t hB hc6)⟩ | exact ⟨by omega, by omega, mustP_no hW (mov_f hc6)⟩ | exact ⟨by omega, by omega, mustP_no hW (mov_f1 hB)⟩ | exact ⟨by omega, by omega, mustP_no hW (mov_f2 hB.2)⟩) (S.sel [1, 2] rfl rfl) (H.keep [11, 31, 1, 2, 3, 4, 29, 30] rfl)
  ·skip
   have hmm : 0 ≤ (ps.getD k Psg.zero).mach ∧ (ps.getD k Psg.zero).mach ≤ 11 := mov_mach hV (by omega) hB.1
   replace H := H.keep [1, 2, 3, 4, 11, 13, 29, 30, 31] rfl
   replace S := S.drew
   refine seq_wq [(0, true), (1, true), (2, true), (3, true), (4, true), (5, true), (6, true), (7, true), (8, true), (9, true), (10, true), (11, true), (12, true), (13, true), (14, true), (15, true), (16, true), (17, true), (18, true), (19, true), (20, true), (21, true), (22, true)] (by kernel_rfl) (by kernel_rfl) (S.sel [0, 1, 2] rfl rfl) fun K19 k19 => ?_
   refine qF H <| qd rfl (fun _ S => (does_field fo_45_2 rfl)) <| qd rfl (fun _ S => does_load one_3 rfl (boxM.rd S (i := 0) rfl rfl)) <| qd rfl (fun _ S => (does_eql rfl rfl).to (congrArg Value.bool (decide_eq_true hB.1))) <| qr 1 rfl <| qK ?_;clear H a;intro a H
   refine wq_yes H rfl rfl rfl rfl (fun _ S => does_move rfl) ?_;clear H a;intro a H
   refine wq_yes H rfl rfl rfl rfl (fun _ S => (does_field fo_45_5 rfl)) ?_;clear H a;intro a H
   refine wq_yes H rfl rfl rfl rfl (fun _ S => does_load one_3 rfl (boxM.rd S (i := 0) rfl rfl)) ?_;clear H a;intro a H
   refine wq_yes H rfl rfl rfl rfl (fun _ S => does_shr rfl rfl (by omega) (by omega)) ?_;clear H a;intro a H
   refine wq_yes H rfl rfl rfl rfl (fun _ S => does_and1 rfl rfl) ?_;clear H a;intro a H
   refine wq_yes H rfl rfl rfl rfl (fun _ S => (does_eql rfl rfl).to (congrArg Value.bool (decide_eq_false hB.2))) ?_;clear H a;intro a H
   refine qF H <| qd rfl (fun _ S => (does_and rfl rfl rfl)) <| qr 1 rfl <| qK ?_;clear H a;intro a H
   refine wq_no H rfl rfl rfl rfl rfl ?_;clear H a;intro a H
   refine wq_no H rfl rfl rfl rfl rfl ?_;clear H a;intro a H
   refine wq_no H rfl rfl rfl rfl rfl ?_;clear H a;intro a H
   refine wq_no H rfl rfl rfl rfl rfl ?_;clear H a;intro a H
   refine wq_no H rfl rfl rfl rfl rfl ?_;clear H a;intro a H
   refine wq_no H rfl rfl rfl rfl rfl ?_;clear H a;intro a H
   refine wq_no H rfl rfl rfl rfl rfl ?_;clear H a;intro a H
   refine wq_no H rfl rfl rfl rfl rfl ?_;clear H a;intro a H
   refine wq_no H rfl rfl rfl rfl rfl ?_;clear H a;intro a H
   refine wq_no H rfl rfl rfl rfl rfl ?_;clear H a;intro a H
   refine qF H <| qd rfl (fun _ S => (does_pick rfl rfl rfl)) <| qK ?_;clear H a;intro a H
   refine wq_nil ?_
   refine k19 _ _ ?_
   clear k19 K19
   refine cond_ H rfl (fun hc5 => ?_) (fun hc5 => ?_)
   ·skip
    skip
    cases hc5
   skip
   refine wp_skip ?_
   refine k15 _ _ ?_
   replace H := H.keep [1, 2, 3, 4, 11, 29, 30, 31] rfl
   refine sO H <| sd (does_add rfl rfl (by unfold i64ok; omega)) <| sr 1 rfl <| sE ?_;clear H a;intro a H
   exact k12 (g1 - 1) (k + 1, _, _, _) a _ (by omega) (by first | exact ⟨by omega, by omega, mustP_yes hW (mov_t hB hc6)⟩ | exact ⟨by omega, by omega, mustP_no hW (mov_f hc6)⟩ | exact ⟨by omega, by omega, mustP_no hW (mov_f1 hB)⟩ | exact ⟨by omega, by omega, mustP_no hW (mov_f2 hB.2)⟩) (S.sel [1, 2] rfl rfl) (H.keep [11, 31, 1, 2, 3, 4, 29, 30] rfl)
  have hmm : 0 ≤ (ps.getD k Psg.zero).mach ∧ (ps.getD k Psg.zero).mach ≤ 11 := mov_mach hV (by omega) hB.1
  have hpw := pwI_le hmm
  have hbr := bit_room hou (show (ps.getD k Psg.zero).mach.toNat < 12 by omega) (by omega)
  replace H := H.keep [1, 2, 3, 4, 11, 13, 29, 30, 31] rfl
  replace S := S.drew
  refine seq_wq [(0, true), (1, true), (2, true), (3, true), (4, true), (5, true), (6, true), (7, true), (8, true), (9, true), (10, true), (11, true), (12, true), (13, true), (14, true), (15, true), (16, true), (17, true), (18, true), (19, true), (20, false), (21, true), (22, true)] (by kernel_rfl) (by kernel_rfl) (S.sel [0, 1, 2] rfl rfl) fun K21 k21 => ?_
  refine qF H <| qd rfl (fun _ S => (does_field fo_45_2 rfl)) <| qd rfl (fun _ S => does_load one_3 rfl (boxM.rd S (i := 0) rfl rfl)) <| qd rfl (fun _ S => (does_eql rfl rfl).to (congrArg Value.bool (decide_eq_true hB.1))) <| qr 1 rfl <| qK ?_;clear H a;intro a H
  refine wq_yes H rfl rfl rfl rfl (fun _ S => does_move rfl) ?_;clear H a;intro a H
  refine wq_yes H rfl rfl rfl rfl (fun _ S => (does_field fo_45_5 rfl)) ?_;clear H a;intro a H
  refine wq_yes H rfl rfl rfl rfl (fun _ S => does_load one_3 rfl (boxM.rd S (i := 0) rfl rfl)) ?_;clear H a;intro a H
  refine wq_yes H rfl rfl rfl rfl (fun _ S => does_shr rfl rfl (by omega) (by omega)) ?_;clear H a;intro a H
  refine wq_yes H rfl rfl rfl rfl (fun _ S => does_and1 rfl rfl) ?_;clear H a;intro a H
  refine wq_yes H rfl rfl rfl rfl (fun _ S => (does_eql rfl rfl).to (congrArg Value.bool (decide_eq_true hB.2))) ?_;clear H a;intro a H
  refine qF H <| qd rfl (fun _ S => (does_and rfl rfl rfl)) <| qr 1 rfl <| qK ?_;clear H a;intro a H
  refine wq_yes H rfl rfl rfl rfl (fun _ S => (does_loadBox agg_25 sz_25 rfl S (i := 2) rfl rfl)) ?_;clear H a;intro a H
  refine wq_yes H rfl rfl rfl rfl (fun _ S => does_move rfl) ?_;clear H a;intro a H
  refine wq_yes H rfl rfl rfl rfl (fun _ S => (does_field fo_45_5 rfl)) ?_;clear H a;intro a H
  refine wq_yes H rfl rfl rfl rfl (fun _ S => does_load one_3 rfl (boxM.rd S (i := 0) rfl rfl)) ?_;clear H a;intro a H
  refine wq_yes H rfl rfl rfl rfl (fun _ S => does_shl rfl rfl (by omega) (by omega) (by unfold i64ok; omega)) ?_;clear H a;intro a H
  refine wq_yes H rfl rfl rfl rfl (fun _ S => does_orB rfl rfl hou (by omega) hB.2) ?_;clear H a;intro a H
  refine wq_yes H rfl rfl rfl rfl (fun _ S => does_move rfl) ?_;clear H a;intro a H
  refine wq_yes H rfl rfl rfl rfl (fun _ S => does_move rfl) ?_;clear H a;intro a H
  refine wq_eff rfl ?_
  refine list_yes H rfl rfl ?_
  refine list_call H rfl rfl Try.func77 rfl rfl (ways_all P T ps PA pc xs XA xc (out + 2 ^ (ps.getD k Psg.zero).mach.toNat) pe BA bc _ (hps.now S) hpn (hxs.now S) hxn (hpe.now S) hpl hV hbr hpp hT) ?_;clear H a
  rintro _ _ a ⟨rfl, S2⟩ H
  replace S := S.call S2;clear S2
  refine wpList_nil (And.intro (S.sel [0, 1, 2] rfl rfl) ?_)
  refine wq_yes H rfl rfl rfl rfl (fun _ S => does_not rfl) ?_;clear H a;intro a H
  refine qF H <| qd rfl (fun _ S => (does_and rfl rfl rfl)) <| qK ?_;clear H a;intro a H
  refine wq_nil ?_
  refine k21 _ _ ?_
  clear k21 K21
  refine cond_ H rfl (fun hc6 => ?_) (fun hc6 => ?_)
  ·skip
   simp only [Bool.true_and, o1,o2,o3,o4,o5,o6,o7,o8,o9,oa] at hc6
   replace H := H.keep [1, 2, 3, 4, 11, 13, 29, 30, 31] rfl
   refine one_list ?_
   refine ls 3 H <| sr 1 rfl <| sf fo_45_5 rfl <| sl S 0 one_3 rfl rfl rfl <| sE ?_;clear H a;intro a H
   refine list_build' H rfl S sl_23 sz_3 ze_3 rfl rfl rfl rfl rfl rfl rfl rfl rfl ?_;clear H a S;intro A1 _ a hA1 S H
   refine list_append H rfl S sl_23 sz_3 ze_3 by_3 rfl rfl (i := 2) rfl rfl rfl (ownM.inS S (i := 0) rfl) (one_vs (one rfl)) (by omega) (by omega) ?_;clear H a S;intro A2 c2 _ a S H
   replace S := S.recell (i := 2) rfl (cell' := wcl (wl ++ [(machAt ps k).toNat])) (fun k j hk hj => wcl_snoc (congrArg (Value.int .i64) (Int.toNat_of_nonneg hmm.1).symm) k j hk hj)
   rw [show wl.length + 1 = (wl ++ [(machAt ps k).toNat]).length by simp] at H S
   refine ls 1 H <| sr 1 rfl <| sE ?_;clear H a;intro a H
   refine k15 _ _ ?_
   refine sO H <| sd (does_add rfl rfl (by unfold i64ok; omega)) <| sr 1 rfl <| sE ?_;clear H a;intro a H
   exact k12 (g1 - 1) (k + 1, _, _, _) a _ (by omega) (by first | exact ⟨by omega, by omega, mustP_yes hW (mov_t hB hc6)⟩ | exact ⟨by omega, by omega, mustP_no hW (mov_f hc6)⟩ | exact ⟨by omega, by omega, mustP_no hW (mov_f1 hB)⟩ | exact ⟨by omega, by omega, mustP_no hW (mov_f2 hB.2)⟩) (S.sel [2, 3] rfl rfl) (H.keep [11, 31, 1, 2, 3, 4, 29, 30] rfl)
  simp only [Bool.true_and, o1,o2,o3,o4,o5,o6,o7,o8,o9,oa] at hc6
  refine wp_skip ?_
  refine k15 _ _ ?_
  replace H := H.keep [1, 2, 3, 4, 11, 29, 30, 31] rfl
  refine sO H <| sd (does_add rfl rfl (by unfold i64ok; omega)) <| sr 1 rfl <| sE ?_;clear H a;intro a H
  exact k12 (g1 - 1) (k + 1, _, _, _) a _ (by omega) (by first | exact ⟨by omega, by omega, mustP_yes hW (mov_t hB hc6)⟩ | exact ⟨by omega, by omega, mustP_no hW (mov_f hc6)⟩ | exact ⟨by omega, by omega, mustP_no hW (mov_f1 hB)⟩ | exact ⟨by omega, by omega, mustP_no hW (mov_f2 hB.2)⟩) (S.sel [1, 2] rfl rfl) (H.keep [11, 31, 1, 2, 3, 4, 29, 30] rfl)
 refine wp_exit ?_
 refine k10 _ _ ?_
 obtain rfl : k = ps.length := by omega
 replace S := own_lenS S (i := 0) rfl (toI_len wl).symm
 replace S := (S.sel [0, 1] rfl rfl)
 rw [wcl_icl] at S
 rw [show Value.slice A9 wl.length c9 = .slice A9 (toI wl).length c9 by rw [toI_len]] at H
 have hso := must_sort (f := (mustB P T ps xs out pe)) (out := out) hV
 rw [← hW] at hso
 refine seq_list fun K25 k25 => ?_
 refine ls 1 H <| sr 1 rfl <| sE ?_;clear H a;intro a H
 refine list_call H rfl rfl Try.func83 rfl rfl (sort_own S (i := 0) rfl (by rw [toI_len]; omega)) ?_;clear H a
 rintro _ _ a ⟨rfl, S2⟩ H
 replace S := S2;clear S2
 refine k25 _ _ ?_;clear k25 K25
 refine sS H fun K26 k26=>sr 3 rfl <| sE ?_;clear H a;intro a H
 refine k26 _ ?_;clear k26 K26
 refine wp_ret ?_
 refine ret2 (fn := Try.f45) rfl H rfl rfl ?_
 rw [must_some hc1 hc2]
 rw [hso] at S
 replace S := own_lenS S (i := 0) rfl (show (toI wl).length = (toI (mustL P T ps xs out pe)).length by unfold mustL; rw [← hso, List.length_mergeSort])
 refine ⟨A9, c9, ?_, (S.sel [0] rfl rfl)⟩
 rw [show (toI (mustL P T ps xs out pe)).length = (toI wl).length by unfold mustL; rw [← hso, List.length_mergeSort]]

end Go.Proofs.Ytlmddkekeoebcaa
