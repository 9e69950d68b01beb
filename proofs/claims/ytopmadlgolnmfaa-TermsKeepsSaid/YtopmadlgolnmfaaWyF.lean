/- WyF. Printed by gen.py. -/
import Derived.Test.YtopmadlgolnmfaaWyE
import Derived.Test.YtopmadlgolnmfaaE3
namespace Go.Proofs.Ytopmadlgolnmfaa
open Go.RowKit
set_option linter.unusedVariables false
set_option linter.unusedSimpArgs false
set_option maxRecDepth 100000
set_option maxHeartbeats 4000000


theorem ways_headings (pl : Int) (ps : List Psg) (PA : Option Addr) (pc : Nat) (xs : List Int) (XA : Option Addr) (xc : Nat) (out : Int) (w : World) :
    Calls Try.prog 91 [.agg [.int .i64 pl, .slice PA ps.length pc, .slice XA xs.length xc].toArray, .int .i64 out].toArray w (Ret (fun u w' => ∃ b2 b3, u = .func (.func 104) #[] #[.pointer (some ⟨b2, 0, none⟩), .pointer (some ⟨b3, 0, none⟩)] ∧ St w noF [boxM b2 25 [.int .i64 pl, .slice PA ps.length pc, .slice XA xs.length xc], boxM b3 3 [.int .i64 out]] w')) := by
 refine enter Try.func91 rfl Try.ntmps91 rfl (fun a H => ?_)
 have S := St.start w
 refine seq_list fun K1 k1 => ?_
 refine list_box H rfl S rfl rfl ?_;clear H a S;intro b2 _ a hb2 hbw2 S H
 refine list_box H rfl S rfl rfl ?_;clear H a S;intro b3 _ a hb3 hbw3 S H
 refine ls 1 H <| sr 1 rfl <| sE ?_;clear H a;intro a H
 refine k1 _ _ ?_;clear k1 K1
 refine sS H fun K2 k2=>sr 2 rfl <| sE ?_;clear H a;intro a H
 refine k2 _ ?_;clear k2 K2
 refine wp_ret ?_
 refine ret1 (fn := Try.f91) rfl H rfl ?_
 exact ⟨_, _, rfl, (S.sel [1, 0] rfl rfl)⟩

theorem heads_iter (pl : Int) (ps : List Psg) (PA : Option Addr) (pc : Nat) (xs : List Int) (XA : Option Addr) (xc : Nat) (out : Int) (b2 b3 l : Nat) (Jm : Nat → Mem → Prop) (m : Mem) (w : World) (F : Nat → Prop) (h0 : Jm 0 m) (S : St w F [m, boxM b2 25 [.int .i64 pl, .slice PA ps.length pc, .slice XA xs.length xc], boxM b3 3 [.int .i64 out]] w) (hps : InS w F 7 PA ps.length (pcell ps)) (hpn : ps.length ≤ 9223372036854775807) (hxs : InS w F 1 XA xs.length (icl xs)) (hxn : xs.length ≤ 9223372036854775807) (hmv : ∀ k, k < ps.length → (ps.getD k Psg.zero).kind = 3 → 0 ≤ (ps.getD k Psg.zero).mach ∧ (ps.getD k Psg.zero).mach ≤ 11) (hout : 0 ≤ out) (hr : ∀ i m' x w1, i < (hds out xs ps).length → Jm i m' → St w F [m', x] w1 → Round Try.prog l (.agg (Hd.cells ((hds out xs ps).getD i Hd.zero)).toArray) Jm w F i x w1) :
    Calls Try.prog 104 [.func (.yield l) #[] #[], .pointer (some ⟨b2, 0, none⟩), .pointer (some ⟨b3, 0, none⟩)].toArray w (Ret (fun u w' => ∃ m', Jm (hds out xs ps).length m' ∧ St w F [m', boxM b2 25 [.int .i64 pl, .slice PA ps.length pc, .slice XA xs.length xc], boxM b3 3 [.int .i64 out]] w')) := by
 refine enter Try.func104 rfl Try.ntmps104 rfl (fun a H => ?_)
 skip
 refine sS H fun K1 k1=>sf fo_25_1 rfl <| sl S 1 one_22 rfl rfl rfl <| sL sl_22 rfl <| sr 1 rfl <| sE ?_;clear H a;intro a H
 refine k1 _ ?_;clear k1 K1
 refine wp_block ?_
 refine loop_st (X := Nat × Mem) (R0 := _) [0, 1, 2, 9, 10] H rfl (fun ⟨k, m⟩ => [(11, .int .i64 (k : Int))]) (fun ⟨k, m⟩ => [m]) (fun g ⟨k, m⟩ => k ≤ ps.length ∧ g + k = ps.length ∧ Jm (hdsTo out xs ps k).length m) (ps.length) (0, m) ?_ (S.sel [0, 1, 2] rfl rfl) (H.keep [11, 0, 1, 2, 9, 10] rfl) ?_
 · exact ⟨by omega, by omega, h0⟩
 clear H S a
 intro g1 x1 a w1 hp S H K2 k2
 obtain ⟨k, m⟩ := x1
 dsimp only at hp S H
 obtain ⟨hkl, hgk, hJ⟩ := hp
 refine sS H fun K3 k3=>sr 1 rfl <| sE ?_;clear H a;intro a H
 refine k3 _ ?_;clear k3 K3
 refine wp_seq_k fun K4 k4 => ?_
 refine condL H rfl (fun hc1 => ?_) (fun hc1 => ?_)
 ·skip
  refine wp_skip ?_
  refine k4 _ _ ?_
  refine wp_seq_k fun K5 k5 => ?_
  refine wp_block ?_
  refine seq_list fun K6 k6 => ?_
  refine ls 3 H <| sr 1 rfl <| si sl_22 sz_128 rfl rfl (hps.adr (by omega)) (by omega) <| sd ((does_loadIn agg_128 sz_128 rfl S hps (by omega) (by omega))) <| sE ?_;clear H a;intro a H
  refine list_alloc H rfl S ze_128 ?_;clear H a S;intro b5 _ a hb5 hbw5 S H
  refine ls 1 H <| sr 1 rfl <| sE ?_;clear H a;intro a H
  refine list_store H S (i := 0) rfl rfl rfl rfl sz_128 rfl rfl ?_
  clear H a S;intro _ a S H
  refine k6 _ _ ?_;clear k6 K6
  replace H := H.keep [0, 1, 2, 4, 5, 9, 10, 11] rfl
  refine sS H fun K7 k7=>sf fo_128_3 rfl <| sl S 0 one_3 rfl rfl rfl <| sr 2 rfl <| sE ?_;clear H a;intro a H
  refine k7 _ ?_;clear k7 K7
  have SR := (S.sel [0, 1, 2, 3] rfl rfl)
  refine meet_sr (X := Int × Bool) [0, 1, 2, 4, 5, 9, 10, 11] H rfl (fun ⟨tk, bk⟩ => [(6, .int .i64 tk), (7, .bool bk)]) (fun ⟨tk, bk⟩ => []) (fun ⟨tk, bk⟩ => ¬ (ps.getD k Psg.zero).kind = 4 ∧ tk = hdTicks out (ps.getD k Psg.zero) ∧ bk = hdBack out (ps.getD k Psg.zero)) SR (fun K9 k9 => ?_) ?_
  ·skip
   refine wp_block ?_
   refine sS H fun K10 k10=>sf fo_128_2 rfl <| sl S 0 one_3 rfl rfl rfl <| sr 2 rfl <| sE ?_;clear H a;intro a H
   refine k10 _ ?_;clear k10 K10
   refine condE H rfl (fun hc2 => ?_) (fun hc2 => ?_)
   ·skip
    refine wp_exit ?_
    refine k5 _ _ ?_
    replace H := H.keep [0, 1, 2, 9, 10, 11] rfl
    refine sO H <| sd (does_add rfl rfl (by unfold i64ok; omega)) <| sr 1 rfl <| sE ?_;clear H a;intro a H
    exact k2 (g1 - 1) (k + 1, _) a _ (by omega) (by first | exact ⟨by omega, by omega, (hds_len4 (out := out) (xs := xs) hc2).symm ▸ hJ⟩ | exact ⟨by omega, by omega, by rw [hds_len hk4, hqB]; exact hJ2⟩ | exact ⟨by omega, by omega, by rw [hds_len hk4, hqB]; exact hJ⟩) (S.sel [1, 2, 3] rfl rfl) (H.keep [11, 0, 1, 2, 9, 10] rfl)
   replace H := H.keep [0, 1, 2, 4, 5, 6, 7, 9, 10, 11] rfl
   refine sS H fun K12 k12=>sf fo_128_2 rfl <| sl S 0 one_3 rfl rfl rfl <| sr 2 rfl <| sg 6 3 26 32 true rfl rfl (fun hg4 => by
       have hq4 := hg4;try simp only [o1,o2,o3,o4,o5,o6,o7,o8,o9,oa] at hq4
       have hmk := hmv k (by omega) hq4
       exact sy hg4 <| sl S 3 one_3 rfl rfl rfl <| sy hg4 <| sf fo_128_5 rfl <| sy hg4 <| sl S 0 one_3 rfl rfl rfl <| sy hg4 <| sd (does_shr rfl rfl (by omega) (by omega)) <| sy hg4 <| sd (does_and1 rfl rfl) <| sy hg4 <| sr 1 rfl <| sz 6 rfl rfl rfl) <| sa rfl rfl rfl <| sr 1 rfl <| sE ?_;clear H a;intro a H
   refine k12 _ ?_;clear k12 K12
   refine cond_ H rfl (fun hc3 => ?_) (fun hc3 => ?_)
   ·skip
    try simp only [o1,o2,o3,o4,o5,o6,o7,o8,o9,oa] at hc3
    replace H := H.keep [0, 1, 2, 4, 5, 6, 9, 10, 11] rfl
    refine sO H <| sr 1 rfl <| sE ?_;clear H a;intro a H
    exact k9 ((ps.getD k Psg.zero).ticks, false) a _ (⟨hc2, by unfold hdTicks bitI; rw [if_neg (by omega)], hdBack_f hc3⟩) (S.sel [0, 1, 2, 3] rfl rfl) (H.keep [6, 7, 0, 1, 2, 4, 5, 9, 10, 11] rfl)
   try simp only [o1,o2,o3,o4,o5,o6,o7,o8,o9,oa] at hc3
   refine sS H fun K14 k14=>sf fo_128_2 rfl <| sl S 0 one_3 rfl rfl rfl <| sr 2 rfl <| sE ?_;clear H a;intro a H
   refine k14 _ ?_;clear k14 K14
   refine condE H rfl (fun hc4 => ?_) (fun hc4 => ?_)
   ·skip
    refine sO H <| sf fo_128_6 rfl <| sl S 0 one_3 rfl rfl rfl <| sr 1 rfl <| sE ?_;clear H a;intro a H
    exact k9 ((ps.getD k Psg.zero).still, true) a _ (⟨hc2, by unfold hdTicks bitI; rw [if_pos (by omega)], hdBack_t hc3⟩) (S.sel [0, 1, 2, 3] rfl rfl) (H.keep [6, 7, 0, 1, 2, 4, 5, 9, 10, 11] rfl)
   refine wp_skip ?_
   exact k9 ((ps.getD k Psg.zero).ticks, true) a _ (⟨hc2, by unfold hdTicks; rw [if_neg (by omega)], hdBack_t hc3⟩) (S.sel [0, 1, 2, 3] rfl rfl) (H.keep [6, 7, 0, 1, 2, 4, 5, 9, 10, 11] rfl)
  clear SR H S a
  intro xm a wm hp S H
  obtain ⟨tk, bk⟩ := xm
  obtain ⟨hk4, rfl, rfl⟩ := hp
  have SR := (S.sel [0, 2, 3] rfl rfl)
  refine meet_sr (X := Nat × Mem) [0, 1, 2, 4, 5, 6, 7, 9, 10, 11] H rfl (fun ⟨q, m⟩ => []) (fun ⟨q, m⟩ => [m]) (fun ⟨q, m⟩ => Jm q m ∧ q = (hdsTo out xs ps k).length + qA xs (ps.getD k Psg.zero)) SR (fun K17 k17 => ?_) ?_
  ·skip
   cases hcA : hasI xs (ps.getD k Psg.zero).a
   ·skip
    replace H := H.keep [0, 1, 2, 4, 5, 6, 7, 9, 10, 11] rfl
    refine seq_in fun K18 k18 => ?_
    refine li_list 17 ?_
    refine ls 4 H <| sf fo_25_2 rfl <| sl S 2 one_23 rfl rfl rfl <| sf fo_128_0 rfl <| sl S 0 one_3 rfl rfl rfl <| sE ?_;clear H a;intro a H
    refine list_call H rfl rfl Try.func90 rfl rfl (slices_Contains xs XA xc _ _ (hxs.now S) hxn) ?_;clear H a
    rintro _ _ a ⟨rfl, S2⟩ H
    replace S := S.call S2;clear S2
    first | rw [hcA] at H | rw [hcB] at H
    refine ls 12 H <| sr 2 rfl <| sy rfl <| sr 1 rfl <| sy rfl <| sr 1 rfl <| sy rfl <| sf fo_128_0 rfl <| sy rfl <| sl S 0 one_3 rfl rfl rfl <| sy rfl <| sf fo_128_1 rfl <| sy rfl <| sl S 0 one_3 rfl rfl rfl <| sy rfl <| sr 1 rfl <| sy rfl <| sf fo_128_4 rfl <| sy rfl <| sl S 0 one_3 rfl rfl rfl <| sy rfl <| sd (does_build bt_165 rfl rfl) <| sE ?_;clear H a;intro a H
    refine wpList_nil ?_
    refine li_yes H rfl rfl rfl ?_
    have SY := (St.pack (Ms := [_, _, _]) (R := [_]) (S.sel [0, 2, 3, 1] rfl rfl)).sel [1, 0] rfl rfl
    have hhd := hds_first (out := out) (xs := xs) (show k < ps.length by omega) hk4 hcA
    refine li_yield H rfl rfl (v := .agg (Hd.cells ((hds out xs ps).getD ((hdsTo out xs ps k).length) Hd.zero)).toArray) (by rw [hhd.1]; rfl) (hr _ _ _ _ hhd.2 hJ SY) (fun _ _ h => h.1) ?_;clear H a
    rintro _ a ⟨_, m2, hJ2, S2⟩ H
    replace S := St.unpack (S2.sel [1, 0] rfl rfl);clear S2 SY
    refine li_list 2 ?_
    refine ls 2 H <| sy rfl <| sr 1 rfl <| sa rfl rfl rfl <| sE ?_;clear H a;intro a H
    refine wpList_nil ?_
    refine k18 _ _ ?_;clear k18 K18
    refine cond_ H rfl (fun hc5 => ?_) (fun hc5 => ?_)
    ·skip
     try simp only [o1,o2,o3,o4,o5,o6,o7,o8,o9,oa] at hc5
     exfalso; simp at hc5
    try simp only [o1,o2,o3,o4,o5,o6,o7,o8,o9,oa] at hc5
    refine wp_skip ?_
    exact k17 ((hdsTo out xs ps k).length + 1, _) a _ (⟨hJ2, by unfold qA; rw [if_neg (by rw [hcA]; simp)]⟩) (S.sel [3, 0, 1, 2] rfl rfl) (H.keep [0, 1, 2, 4, 5, 6, 7, 9, 10, 11] rfl)
   replace H := H.keep [0, 1, 2, 4, 5, 6, 7, 9, 10, 11] rfl
   refine seq_list fun K19 k19 => ?_
   refine ls 4 H <| sf fo_25_2 rfl <| sl S 2 one_23 rfl rfl rfl <| sf fo_128_0 rfl <| sl S 0 one_3 rfl rfl rfl <| sE ?_;clear H a;intro a H
   refine list_call H rfl rfl Try.func90 rfl rfl (slices_Contains xs XA xc _ _ (hxs.now S) hxn) ?_;clear H a
   rintro _ _ a ⟨rfl, S2⟩ H
   replace S := S.call S2;clear S2
   first | rw [hcA] at H | rw [hcB] at H
   refine ls 15 H <| sr 2 rfl <| sn rfl rfl rfl <| sn rfl rfl rfl <| sn rfl rfl rfl <| sn rfl rfl rfl <| sn rfl rfl rfl <| sn rfl rfl rfl <| sn rfl rfl rfl <| sn rfl rfl rfl <| sn rfl rfl rfl <| sn rfl rfl rfl <| sn rfl rfl rfl <| sn rfl rfl rfl <| sd ((does_pick rfl rfl rfl)) <| sE ?_;clear H a;intro a H
   refine k19 _ _ ?_;clear k19 K19
   refine cond_ H rfl (fun hc6 => ?_) (fun hc6 => ?_)
   ·skip
    try simp only [o1,o2,o3,o4,o5,o6,o7,o8,o9,oa] at hc6
    exfalso; simp at hc6
   try simp only [o1,o2,o3,o4,o5,o6,o7,o8,o9,oa] at hc6
   refine wp_skip ?_
   exact k17 ((hdsTo out xs ps k).length, _) a _ (⟨hJ, by unfold qA; rw [if_pos hcA]; rfl⟩) (S.sel [1, 0, 2, 3] rfl rfl) (H.keep [0, 1, 2, 4, 5, 6, 7, 9, 10, 11] rfl)
  clear SR H S a
  intro xm a wm hp S H
  obtain ⟨q, m⟩ := xm
  obtain ⟨hJ, rfl⟩ := hp
  rcases bk3 (hdBack out (ps.getD k Psg.zero)) (hasI xs (ps.getD k Psg.zero).b) with hbk | ⟨hbk, hcB⟩ | ⟨hbk, hcB⟩
  ·skip
   rw [hbk] at H
   have hqB : qB out xs (ps.getD k Psg.zero) = 0 := by unfold qB; rw [hbk]; rfl
   replace H := H.keep [0, 1, 2, 4, 5, 6, 7, 9, 10, 11] rfl
   refine seq_list fun K20 k20 => ?_
   refine ls 23 H <| sr 2 rfl <| sn rfl rfl rfl <| sn rfl rfl rfl <| sn rfl rfl rfl <| sn rfl rfl rfl <| sn rfl rfl rfl <| sn rfl rfl rfl <| sd ((does_pick rfl rfl rfl)) <| sr 1 rfl <| sn rfl rfl rfl <| sn rfl rfl rfl <| sn rfl rfl rfl <| sn rfl rfl rfl <| sn rfl rfl rfl <| sn rfl rfl rfl <| sn rfl rfl rfl <| sn rfl rfl rfl <| sn rfl rfl rfl <| sn rfl rfl rfl <| sn rfl rfl rfl <| sn rfl rfl rfl <| sd ((does_pick rfl rfl rfl)) <| sE ?_;clear H a;intro a H
   refine k20 _ _ ?_;clear k20 K20
   refine cond_ H rfl (fun hc7 => ?_) (fun hc7 => ?_)
   ·skip
    try simp only [o1,o2,o3,o4,o5,o6,o7,o8,o9,oa] at hc7
    exfalso; simp at hc7
   try simp only [o1,o2,o3,o4,o5,o6,o7,o8,o9,oa] at hc7
   refine wp_skip ?_
   refine k5 _ _ ?_
   replace H := H.keep [0, 1, 2, 9, 10, 11] rfl
   refine sO H <| sd (does_add rfl rfl (by unfold i64ok; omega)) <| sr 1 rfl <| sE ?_;clear H a;intro a H
   exact k2 (g1 - 1) (k + 1, _) a _ (by omega) (by first | exact ⟨by omega, by omega, (hds_len4 (out := out) (xs := xs) hc2).symm ▸ hJ⟩ | exact ⟨by omega, by omega, by rw [hds_len hk4, hqB]; exact hJ2⟩ | exact ⟨by omega, by omega, by rw [hds_len hk4, hqB]; exact hJ⟩) (S.sel [0, 2, 3] rfl rfl) (H.keep [11, 0, 1, 2, 9, 10] rfl)
  ·skip
   rw [hbk] at H
   have hqB : qB out xs (ps.getD k Psg.zero) = 0 := by unfold qB; rw [hbk, hcB]; rfl
   replace H := H.keep [0, 1, 2, 4, 5, 6, 7, 9, 10, 11] rfl
   refine seq_list fun K22 k22 => ?_
   refine ls 6 H <| sr 2 rfl <| sy rfl <| sf fo_25_2 rfl <| sy rfl <| sl S 2 one_23 rfl rfl rfl <| sy rfl <| sf fo_128_1 rfl <| sy rfl <| sl S 1 one_3 rfl rfl rfl <| sE ?_;clear H a;intro a H
   refine list_yes H rfl rfl ?_
   refine list_call H rfl rfl Try.func90 rfl rfl (slices_Contains xs XA xc _ _ (hxs.now S) hxn) ?_;clear H a
   rintro _ _ a ⟨rfl, S2⟩ H
   replace S := S.call S2;clear S2
   first | rw [hcA] at H | rw [hcB] at H
   refine ls 16 H <| sy rfl <| sr 1 rfl <| sa rfl rfl rfl <| sr 1 rfl <| sn rfl rfl rfl <| sn rfl rfl rfl <| sn rfl rfl rfl <| sn rfl rfl rfl <| sn rfl rfl rfl <| sn rfl rfl rfl <| sn rfl rfl rfl <| sn rfl rfl rfl <| sn rfl rfl rfl <| sn rfl rfl rfl <| sn rfl rfl rfl <| sn rfl rfl rfl <| sd ((does_pick rfl rfl rfl)) <| sE ?_;clear H a;intro a H
   refine k22 _ _ ?_;clear k22 K22
   refine cond_ H rfl (fun hc8 => ?_) (fun hc8 => ?_)
   ·skip
    try simp only [o1,o2,o3,o4,o5,o6,o7,o8,o9,oa] at hc8
    exfalso; simp at hc8
   try simp only [o1,o2,o3,o4,o5,o6,o7,o8,o9,oa] at hc8
   refine wp_skip ?_
   refine k5 _ _ ?_
   replace H := H.keep [0, 1, 2, 9, 10, 11] rfl
   refine sO H <| sd (does_add rfl rfl (by unfold i64ok; omega)) <| sr 1 rfl <| sE ?_;clear H a;intro a H
   exact k2 (g1 - 1) (k + 1, _) a _ (by omega) (by first | exact ⟨by omega, by omega, (hds_len4 (out := out) (xs := xs) hc2).symm ▸ hJ⟩ | exact ⟨by omega, by omega, by rw [hds_len hk4, hqB]; exact hJ2⟩ | exact ⟨by omega, by omega, by rw [hds_len hk4, hqB]; exact hJ⟩) (S.sel [0, 2, 3] rfl rfl) (H.keep [11, 0, 1, 2, 9, 10] rfl)
  rw [hbk] at H
  have hqB : qB out xs (ps.getD k Psg.zero) = 1 := by unfold qB; rw [hbk, hcB]; rfl
  replace H := H.keep [0, 1, 2, 4, 5, 6, 7, 9, 10, 11] rfl
  refine seq_in fun K24 k24 => ?_
  refine li_list 20 ?_
  refine ls 6 H <| sr 2 rfl <| sy rfl <| sf fo_25_2 rfl <| sy rfl <| sl S 2 one_23 rfl rfl rfl <| sy rfl <| sf fo_128_1 rfl <| sy rfl <| sl S 1 one_3 rfl rfl rfl <| sE ?_;clear H a;intro a H
  refine list_yes H rfl rfl ?_
  refine list_call H rfl rfl Try.func90 rfl rfl (slices_Contains xs XA xc _ _ (hxs.now S) hxn) ?_;clear H a
  rintro _ _ a ⟨rfl, S2⟩ H
  replace S := S.call S2;clear S2
  first | rw [hcA] at H | rw [hcB] at H
  refine ls 13 H <| sy rfl <| sr 1 rfl <| sa rfl rfl rfl <| sr 1 rfl <| sy rfl <| sr 1 rfl <| sy rfl <| sr 1 rfl <| sy rfl <| sf fo_128_1 rfl <| sy rfl <| sl S 1 one_3 rfl rfl rfl <| sy rfl <| sf fo_128_0 rfl <| sy rfl <| sl S 1 one_3 rfl rfl rfl <| sy rfl <| sr 1 rfl <| sy rfl <| sf fo_128_4 rfl <| sy rfl <| sl S 1 one_3 rfl rfl rfl <| sy rfl <| sd (does_build bt_165 rfl rfl) <| sE ?_;clear H a;intro a H
  refine wpList_nil ?_
  refine li_yes H rfl rfl rfl ?_
  have SY := (St.pack (Ms := [_, _, _]) (R := [_]) (S.sel [1, 2, 3, 0] rfl rfl)).sel [1, 0] rfl rfl
  have hhd := hds_second (out := out) (xs := xs) (show k < ps.length by omega) hk4 (by rw [hbk, hcB]; rfl)
  refine li_yield H rfl rfl (v := .agg (Hd.cells ((hds out xs ps).getD ((hdsTo out xs ps k).length + qA xs (ps.getD k Psg.zero)) Hd.zero)).toArray) (by rw [hhd.1]; rfl) (hr _ _ _ _ hhd.2 hJ SY) (fun _ _ h => h.1) ?_;clear H a
  rintro _ a ⟨_, m2, hJ2, S2⟩ H
  replace S := St.unpack (S2.sel [1, 0] rfl rfl);clear S2 SY
  refine li_list 2 ?_
  refine ls 2 H <| sy rfl <| sr 1 rfl <| sa rfl rfl rfl <| sE ?_;clear H a;intro a H
  refine wpList_nil ?_
  refine k24 _ _ ?_;clear k24 K24
  refine cond_ H rfl (fun hc9 => ?_) (fun hc9 => ?_)
  ·skip
   try simp only [o1,o2,o3,o4,o5,o6,o7,o8,o9,oa] at hc9
   exfalso; simp at hc9
  try simp only [o1,o2,o3,o4,o5,o6,o7,o8,o9,oa] at hc9
  refine wp_skip ?_
  refine k5 _ _ ?_
  replace H := H.keep [0, 1, 2, 9, 10, 11] rfl
  refine sO H <| sd (does_add rfl rfl (by unfold i64ok; omega)) <| sr 1 rfl <| sE ?_;clear H a;intro a H
  exact k2 (g1 - 1) (k + 1, _) a _ (by omega) (by first | exact ⟨by omega, by omega, (hds_len4 (out := out) (xs := xs) hc2).symm ▸ hJ⟩ | exact ⟨by omega, by omega, by rw [hds_len hk4, hqB]; exact hJ2⟩ | exact ⟨by omega, by omega, by rw [hds_len hk4, hqB]; exact hJ⟩) (S.sel [3, 1, 2] rfl rfl) (H.keep [11, 0, 1, 2, 9, 10] rfl)
 refine wp_exit ?_
 refine ret0 (fn := Try.f104) rfl H ?_
 have hkn : k = ps.length := by omega
 subst hkn
 exact ⟨_, hJ, (S.sel [0, 1, 2] rfl rfl)⟩

end Go.Proofs.Ytopmadlgolnmfaa
