/- CiH. Printed by gen.py. -/
import Derived.Test.YtdepakimbagonaaCiG
namespace Go.Proofs.Ytdepakimbagonaa
open Go.RowKit
set_option linter.unusedVariables false
set_option linter.unusedSimpArgs false
set_option maxRecDepth 100000
set_option maxHeartbeats 4000000


def exSw : List Int := [1, 1, 2, 2]
def exWs : List Wr := [⟨2, [1, 2, 3, 4]⟩, ⟨1, [0]⟩, ⟨1, [1]⟩, ⟨1, [2]⟩, ⟨1, [3]⟩]
def exOA (A0 A1 A2 A3 A4 : Option Addr) (k : Nat) : Option Addr := [A0, A1, A2, A3, A4].getD k none
def exOc (k : Nat) : Nat := [4, 1, 1, 1, 1].getD k 0
theorem exCir : circE 2 exSw exWs = 0 := by kernel_rfl
theorem exPairs : pcOut 2 exSw exWs (critN 2 exSw exWs exSw.length) exSw.length = 2 := by kernel_rfl


theorem claw_Example (w : World) :
    Calls Try.prog 26 [].toArray w (Ret (fun v w' => ∃ SA A0 A1 A2 A3 A4 QA TA, v = .tuple #[.agg [.int .i64 2, .slice SA 4 4, .slice QA 5 5].toArray, .slice TA 4 4] ∧ St w noF [ownM 3 1 SA 4 4 (icl exSw), ownM 3 1 A0 4 4 (icl [1, 2, 3, 4]), ownM 3 1 A1 1 1 (icl [0]), ownM 3 1 A2 1 1 (icl [1]), ownM 3 1 A3 1 1 (icl [2]), ownM 3 1 A4 1 1 (icl [3]), ownM 125 2 QA 5 5 (wrcell exWs (exOA A0 A1 A2 A3 A4) exOc)] w')) := by
 refine enter Try.func26 rfl Try.ntmps26 rfl (fun a H => ?_)
 have S := St.start w
 refine seq_list fun K1 k1 => ?_
 refine list_alloc H rfl S ze_85 ?_;clear H a S;intro b0 _ a hb0 hbw0 S H
 refine ls 1 H <| sr 1 rfl <| sE ?_;clear H a;intro a H
 refine k1 _ _ ?_;clear k1 K1
 replace H := H.keep [0] rfl
 refine seq_list fun K2 k2 => ?_
 refine list_build' H rfl S sl_25 sz_3 ze_3 rfl rfl rfl rfl rfl rfl rfl rfl rfl ?_;clear H a S;intro A1 _ a hA1 S H
 refine list_build' H rfl S sl_25 sz_3 ze_3 rfl rfl rfl rfl rfl rfl rfl rfl rfl ?_;clear H a S;intro A2 _ a hA2 S H
 refine ls 1 H <| sd (does_build bt_125 rfl rfl) <| sE ?_;clear H a;intro a H
 refine list_build' H rfl S sl_25 sz_3 ze_3 rfl rfl rfl rfl rfl rfl rfl rfl rfl ?_;clear H a S;intro A3 _ a hA3 S H
 refine ls 1 H <| sd (does_build bt_125 rfl rfl) <| sE ?_;clear H a;intro a H
 refine list_build' H rfl S sl_25 sz_3 ze_3 rfl rfl rfl rfl rfl rfl rfl rfl rfl ?_;clear H a S;intro A4 _ a hA4 S H
 refine ls 1 H <| sd (does_build bt_125 rfl rfl) <| sE ?_;clear H a;intro a H
 refine list_build' H rfl S sl_25 sz_3 ze_3 rfl rfl rfl rfl rfl rfl rfl rfl rfl ?_;clear H a S;intro A5 _ a hA5 S H
 refine ls 1 H <| sd (does_build bt_125 rfl rfl) <| sE ?_;clear H a;intro a H
 refine list_build' H rfl S sl_25 sz_3 ze_3 rfl rfl rfl rfl rfl rfl rfl rfl rfl ?_;clear H a S;intro A6 _ a hA6 S H
 refine ls 1 H <| sd (does_build bt_125 rfl rfl) <| sE ?_;clear H a;intro a H
 refine list_build' H rfl S sl_83 sz_125 ze_125 rfl rfl rfl rfl rfl rfl rfl rfl rfl ?_;clear H a S;intro A7 _ a hA7 S H
 refine ls 1 H <| sd (does_build bt_85 rfl rfl) <| sE ?_;clear H a;intro a H
 refine list_alloc H rfl S ze_85 ?_;clear H a S;intro b2 _ a hb2 hbw2 S H
 refine list_store H S (i := 0) rfl rfl rfl rfl sz_85 rfl rfl ?_
 clear H a S;intro _ a S H
 refine k2 _ _ ?_;clear k2 K2
 replace H := H.keep [0, 2] rfl
 refine seq_list fun K3 k3 => ?_
 refine ls 5 H <| sd ((does_loadBox agg_85 sz_85 rfl S (i := 0) rfl rfl)) <| sd (does_build bt_127 rfl rfl) <| sd (does_build bt_127 rfl rfl) <| sd (does_build bt_127 rfl rfl) <| sd (does_build bt_127 rfl rfl) <| sE ?_;clear H a;intro a H
 refine list_build' H rfl S sl_86 sz_127 ze_127 rfl rfl rfl rfl rfl rfl rfl rfl rfl ?_;clear H a S;intro A8 _ a hA8 S H
 refine list_store H S (i := 9) rfl rfl rfl rfl sz_85 rfl rfl ?_
 clear H a S;intro _ a S H
 refine ls 1 H <| sr 1 rfl <| sE ?_;clear H a;intro a H
 refine k3 _ _ ?_;clear k3 K3
 refine wp_ret ?_
 refine retA1 (fn := Try.f26) rfl H rfl agg_85 (by exact sz_85) (boxAgg S (i := 9) rfl) rfl ?_
 replace S := S.recell (i := 8) rfl (cell' := icl exSw) (fun k j hk hj => by
   obtain rfl : j = 0 := by omega
   rcases k with _ | _ | _ | _ | k <;> first | rfl | (exfalso; omega))
 replace S := S.recell (i := 7) rfl (cell' := icl [1, 2, 3, 4]) (fun k j hk hj => by
   obtain rfl : j = 0 := by omega
   rcases k with _ | _ | _ | _ | k <;> first | rfl | (exfalso; omega))
 replace S := S.recell (i := 6) rfl (cell' := icl [0]) (fun k j hk hj => by
   obtain rfl : j = 0 := by omega
   rcases k with _ | _ | _ | _ | k <;> first | rfl | (exfalso; omega))
 replace S := S.recell (i := 5) rfl (cell' := icl [1]) (fun k j hk hj => by
   obtain rfl : j = 0 := by omega
   rcases k with _ | _ | _ | _ | k <;> first | rfl | (exfalso; omega))
 replace S := S.recell (i := 4) rfl (cell' := icl [2]) (fun k j hk hj => by
   obtain rfl : j = 0 := by omega
   rcases k with _ | _ | _ | _ | k <;> first | rfl | (exfalso; omega))
 replace S := S.recell (i := 3) rfl (cell' := icl [3]) (fun k j hk hj => by
   obtain rfl : j = 0 := by omega
   rcases k with _ | _ | _ | _ | k <;> first | rfl | (exfalso; omega))
 refine ⟨A1, A2, A3, A4, A5, A6, A7, A8, rfl, ?_⟩
 replace S := S.recell (i := 2) rfl (cell' := wrcell exWs (exOA A2 A3 A4 A5 A6) exOc) (fun k j hk hj => by
   rcases j with _ | _ | j
   · rcases k with _ | _ | _ | _ | _ | k <;> first | rfl | (exfalso; omega)
   · rcases k with _ | _ | _ | _ | _ | k <;> first | rfl | (exfalso; omega)
   · exfalso; omega)
 exact (S.sel [8, 7, 6, 5, 4, 3, 2] rfl rfl)

end Go.Proofs.Ytdepakimbagonaa
