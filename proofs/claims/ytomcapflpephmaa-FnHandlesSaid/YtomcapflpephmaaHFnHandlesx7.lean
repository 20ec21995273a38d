/- Contracts of functions that the law reaches: walked as the kit's print walks them, beside contracts proved by hand. -/
import Derived.Test.YtomcapflpephmaaHX
import Derived.Test.YtomcapflpephmaaHFnHandlesx0
import Derived.Test.YtomcapflpephmaaHFnHandlesx2
import Derived.Test.YtomcapflpephmaaHFnHandlesx3
import Derived.Test.YtomcapflpephmaaHFnHandlesx5
import Derived.Test.YtomcapflpephmaaHFnHandlesx6
namespace Go.Proofs.Ytomcapflpephmaa.HFnHandles
open Go.RowKit Go.Proofs.YtomcapflpephmaaW.PrintWords Go.Proofs.YtomcapflpephmaaW.PrintLast Go.Proofs.YtomcapflpephmaaW.PrintMore
attribute [local go_sem] max2_int min2_int max_two min_two max_three min_three max_four min_four   -- for this text's walks alone
set_option linter.unusedVariables false
set_option linter.unusedSimpArgs false

/-! ### spec_l03Arena: function 42 -/
mutual
def spec_l03Arena.l0 : Nat → Int → List Int → Int → Int → List (S50) → Int → Option ((List (S50)) × Int × Int × Int)
  | 0, _, _, _, _, _, _ => none
  | k + 1, x5, x1000, x1001, x1002, x241000, x241001 => (spec_l01Below.f x1000 x1001 x1002 24).bind fun bt241 => (if x5 < bt241.1 then ((spec_l01Below.f x1000 bt241.2.1 bt241.2.2 (x241000.length : Int)).bind fun bt244 => (if 0 ≤ bt244.1 then (if bt244.1 < (x241000.length : Int) then (if (rd_T50 x241000 bt244.1).f1 = true then ((spec_l01Once.f x1000 bt244.2.1 bt244.2.2 2).bind fun bt248 => (spec_l03Arena.j1 k x5 bt244.1 bt248.1 x1000 bt248.2.1 bt248.2.2 x241000 x241001)) else (spec_l03Arena.j1 k x5 bt244.1 false x1000 bt244.2.1 bt244.2.2 x241000 x241001)) else (none)) else (none))) else ((spec_l01Once.f x1000 bt241.2.1 bt241.2.2 12).bind fun bt270 => (if bt270.1 = true then ((spec_l03Copy.f x241000 x241001).bind fun bt273 => ((spec_l01Below.f x1000 bt270.2.1 bt270.2.2 (bt273.1.length : Int)).bind fun bt277 => (if 0 ≤ bt277.1 then (if bt277.1 < (bt273.1.length : Int) then (some ((bt273.1.set (bt277.1 : Int).toNat (⟨41666665, (rd_T50 bt273.1 bt277.1).f1, (rd_T50 bt273.1 bt277.1).f2, (rd_T50 bt273.1 bt277.1).f3, (rd_T50 bt273.1 bt277.1).f4⟩ : S50)), bt273.2, bt277.2.1, bt277.2.2)) else (none)) else (none)))) else (some (x241000, x241001, bt270.2.1, bt270.2.2)))))
def spec_l03Arena.j1 : Nat → Int → Int → Bool → List Int → Int → Int → List (S50) → Int → Option ((List (S50)) × Int × Int × Int)
  | 0, _, _, _, _, _, _, _, _ => none
  | k + 1, x5, x6, x37, x1000, x1001, x1002, x241000, x241001 => if x37 = true then ((spec_HandleOf.f k x241000 x241001 x6).bind fun t251 => ((spec_Lift.f k x241000 x241001 t251).bind fun bt252 => (spec_l03Arena.l0 k (wrap64 (x5 + 1)) x1000 x1001 x1002 bt252.1 bt252.2.1))) else ((spec_l03Key.f x1000 x1001 x1002).bind fun bt257 => ((spec_l03Val.f x1000 bt257.2.1 bt257.2.2).bind fun bt260 => ((spec_Lay.f k x241000 x241001 bt257.1 bt260.1).bind fun bt263 => (if bt263.2.2.2 = true then (spec_l03Arena.l0 k (wrap64 (x5 + 1)) x1000 bt260.2.1 bt260.2.2 bt263.1 bt263.2.1) else (spec_l03Arena.l0 k (wrap64 (x5 + 1)) x1000 bt260.2.1 bt260.2.2 x241000 x241001)))))
end
def spec_l03Arena.f (k : Nat) (s0_0 : List Int) (s0_1 : Int) (s0_2 : Int) : Option ((List (S50)) × Int × Int × Int) := (spec_l01Below.f s0_0 s0_1 s0_2 9).bind fun bt232 => ((spec_ArenaNew.f k (wrap64 (1 + bt232.1))).bind fun bt235 => (spec_l03Arena.l0 k 0 s0_0 bt232.2.1 bt232.2.2 bt235.1 bt235.2.1))
theorem spec_l03Arena.mono_l : ∀ k, (∀ y0 y1 y2 y3 y4 y5, LeO (spec_l03Arena.l0 k y0 y1 y2 y3 y4 y5) (spec_l03Arena.l0 (k + 1) y0 y1 y2 y3 y4 y5)) ∧ (∀ y0 y1 y2 y3 y4 y5 y6 y7, LeO (spec_l03Arena.j1 k y0 y1 y2 y3 y4 y5 y6 y7) (spec_l03Arena.j1 (k + 1) y0 y1 y2 y3 y4 y5 y6 y7))
  | 0 => ⟨fun _ _ _ _ _ _ r h => by simp [spec_l03Arena.l0] at h, fun _ _ _ _ _ _ _ _ r h => by simp [spec_l03Arena.j1] at h⟩
  | k + 1 => by
    obtain ⟨ih0, ih1⟩ := spec_l03Arena.mono_l k
    refine ⟨?_, ?_⟩
    · intro y0 y1 y2 y3 y4 y5
      unfold spec_l03Arena.l0
      repeat' first | (with_reducible first | apply ih0 | apply ih1 | apply spec_ArenaNew.mono | apply spec_HandleOf.mono | apply spec_Lay.mono | apply spec_Lift.mono | exact LeO.refl _ | exact LeO.none _ | refine LeO.ite ?_ ?_ | refine LeO.bind ?_ (fun _ => ?_))
    · intro y0 y1 y2 y3 y4 y5 y6 y7
      unfold spec_l03Arena.j1
      repeat' first | (with_reducible first | apply ih0 | apply ih1 | apply spec_ArenaNew.mono | apply spec_HandleOf.mono | apply spec_Lay.mono | apply spec_Lift.mono | exact LeO.refl _ | exact LeO.none _ | refine LeO.ite ?_ ?_ | refine LeO.bind ?_ (fun _ => ?_))
theorem spec_l03Arena.mono : ∀ a0 a1 a2 k, LeO (spec_l03Arena.f k a0 a1 a2) (spec_l03Arena.f (k + 1) a0 a1 a2) := by
  intro a0 a1 a2 k
  obtain ⟨ih0, ih1⟩ := spec_l03Arena.mono_l k
  unfold spec_l03Arena.f
  repeat' first | (with_reducible first | apply ih0 | apply ih1 | apply spec_ArenaNew.mono | apply spec_HandleOf.mono | apply spec_Lay.mono | apply spec_Lift.mono | exact LeO.refl _ | exact LeO.none _ | refine LeO.ite ?_ ?_ | refine LeO.bind ?_ (fun _ => ?_))
def spec_l03Arena.T7 : Bool × List (List Nat × List Nat) := (true, [([], []), ([], []), ([], []), ([1, 2], [1, 2]), ([0, 3, 3], [0, 3]), ([4], [4]), ([5], [5]), ([5], [5]), ([6, 4, 0, 1, 2, 3, 4, 5, 6], [6])])
def spec_l03Arena.B7 : List Nat := [0, 0, 0, 6, 15, 31, 63, 63, 127]
theorem spec_l03Arena.tab7 : rtab .any (opsOf Try.f42 7) = spec_l03Arena.T7 := by kernel_rfl
theorem spec_l03Arena.bits7 : waitsOk spec_l03Arena.T7.2 spec_l03Arena.B7 = true := by kernel_rfl
def spec_l03Arena.T8 : Bool × List (List Nat × List Nat) := (true, [([], []), ([], []), ([1], [1]), ([], []), ([3, 2], [3]), ([0, 2, 4, 4], [0, 2, 4]), ([5], [5]), ([6], [6]), ([6], [6]), ([6], [6]), ([], []), ([10, 7, 5, 0, 1, 2, 3, 4, 5, 6, 7, 10], [7, 10]), ([8, 11, 0, 1, 2, 3, 4, 5, 6, 7, 8, 10, 11], [8]), ([9, 12, 0, 1, 2, 3, 4, 5, 6, 7, 8, 9, 10, 11, 12], [9])])
def spec_l03Arena.B8 : List Nat := [0, 0, 2, 0, 14, 31, 63, 127, 127, 127, 0, 1279, 3583, 8191]
theorem spec_l03Arena.tab8 : rtab .any (opsOf Try.f42 8) = spec_l03Arena.T8 := by kernel_rfl
theorem spec_l03Arena.bits8 : waitsOk spec_l03Arena.T8.2 spec_l03Arena.B8 = true := by kernel_rfl
def spec_l03Arena.T13 : Bool × List (List Nat × List Nat) := (true, [([], []), ([0], [0]), ([], []), ([], []), ([3], [3]), ([4], [4]), ([2, 5], [2, 5]), ([1, 6, 0, 1, 2, 3, 4, 5, 6], [1, 6]), ([7, 0, 1, 2, 3, 4, 5, 6], [7]), ([8, 6, 0, 1, 2, 3, 4, 5, 6], [8])])
def spec_l03Arena.B13 : List Nat := [0, 1, 0, 0, 8, 24, 60, 127, 255, 511]
theorem spec_l03Arena.tab13 : rtab .any (opsOf Try.f42 13) = spec_l03Arena.T13 := by kernel_rfl
theorem spec_l03Arena.bits13 : waitsOk spec_l03Arena.T13.2 spec_l03Arena.B13 = true := by kernel_rfl
set_option maxHeartbeats 8000000 in
set_option maxRecDepth 100000 in
theorem spec_l03Arena.calls (k : Nat) (g : Nat) (s0_0 : List Int) (s0_1 : Int) (s0_2 : Int) (r1 : List (S50)) (r2 : Int) (r3 : Int) (r4 : Int) (w0 w : World) (hI : IsS73 w0 w g s0_0 s0_1 s0_2) (hB : Below w0.heap.size w0 w) (h : spec_l03Arena.f k s0_0 s0_1 s0_2 = some (r1, r2, r3, r4)) :
    Calls Try.prog 42 #[.pointer (some ⟨g, 0, none⟩)] w fun e w' => ∃ v0_ : Value, e = .returned (.agg #[v0_, .int .i64 r2]) ∧ Kd.R k50 50 w' w.heap.size (fun _ => True) v0_ r1 ∧ IsS73 w0 w' g s0_0 r3 r4 ∧ Below w0.heap.size w0 w' ∧ KeepBut w w' g none := by
  have hu42 := Try.underlying42
  have HI0 := am hI
  have HK := am (KeepBut.refl w g none)
  have HL := am hB.size
  clear hI
  have HW0 := am hB.size
  have HB := am hB
  clear hB
  have H : ((spec_l01Below.f s0_0 s0_1 s0_2 9).bind fun bt232 => ((spec_ArenaNew.f k (wrap64 (1 + bt232.1))).bind fun bt235 => (spec_l03Arena.l0 k 0 s0_0 bt232.2.1 bt232.2.2 bt235.1 bt235.2.1))) = some (r1, r2, r3, r4) := h
  clear h
  replace H := Option.bind_eq_some_iff.mp H
  obtain ⟨⟨t232, t233, t234⟩, A20, H⟩ := H
  try dsimp only at H
  have A2 := am A20
  clear A20
  replace H := Option.bind_eq_some_iff.mp H
  obtain ⟨⟨t235, t238, t239⟩, A30, H⟩ := H
  try dsimp only at H
  have A3 := am A30
  clear A30
  have H' := am H
  clear H
  go_enter Try.func42, Try.ntmps42
  go_wp2_with (first | ((with_reducible refine gate_dst (N := 2) rfl ?_); refine xE (N := 2) (cs := #[.slice none 0 0, .int .i64 0]) (t := 42) (h := ?_); intro gb231 hg w4 hbox hb; replace HB := am (below_step (xWI HB.out (IsS73.ge HI0.out)) hb); have BK231 := am (hbox); have GW231 := am ((xKS hg HK.out)); have GE231 := am ((Nat.le_trans HW0.out (xKS hg HK.out))); replace HK := am (xKB HK.out hb); have NB0_231 := am ((xL hg (IsS73.lt (show IsS73 w0 _ g s0_0 s0_1 s0_2 from xH73 HI0.out)))); have NB231_0 := am ((xLM hg (IsS73.lt (show IsS73 w0 _ g s0_0 s0_1 s0_2 from xH73 HI0.out)))); replace HI0 := am (IsS73.below (xH73 HI0.out) hb); clear hb hbox hg) | ((with_reducible refine gate_callee (f := 54) rfl ?_); refine xG (some 12) 54 Try.func54 #[.pointer (some ⟨g, 0, none⟩), .int .i64 9] (h := ?_); (with_reducible refine (spec_l01Below.calls g s0_0 s0_1 s0_2 9 t232 t233 t234 w0 _ ?side1 ?side2 A2.out).mono ?_); (case side1 => exact xH73 HI0.out); (case side2 => exact xWI HB.out (IsS73.ge HI0.out)); rintro e w5 ⟨rfl, hi, hb, hk⟩; refine ⟨_, rfl, ?_⟩; replace BK231 := am (KeepBut.blk hk (g' := gb231) (o := .cells #[.slice none 0 0, .int .i64 0] 42 (0, 0)) (xB BK231.out) NB231_0.out (by simp)); replace HK := am (KeepBut.trans (xK HK.out) hk (.inl rfl)); replace HB := am (hb); replace HI0 := am (hi); (try clear hb); (try clear hk); (try clear hi)) | ((with_reducible refine gate_callee (f := 67) rfl ?_); refine xG (some 14) 67 Try.func67 #[.int .i64 (wrap64 (1 + t232))] (h := ?_); (with_reducible refine (spec_ArenaNew.calls k (wrap64 (1 + t232)) t235 t238 t239 _ A3.out).mono ?_); rintro e w6 ⟨v236, rfl, ho0, hb⟩; refine ⟨_, rfl, ?_⟩; have HO237 := am (Kd.R_lower ho0 (xKZ HK.out)); replace BK231 := am (blk_below (xB BK231.out) hb); replace HK := am (xKB HK.out hb); replace HB := am (below_step (xWI HB.out (IsS73.ge HI0.out)) hb); replace HI0 := am (IsS73.below (xH73 HI0.out) hb); (try clear hb); (try clear ho0)) | ((with_reducible refine gate_dst (N := 3) rfl ?_); refine xE (N := 3) (cs := #[.slice none 0 0, .int .i64 0]) (t := 42) (h := ?_); intro gb240 hg w7 hbox hb; replace HO237 := am (Kd.R_below (xR HO237.out) hb); replace HB := am (below_step (xWI HB.out (IsS73.ge HI0.out)) hb); have BK240 := am (hbox); have GW240 := am ((xKS hg HK.out)); have GE240 := am ((Nat.le_trans HW0.out (xKS hg HK.out))); replace HK := am (xKB HK.out hb); have NB231_240 := am (xN hg BK231.out); have NB240_231 := am (xM hg BK231.out); replace BK231 := am (blk_below (xB BK231.out) hb); have NB0_240 := am ((xL hg (IsS73.lt (show IsS73 w0 _ g s0_0 t233 t234 from xH73 HI0.out)))); have NB240_0 := am ((xLM hg (IsS73.lt (show IsS73 w0 _ g s0_0 t233 t234 from xH73 HI0.out)))); replace HI0 := am (IsS73.below (xH73 HI0.out) hb); clear hb hbox hg; obtain ⟨Ao8, co8, eo8⟩ := Kd.R_slice HO237.out; subst eo8; have hnb9 := NB240_231.out; have hnc9 := NB231_240.out; have hnb10 := NB240_0.out; have hnc10 := NB0_240.out; obtain ⟨hcz11_0, hcz11_1, hfz11_0, hfz11_1⟩ := xT2 (W := w7) BK240.out))
  go_loopg [5] k (fun kq v5 w' => ∃ (x5_1 : Int) (x1001_1 : Int) (x1002_1 : Int) (x241000_1 : List (S50)) (x241001_1 : Int) (u241000 : Value), v5 = .int .i64 x5_1 ∧ Aside0 (spec_l03Arena.l0 kq x5_1 s0_0 x1001_1 x1002_1 x241000_1 x241001_1 = some (r1, r2, r3, r4)) ∧ Aside0 (kq ≤ k) ∧ Aside0 (Kd.R k50 50 w' w.heap.size (fun _ => True) u241000 x241000_1) ∧ Aside0 (w'.heap[gb231]? = some (.cells #[(.slice none 0 0), .int .i64 0] 42 (0, 0))) ∧ Aside0 (w'.heap[gb240]? = some (.cells #[u241000, .int .i64 x241001_1] 42 (0, 0))) ∧ Aside0 (IsS73 w0 w' g s0_0 x1001_1 x1002_1) ∧ Aside0 (KeepBut w w' g none) ∧ Aside0 (Below w0.heap.size w0 w'))
  case atStart => exact ⟨(0), (t233), (t234), (t235), (t238), (.slice Ao8 t235.length co8), (xQ), H', ⟨Nat.le_refl _⟩, ⟨by (with_reducible repeat (first | apply Kd.R_alloc | apply Kd.R_drewN | apply Kd.R_drew)); exact Kd.R_mono (Kd.R_far (p := ⟨gb240, 1, none⟩) (Kd.R_far (p := ⟨gb240, 0, none⟩) (Kd.R_types HO237.out BK240.out (by decide)) (fun _ hk => hk.2) (.slice Ao8 t235.length co8)) (fun _ hk => hk.2) (.int .i64 t238)) (fun _ hk => trivial)⟩, ⟨xB BK231.out⟩, ⟨xP BK240.out⟩, ⟨xH73 HI0.out⟩, ⟨xK HK.out⟩, ⟨xWI HB.out (IsS73.ge HI0.out)⟩⟩
  case round =>
    clear H'
    try clear c1
    try clear p2
    try clear c4
    try clear c5
    try clear c6
    try clear p6
    try clear c9
    try clear c10
    try clear hcz11_0
    try clear hcz11_1
    try clear hfz11_0
    try clear hfz11_1
    obtain ⟨x5_1, x1001_1, x1002_1, x241000_1, x241001_1, u241000, rfl, HA, HK1, HO_241000, BK231, BK240, HI0, HK, HB⟩ := hrel
    cases gk with
    | zero => exact absurd HA.out (by simp [spec_l03Arena.l0])
    | succ k1 =>
      have H := HA.out
      clear HA
      simp only [spec_l03Arena.l0] at H
      replace H := Option.bind_eq_some_iff.mp H
      obtain ⟨⟨t241, t242, t243⟩, A120, H⟩ := H
      try dsimp only at H
      have A12 := am A120
      clear A120
      by_cases c13 : x5_1 < t241
      · rw [if_pos c13] at H
        have c13b0 : decide (x5_1 < t241) = true := decide_eq_true c13
        clear c13
        replace H := Option.bind_eq_some_iff.mp H
        obtain ⟨⟨t244, t245, t246⟩, A140, H⟩ := H
        try dsimp only at H
        have A14 := am A140
        clear A140
        have HC15 := am H
        clear H
        go_upto_region 6 with (first | ((with_reducible refine gate_callee (f := 54) rfl ?_); refine xG (some 19) 54 Try.func54 #[.pointer (some ⟨g, 0, none⟩), .int .i64 24] (h := ?_); (with_reducible refine (spec_l01Below.calls g s0_0 x1001_1 x1002_1 24 t241 t242 t243 w0 _ ?side1 ?side2 A12.out).mono ?_); (case side1 => exact xH73 HI0.out); (case side2 => exact xWI HB.out (IsS73.ge HI0.out)); rintro e w16 ⟨rfl, hi, hb, hk⟩; refine ⟨_, rfl, ?_⟩; replace HO_241000 := am (Kd.R_mono (Kd.R_keep (IsS73.apart (show IsS73 w0 _ g s0_0 x1001_1 x1002_1 from xH73 HI0.out) (xR HO_241000.out) (by decide)) hk (fun _ h => h.2)) (fun _ h => h.1)); replace BK231 := am (KeepBut.blk hk (g' := gb231) (o := .cells #[.slice none 0 0, .int .i64 0] 42 (0, 0)) (xB BK231.out) NB231_0.out (by simp)); replace BK240 := am (KeepBut.blk hk (g' := gb240) (o := .cells #[u241000, .int .i64 x241001_1] 42 (0, 0)) (xB BK240.out) NB240_0.out (by simp)); replace HK := am (KeepBut.trans (xK HK.out) hk (.inl rfl)); replace HB := am (hb); replace HI0 := am (hi); (try clear hb); (try clear hk); (try clear hi); have hnb17 := NB240_231.out; have hnc17 := NB231_240.out; have hnb18 := NB240_0.out; have hnc18 := NB0_240.out; obtain ⟨hcz19_0, hcz19_1, hfz19_0, hfz19_1⟩ := xT2 (W := w16) BK240.out; obtain ⟨Ao20, co20, eo20⟩ := Kd.R_slice HO_241000.out; subst eo20) | ((with_reducible refine gate_callee (f := 54) rfl ?_); refine xG (some 27) 54 Try.func54 #[.pointer (some ⟨g, 0, none⟩), .int .i64 (x241000_1.length : Int)] (h := ?_); (with_reducible refine (spec_l01Below.calls g s0_0 t242 t243 (x241000_1.length : Int) t244 t245 t246 w0 _ ?side1 ?side2 A14.out).mono ?_); (case side1 => exact xH73 HI0.out); (case side2 => exact xWI HB.out (IsS73.ge HI0.out)); rintro e w21 ⟨rfl, hi, hb, hk⟩; refine ⟨_, rfl, ?_⟩; replace HO_241000 := am (Kd.R_mono (Kd.R_keep (IsS73.apart (show IsS73 w0 _ g s0_0 t242 t243 from xH73 HI0.out) (xR HO_241000.out) (by decide)) hk (fun _ h => h.2)) (fun _ h => h.1)); replace BK231 := am (KeepBut.blk hk (g' := gb231) (o := .cells #[.slice none 0 0, .int .i64 0] 42 (0, 0)) (xB BK231.out) NB231_0.out (by simp)); replace BK240 := am (KeepBut.blk hk (g' := gb240) (o := .cells #[.slice Ao20 x241000_1.length co20, .int .i64 x241001_1] 42 (0, 0)) (xB BK240.out) NB240_0.out (by simp)); replace HK := am (KeepBut.trans (xK HK.out) hk (.inl rfl)); replace HB := am (hb); replace HI0 := am (hi); (try clear hb); (try clear hk); (try clear hi)))
        (try simp only [Act.put, List.setIfInBounds_toArray, List.set_cons_zero, List.set_cons_succ])
        go_cut [37] (fun v37 wc => ∃ (kq : Nat) (x37_14 : Bool) (x1001_14 : Int) (x1002_14 : Int), v37 = .bool x37_14 ∧ Aside0 (spec_l03Arena.j1 kq x5_1 t244 x37_14 s0_0 x1001_14 x1002_14 x241000_1 x241001_1 = some (r1, r2, r3, r4)) ∧ Aside0 (kq ≤ k1) ∧ Aside0 (Kd.R k50 50 wc w.heap.size (fun _ => True) (.slice Ao20 x241000_1.length co20) x241000_1) ∧ Aside0 (wc.heap[gb231]? = some (.cells #[(.slice none 0 0), .int .i64 0] 42 (0, 0))) ∧ Aside0 (wc.heap[gb240]? = some (.cells #[(.slice Ao20 x241000_1.length co20), .int .i64 x241001_1] 42 (0, 0))) ∧ Aside0 (IsS73 w0 wc g s0_0 x1001_14 x1002_14) ∧ Aside0 (KeepBut w wc g none) ∧ Aside0 (Below w0.heap.size w0 wc))
        case first =>
          have H := HC15.out
          clear HC15
          by_cases c22 : 0 ≤ t244
          · rw [if_pos c22] at H
            have c22b0 : decide (0 ≤ t244) = true := decide_eq_true c22
            clear c22
            (first | rw [c22b0] | (simp only [i64_w, i32_w]; rw [c22b0]) | skip)
            by_cases c23 : t244 < (x241000_1.length : Int)
            · rw [if_pos c23] at H
              have c23b0 : decide (t244 < (x241000_1.length : Int)) = true := decide_eq_true c23
              clear c23
              obtain ⟨bq24, hbq24⟩ : ∃ b_ : Bool, b_ = ((rd_T50 x241000_1 t244).f1) := ⟨_, rfl⟩
              replace H : (if bq24 = true then ((spec_l01Once.f s0_0 t245 t246 2).bind fun bt248 => (spec_l03Arena.j1 k1 x5_1 t244 bt248.1 s0_0 bt248.2.1 bt248.2.2 x241000_1 x241001_1)) else (spec_l03Arena.j1 k1 x5_1 t244 false s0_0 t245 t246 x241000_1 x241001_1)) = some (r1, r2, r3, r4) := by rw [← hbq24] at H; exact H
              have Nbq24 := am hbq24
              clear hbq24
              by_cases c25 : bq24 = true
              · subst c25
                have H1 : ((spec_l01Once.f s0_0 t245 t246 2).bind fun bt248 => (spec_l03Arena.j1 k1 x5_1 t244 bt248.1 s0_0 bt248.2.1 bt248.2.2 x241000_1 x241001_1)) = some (r1, r2, r3, r4) := by rw [if_pos rfl] at H; exact H
                clear H
                have H := H1
                clear H1
                replace H := Option.bind_eq_some_iff.mp H
                obtain ⟨⟨t248, t249, t250⟩, A260, H⟩ := H
                try dsimp only at H
                have A26 := am A260
                clear A260
                have H' := am H
                clear H
                have hnb27 := NB240_231.out
                have hnc27 := NB231_240.out
                have hnb28 := NB240_0.out
                have hnc28 := NB0_240.out
                obtain ⟨hcz29_0, hcz29_1, hfz29_0, hfz29_1⟩ := xT2 (W := w21) BK240.out
                have p247 : 0 ≤ (t244 : Int) := of_decide_eq_true (by assumption)
                have q247 : t244 < (x241000_1.length : Int) := of_decide_eq_true (by assumption)
                obtain ⟨ad247, e247, hx247_0, hx247_1, hx247_2, hx247_3, hx247_4⟩ := at_T50 (Kd.R_reads' HO_241000.out).2.2 t244 p247 q247
                (try rw [← Nbq24.out] at hx247_1)
                cases e247
                replace p247 := eq_true p247
                replace q247 := eq_true q247
                go_wp2_with (first | (go_at_call 56; (with_reducible refine (spec_l01Once.calls g s0_0 t245 t246 2 t248 t249 t250 w0 _ ?side1 ?side2 A26.out).mono ?_); (case side1 => exact xH73 HI0.out); (case side2 => exact xWI HB.out (IsS73.ge HI0.out)); rintro e w30 ⟨rfl, hi, hb, hk⟩; replace HO_241000 := am (Kd.R_mono (Kd.R_keep (IsS73.apart (show IsS73 w0 _ g s0_0 t245 t246 from xH73 HI0.out) (xR HO_241000.out) (by decide)) hk (fun _ h => h.2)) (fun _ h => h.1)); replace BK231 := am (KeepBut.blk hk (g' := gb231) (o := .cells #[.slice none 0 0, .int .i64 0] 42 (0, 0)) (xB BK231.out) NB231_0.out (by simp)); replace BK240 := am (KeepBut.blk hk (g' := gb240) (o := .cells #[.slice (some ad247) x241000_1.length co20, .int .i64 x241001_1] 42 (0, 0)) (xB BK240.out) NB240_0.out (by simp)); replace HK := am (KeepBut.trans (xK HK.out) hk (.inl rfl)); replace HB := am (hb); replace HI0 := am (hi); (try clear hb); (try clear hk); (try clear hi)))
                go_meet
                case rel => exact ⟨_, (t248), (t249), (t250), (xQ), H', ⟨by have := HK1.out; first | omega | exact Nat.le_refl _⟩, ⟨xR HO_241000.out⟩, ⟨xB BK231.out⟩, ⟨xB BK240.out⟩, ⟨xH73 HI0.out⟩, ⟨xK HK.out⟩, ⟨xWI HB.out (IsS73.ge HI0.out)⟩⟩
              · replace c25 := Bool.eq_false_iff.mpr c25
                subst c25
                have H1 : (spec_l03Arena.j1 k1 x5_1 t244 false s0_0 t245 t246 x241000_1 x241001_1) = some (r1, r2, r3, r4) := by rw [if_neg (show ¬ (false = true) by decide)] at H; exact H
                clear H
                have H := H1
                clear H1
                have H' := am H
                clear H
                have hnb31 := NB240_231.out
                have hnc31 := NB231_240.out
                have hnb32 := NB240_0.out
                have hnc32 := NB0_240.out
                obtain ⟨hcz33_0, hcz33_1, hfz33_0, hfz33_1⟩ := xT2 (W := w21) BK240.out
                have p247 : 0 ≤ (t244 : Int) := of_decide_eq_true (by assumption)
                have q247 : t244 < (x241000_1.length : Int) := of_decide_eq_true (by assumption)
                obtain ⟨ad247, e247, hx247_0, hx247_1, hx247_2, hx247_3, hx247_4⟩ := at_T50 (Kd.R_reads' HO_241000.out).2.2 t244 p247 q247
                (try rw [← Nbq24.out] at hx247_1)
                cases e247
                replace p247 := eq_true p247
                replace q247 := eq_true q247
                go_wp2
                go_meet
                case rel => exact ⟨_, (false), (t245), (t246), (xQ), H', ⟨by have := HK1.out; first | omega | exact Nat.le_refl _⟩, ⟨xR HO_241000.out⟩, ⟨xB BK231.out⟩, ⟨xB BK240.out⟩, ⟨xH73 HI0.out⟩, ⟨xK HK.out⟩, ⟨xWI HB.out (IsS73.ge HI0.out)⟩⟩
            · rw [if_neg c23] at H
              exact absurd H (by simp)
          · rw [if_neg c22] at H
            exact absurd H (by simp)
        case rest =>
          clear HC15
          try clear c1
          try clear c2
          try clear p2
          try clear q2
          try clear hx2
          try clear c3
          try clear c4
          try clear c5
          try clear c6
          try clear p6
          try clear c9
          try clear c10
          try clear c13
          try clear c13b0
          try clear c17
          try clear c18
          try clear c22
          try clear c22b0
          try clear c23
          try clear c23b0
          try clear p24
          try clear q24
          try clear hx24
          try clear c25
          try clear c27
          try clear c28
          try clear c31
          try clear c32
          try clear hcz11_0
          try clear hcz11_1
          try clear hcz19_0
          try clear hcz19_1
          try clear hcz29_0
          try clear hcz29_1
          try clear hcz33_0
          try clear hcz33_1
          try clear hfz11_0
          try clear hfz11_1
          try clear hfz19_0
          try clear hfz19_1
          try clear hfz29_0
          try clear hfz29_1
          try clear hfz33_0
          try clear hfz33_1
          try clear hx247_0
          try clear hx247_1
          try clear hx247_2
          try clear hx247_3
          try clear hx247_4
          try clear p2
          try clear p247
          try clear p6
          try clear q247
          obtain ⟨kq, x37_14, x1001_14, x1002_14, rfl, HA, HJ14, HO_241000, BK231, BK240, HI0, HK, HB⟩ := hcut
          cases kq with
          | zero => exact absurd HA.out (by simp [spec_l03Arena.j1])
          | succ kj14 =>
            have H := HA.out
            clear HA
            simp only [spec_l03Arena.j1] at H
            by_cases c34 : x37_14 = true
            · subst c34
              have H1 : ((spec_HandleOf.f kj14 x241000_1 x241001_1 t244).bind fun t251 => ((spec_Lift.f kj14 x241000_1 x241001_1 t251).bind fun bt252 => (spec_l03Arena.l0 kj14 (wrap64 (x5_1 + 1)) s0_0 x1001_14 x1002_14 bt252.1 bt252.2.1))) = some (r1, r2, r3, r4) := by rw [if_pos rfl] at H; exact H
              clear H
              have H := H1
              clear H1
              replace H := Option.bind_eq_some_iff.mp H
              obtain ⟨t251, A350, H⟩ := H
              try dsimp only at H
              have A35 := am A350
              clear A350
              replace H := Option.bind_eq_some_iff.mp H
              obtain ⟨⟨t252, t255, t256⟩, A360, H⟩ := H
              try dsimp only at H
              have A36 := am A360
              clear A360
              have H' := am H
              clear H
              try go_wp2
              replace HO_241000 := am (Kd.R_drew HO_241000.out)
              replace BK231 := am (blk_drew BK231.out)
              replace BK240 := am (blk_drew BK240.out)
              replace HI0 := am (IsS73.drew HI0.out)
              replace HK := am (keep_drew HK.out)
              replace HB := am (below_drew1 HB.out)
              refine start_ (n := 9) (S := fun w' => w'.cell? ⟨gb240, 0, none⟩ = some (.slice Ao20 x241000_1.length co20) ∧ w'.cell? ⟨gb240, 1, none⟩ = some (.int .i64 x241001_1)) (ds := [8]) #[false, false, false, false, false, false, false, false, false] (by kernel_rfl) rfl rfl (xC2 BK240.out) (fun hHeld => ?_); refine with_tabW spec_l03Arena.tab7 spec_l03Arena.bits7 (fun HT_ HW_ => ?_)
              generalize wc.drew = w37 at HO_241000 BK231 BK240 HI0 HK HB hHeld ⊢
              refine xP1 (i := 2) (N := some 41) #[false, false, true, false, false, false, false, false, false] (any_of HT_.out (by kernel_rfl)) (h := ?_)
              refine take_ (i := 0) (N := some 39) (v := ?_) (a' := ?_) #[true, false, true, false, false, false, false, false, false] rfl rfl (take_ofW HT_.out HW_.out (by kernel_rfl)) (fun _ _ _ h => h) (Or.inl ⟨by rfl, ?_⟩) hHeld ?_ ?_
              rotate_left
              · rintro w' ⟨s0, s1⟩
                go_simp
                with_reducible rfl
              rotate_left
              · simp only [Act.put, List.setIfInBounds_toArray, List.set_cons_zero, List.set_cons_succ, i64_w, i32_w]
                rfl
              refine take_ (i := 1) (N := some 40) (v := ?_) (a' := ?_) #[true, true, true, false, false, false, false, false, false] rfl rfl (take_ofW HT_.out HW_.out (by kernel_rfl)) (fun _ _ _ h => h) (Or.inl ⟨by rfl, ?_⟩) hHeld ?_ ?_
              rotate_left
              · rintro w' ⟨s0, s1⟩
                go_simp
                with_reducible rfl
              rotate_left
              · simp only [Act.put, List.setIfInBounds_toArray, List.set_cons_zero, List.set_cons_succ, i64_w, i32_w]
                rfl
              refine one_ (i := 3) (N := some 42) #[true, true, true, true, false, false, false, false, false] rfl rfl (one_of HT_.out (by kernel_rfl)) (by decide) (fun K hK => ?_)
              refine xG1 68 Try.func68 #[.agg #[.slice Ao20 x241000_1.length co20, .int .i64 x241001_1], .int .i64 t244] (h := ?_)
              with_reducible refine (spec_HandleOf.calls kj14 _ _ x241000_1 x241001_1 t244 t251 _ ?side1 ?side2 A35.out).mono ?_
              (case side1 => exact xC ((Kd.R_reads' HO_241000.out).2.2))
              (case side2 => exact (Kd.R_reads' HO_241000.out).2.1)
              rintro e w38 ⟨rfl, hb⟩
              refine ⟨_, rfl, ?_⟩
              replace HO_241000 := am (Kd.R_below (xR HO_241000.out) hb)
              replace BK231 := am (blk_below (xB BK231.out) hb)
              replace BK240 := am (blk_below (xB BK240.out) hb)
              replace HK := am (xKB HK.out hb)
              replace HB := am (below_step (xWI HB.out (IsS73.ge HI0.out)) hb)
              replace HI0 := am (IsS73.below (xH73 HI0.out) hb)
              (try clear hb)
              refine hK.out _ _ (xC2 BK240.out) (fun hHeld => ?_)
              clear hK K
              refine xN1 (h := ?_)
              refine one_ (i := 4) (N := some 43) #[true, true, true, true, true, false, false, false, false] rfl rfl (one_of HT_.out (by kernel_rfl)) (by decide) (fun K hK => ?_)
              refine xG1 24 Try.func24 #[.agg #[.slice Ao20 x241000_1.length co20, .int .i64 x241001_1], .int .i64 t251] (h := ?_)
              with_reducible refine (spec_Lift.calls kj14 _ _ x241000_1 x241001_1 t251 t252 t255 t256 _ ?side1 ?side2 A36.out).mono ?_
              (case side1 => exact xC ((Kd.R_reads' HO_241000.out).2.2))
              (case side2 => exact (Kd.R_reads' HO_241000.out).2.1)
              rintro e w39 ⟨v253, rfl, ho0, hb⟩
              refine ⟨_, rfl, ?_⟩
              have HO254 := am (Kd.R_lower (Kd.R_new' ho0 (Kd.R_lt (xR HO_241000.out))) (xKZ HK.out))
              replace HO_241000 := am (Kd.R_elder' (xR HO_241000.out) (Kd.R_base ho0) hb)
              replace BK231 := am (blk_below (xB BK231.out) hb)
              replace BK240 := am (blk_below (xB BK240.out) hb)
              replace HK := am (xKB HK.out hb)
              replace HB := am (below_step (xWI HB.out (IsS73.ge HI0.out)) hb)
              replace HI0 := am (IsS73.below (xH73 HI0.out) hb)
              (try clear hb)
              (try clear ho0)
              obtain ⟨Ao40, co40, eo40⟩ := Kd.R_slice HO254.out
              (first | subst eo40 | (injection eo40 with f1_ f2_ f3_; have f4_ := f1_.symm; have f5_ := f3_.symm; clear f1_ f2_ f3_; subst f4_; subst f5_))
              refine hK.out _ _ (xC2 BK240.out) (fun hHeld => ?_)
              clear hK K
              refine xN1 (h := ?_)
              refine xP1 (i := 5) (N := some 38) #[true, true, true, true, true, true, false, false, false] (any_of HT_.out (by kernel_rfl)) (h := ?_)
              refine xP1 (i := 6) (N := some 44) #[true, true, true, true, true, true, true, false, false] (any_of HT_.out (by kernel_rfl)) (h := ?_)
              refine xP1 (i := 7) (N := some 45) #[true, true, true, true, true, true, true, true, false] (any_of HT_.out (by kernel_rfl)) (h := ?_)
              refine last_ (i := 8) (N := none) #[true, true, true, true, true, true, true, true, true] rfl rfl (one_of HT_.out (by kernel_rfl)) (by decide) (fun K hK => ?_)
              have hs41 : w39.cell? ⟨gb240, 0, none⟩ = some (.slice Ao20 x241000_1.length co20) := (blk_cell BK240.out 0).trans rfl
              have hfs41 := blk_frozen BK240.out 0
              have hns41_0 := NB231_240.out
              have hms41_0 := NB240_231.out
              have hs42 : w39.cell? ⟨gb240, 1, none⟩ = some (.int .i64 x241001_1) := (blk_cell BK240.out 1).trans rfl
              have hfs42 := blk_frozen BK240.out 1
              have hns42_0 := NB231_240.out
              have hms42_0 := NB240_231.out
              refine skip_ (w1 := ?_) (by rfl) rfl ?_ ?_
              rotate_left
              · go_simp
                rfl
              refine hK.out _ _ ?_
              clear hK K
              refine done_ (done_of HT_.out (by kernel_rfl)) ?_
              try go_wp2
              go_roundg kj14
              case measure => have := HK1.out; have := HJ14.out; omega
              case rel => exact ⟨(wrap64 (x5_1 + 1)), (x1001_14), (x1002_14), (t252), (t255), (.slice Ao40 t252.length co40), (xQ), H', ⟨by have := HK1.out; have := HJ14.out; omega⟩, ⟨by (with_reducible repeat (first | apply Kd.R_alloc | apply Kd.R_drewN | apply Kd.R_drew)); exact Kd.R_mono (Kd.R_far (p := ⟨gb240, 1, none⟩) (Kd.R_far (p := ⟨gb240, 0, none⟩) (Kd.R_types HO254.out BK240.out (by decide)) (fun _ hk => hk.2) (.slice Ao40 t252.length co40)) (fun _ hk => hk.2) (.int .i64 t255)) (fun _ hk => trivial)⟩, ⟨xB BK231.out⟩, ⟨xP BK240.out⟩, ⟨xH73 HI0.out⟩, ⟨xK HK.out⟩, ⟨xWI HB.out (IsS73.ge HI0.out)⟩⟩
            · replace c34 := Bool.eq_false_iff.mpr c34
              subst c34
              have H1 : ((spec_l03Key.f s0_0 x1001_14 x1002_14).bind fun bt257 => ((spec_l03Val.f s0_0 bt257.2.1 bt257.2.2).bind fun bt260 => ((spec_Lay.f kj14 x241000_1 x241001_1 bt257.1 bt260.1).bind fun bt263 => (if bt263.2.2.2 = true then (spec_l03Arena.l0 kj14 (wrap64 (x5_1 + 1)) s0_0 bt260.2.1 bt260.2.2 bt263.1 bt263.2.1) else (spec_l03Arena.l0 kj14 (wrap64 (x5_1 + 1)) s0_0 bt260.2.1 bt260.2.2 x241000_1 x241001_1))))) = some (r1, r2, r3, r4) := by rw [if_neg (show ¬ (false = true) by decide)] at H; exact H
              clear H
              have H := H1
              clear H1
              replace H := Option.bind_eq_some_iff.mp H
              obtain ⟨⟨t257, t258, t259⟩, A430, H⟩ := H
              try dsimp only at H
              have A43 := am A430
              clear A430
              replace H := Option.bind_eq_some_iff.mp H
              obtain ⟨⟨t260, t261, t262⟩, A440, H⟩ := H
              try dsimp only at H
              have A44 := am A440
              clear A440
              replace H := Option.bind_eq_some_iff.mp H
              obtain ⟨⟨t263, t266, t267, t268⟩, A450, H⟩ := H
              try dsimp only at H
              have A45 := am A450
              clear A450
              by_cases c46 : t268 = true
              · subst c46
                have H1 : (spec_l03Arena.l0 kj14 (wrap64 (x5_1 + 1)) s0_0 t261 t262 t263 t266) = some (r1, r2, r3, r4) := by rw [if_pos rfl] at H; exact H
                clear H
                have H := H1
                clear H1
                have H' := am H
                clear H
                try go_wp2
                replace HO_241000 := am (Kd.R_drew HO_241000.out)
                replace BK231 := am (blk_drew BK231.out)
                replace BK240 := am (blk_drew BK240.out)
                replace HI0 := am (IsS73.drew HI0.out)
                replace HK := am (keep_drew HK.out)
                replace HB := am (below_drew1 HB.out)
                refine start_ (n := 14) (S := fun w' => w'.cell? ⟨gb240, 0, none⟩ = some (.slice Ao20 x241000_1.length co20) ∧ w'.cell? ⟨gb240, 1, none⟩ = some (.int .i64 x241001_1)) (ds := []) #[false, false, false, false, false, false, false, false, false, false, false, false, false, false] (by kernel_rfl) rfl rfl (xC2 BK240.out) (fun hHeld => ?_); refine with_tabW spec_l03Arena.tab8 spec_l03Arena.bits8 (fun HT_ HW_ => ?_)
                generalize wc.drew = w47 at HO_241000 BK231 BK240 HI0 HK HB hHeld ⊢
                refine xP1 (i := 1) (N := some 48) #[false, true, false, false, false, false, false, false, false, false, false, false, false, false] (any_of HT_.out (by kernel_rfl)) (h := ?_)
                refine xP1 (i := 3) (N := some 50) #[false, true, false, true, false, false, false, false, false, false, false, false, false, false] (any_of HT_.out (by kernel_rfl)) (h := ?_)
                refine take_ (i := 0) (N := some 47) (v := ?_) (a' := ?_) #[true, true, false, true, false, false, false, false, false, false, false, false, false, false] rfl rfl (take_ofW HT_.out HW_.out (by kernel_rfl)) (fun _ _ _ h => h) (Or.inl ⟨by rfl, ?_⟩) hHeld ?_ ?_
                rotate_left
                · rintro w' ⟨s0, s1⟩
                  go_simp
                  with_reducible rfl
                rotate_left
                · simp only [Act.put, List.setIfInBounds_toArray, List.set_cons_zero, List.set_cons_succ, i64_w, i32_w]
                  rfl
                refine join_ (σ := Value × Nat) 3 #[true, true, true, true, true, true, true, true, true, true, true, false, false, false] (fun s_ => [(49, .string t257), (51, .string t260), (52, .tuple #[.agg #[s_.1, .int .i64 t266], .int .i64 t267, .bool true]), (7, .pointer (some ⟨s_.2, 0, none⟩)), (46, .tuple #[.agg #[s_.1, .int .i64 t266], .int .i64 t267, .bool true]), (53, .agg #[s_.1, .int .i64 t266]), (54, .int .i64 t267), (55, .bool true)]) (fun s_ w' => (w'.cell? ⟨gb240, 0, none⟩ = some (.slice Ao20 x241000_1.length co20) ∧ w'.cell? ⟨gb240, 1, none⟩ = some (.int .i64 x241001_1)) ∧ (Kd.R k50 50 w' w.heap.size (fun k_ => some k_ ≠ (.slice Ao20 x241000_1.length co20 : Value).ownBlock) s_.1 t263) ∧ (Kd.R k50 50 w' w.heap.size (fun k_ => some k_ ≠ (s_.1 : Value).ownBlock) (.slice Ao20 x241000_1.length co20) x241000_1) ∧ (w'.heap[gb231]? = some (.cells #[.slice none 0 0, .int .i64 0] 42 (0, 0))) ∧ (w'.heap[gb240]? = some (.cells #[.slice Ao20 x241000_1.length co20, .int .i64 x241001_1] 42 (0, 0))) ∧ (w'.heap[s_.2]? = some (.cells #[.slice none 0 0, .int .i64 0] 42 (0, 0))) ∧ (w.heap.size ≤ s_.2) ∧ (w0.heap.size ≤ s_.2) ∧ (g ≠ s_.2) ∧ (s_.2 ≠ g) ∧ (gb231 ≠ s_.2) ∧ (s_.2 ≠ gb231) ∧ (gb240 ≠ s_.2) ∧ (s_.2 ≠ gb240) ∧ (IsS73 w0 w' g s0_0 t261 t262) ∧ (KeepBut w w' g none) ∧ (Below w0.heap.size w0 w')) ?_ ?_
                rotate_left
                · intro hCont
                  refine two_ (i := 2) (j := 10) (Ni := some 49) (Nj := some 7) #[true, true, true, true, false, false, false, false, false, false, false, false, false, false] #[true, true, false, true, false, false, false, false, false, false, true, false, false, false] rfl rfl rfl rfl (two_of HT_.out (by kernel_rfl)) (by decide) (by decide) (fun K hK => ?_) (fun K hK => ?_)
                  · skip
                    refine xG1 30 Try.func30 #[.pointer (some ⟨g, 0, none⟩)] (h := ?_)
                    with_reducible refine (spec_l03Key.calls g s0_0 x1001_14 x1002_14 t257 t258 t259 w0 _ ?side1 ?side2 A43.out).mono ?_
                    (case side1 => exact xH73 HI0.out)
                    (case side2 => exact xWI HB.out (IsS73.ge HI0.out))
                    rintro e w48 ⟨rfl, hi, hb, hk⟩
                    refine ⟨_, rfl, ?_⟩
                    replace HO_241000 := am (Kd.R_mono (Kd.R_keep (IsS73.apart (show IsS73 w0 _ g s0_0 x1001_14 x1002_14 from xH73 HI0.out) (xR HO_241000.out) (by decide)) hk (fun _ h => h.2)) (fun _ h => h.1))
                    replace BK231 := am (KeepBut.blk hk (g' := gb231) (o := .cells #[.slice none 0 0, .int .i64 0] 42 (0, 0)) (xB BK231.out) NB231_0.out (by simp))
                    replace BK240 := am (KeepBut.blk hk (g' := gb240) (o := .cells #[.slice Ao20 x241000_1.length co20, .int .i64 x241001_1] 42 (0, 0)) (xB BK240.out) NB240_0.out (by simp))
                    replace HK := am (KeepBut.trans (xK HK.out) hk (.inl rfl))
                    replace HB := am (hb)
                    replace HI0 := am (hi)
                    (try clear hb)
                    (try clear hk)
                    (try clear hi)
                    refine hK.out _ _ (xC2 BK240.out) (fun hHeld => ?_)
                    clear hK K
                    refine xN1 (h := ?_)
                    refine two_ (i := 4) (j := 10) (Ni := some 51) (Nj := some 7) #[true, true, true, true, true, false, false, false, false, false, false, false, false, false] #[true, true, true, true, false, false, false, false, false, false, true, false, false, false] rfl rfl rfl rfl (two_of HT_.out (by kernel_rfl)) (by decide) (by decide) (fun K hK => ?_) (fun K hK => ?_)
                    · skip
                      refine xG1 43 Try.func43 #[.pointer (some ⟨g, 0, none⟩)] (h := ?_)
                      with_reducible refine (spec_l03Val.calls g s0_0 t258 t259 t260 t261 t262 w0 _ ?side1 ?side2 A44.out).mono ?_
                      (case side1 => exact xH73 HI0.out)
                      (case side2 => exact xWI HB.out (IsS73.ge HI0.out))
                      rintro e w49 ⟨rfl, hi, hb, hk⟩
                      refine ⟨_, rfl, ?_⟩
                      replace HO_241000 := am (Kd.R_mono (Kd.R_keep (IsS73.apart (show IsS73 w0 _ g s0_0 t258 t259 from xH73 HI0.out) (xR HO_241000.out) (by decide)) hk (fun _ h => h.2)) (fun _ h => h.1))
                      replace BK231 := am (KeepBut.blk hk (g' := gb231) (o := .cells #[.slice none 0 0, .int .i64 0] 42 (0, 0)) (xB BK231.out) NB231_0.out (by simp))
                      replace BK240 := am (KeepBut.blk hk (g' := gb240) (o := .cells #[.slice Ao20 x241000_1.length co20, .int .i64 x241001_1] 42 (0, 0)) (xB BK240.out) NB240_0.out (by simp))
                      replace HK := am (KeepBut.trans (xK HK.out) hk (.inl rfl))
                      replace HB := am (hb)
                      replace HI0 := am (hi)
                      (try clear hb)
                      (try clear hk)
                      (try clear hi)
                      refine hK.out _ _ (xC2 BK240.out) (fun hHeld => ?_)
                      clear hK K
                      refine xN1 (h := ?_)
                      refine two_ (i := 5) (j := 10) (Ni := some 52) (Nj := some 7) #[true, true, true, true, true, true, false, false, false, false, false, false, false, false] #[true, true, true, true, true, false, false, false, false, false, true, false, false, false] rfl rfl rfl rfl (two_of HT_.out (by kernel_rfl)) (by decide) (by decide) (fun K hK => ?_) (fun K hK => ?_)
                      · skip
                        refine xG1 69 Try.func69 #[.agg #[.slice Ao20 x241000_1.length co20, .int .i64 x241001_1], .string t257, .string t260] (h := ?_)
                        with_reducible refine (spec_Lay.calls kj14 _ _ x241000_1 x241001_1 t257 t260 t263 t266 t267 true _ ?side1 ?side2 A45.out).mono ?_
                        (case side1 => exact xC ((Kd.R_reads' HO_241000.out).2.2))
                        (case side2 => exact (Kd.R_reads' HO_241000.out).2.1)
                        rintro e w50 ⟨v264, rfl, ho0, hb⟩
                        refine ⟨_, rfl, ?_⟩
                        have HO265 := am (Kd.R_lower (Kd.R_new' ho0 (Kd.R_lt (xR HO_241000.out))) (xKZ HK.out))
                        replace HO_241000 := am (Kd.R_elder' (xR HO_241000.out) (Kd.R_base ho0) hb)
                        replace BK231 := am (blk_below (xB BK231.out) hb)
                        replace BK240 := am (blk_below (xB BK240.out) hb)
                        replace HK := am (xKB HK.out hb)
                        replace HB := am (below_step (xWI HB.out (IsS73.ge HI0.out)) hb)
                        replace HI0 := am (IsS73.below (xH73 HI0.out) hb)
                        (try clear hb)
                        (try clear ho0)
                        refine hK.out _ _ (xC2 BK240.out) (fun hHeld => ?_)
                        clear hK K
                        refine xN1 (h := ?_)
                        refine xP1 (i := 6) (N := some 46) #[true, true, true, true, true, true, true, false, false, false, false, false, false, false] (any_of HT_.out (by kernel_rfl)) (h := ?_)
                        refine xP1 (i := 7) (N := some 53) #[true, true, true, true, true, true, true, true, false, false, false, false, false, false] (any_of HT_.out (by kernel_rfl)) (h := ?_)
                        refine xP1 (i := 8) (N := some 54) #[true, true, true, true, true, true, true, true, true, false, false, false, false, false] (any_of HT_.out (by kernel_rfl)) (h := ?_)
                        refine xP1 (i := 9) (N := some 55) #[true, true, true, true, true, true, true, true, true, true, false, false, false, false] (any_of HT_.out (by kernel_rfl)) (h := ?_)
                        refine one_ (i := 10) (N := some 7) #[true, true, true, true, true, true, true, true, true, true, true, false, false, false] rfl rfl (one_of HT_.out (by kernel_rfl)) (by decide) (fun K hK => ?_)
                        refine xE1 (N := 7) (cs := #[.slice none 0 0, .int .i64 0]) (t := 42) (h := ?_)
                        intro gb269 hg w51 hbox hb
                        replace HO_241000 := am (Kd.R_below (xR HO_241000.out) hb)
                        replace HO265 := am (Kd.R_below (xR HO265.out) hb)
                        replace HB := am (below_step (xWI HB.out (IsS73.ge HI0.out)) hb)
                        have BK269 := am (hbox)
                        have GW269 := am ((xKS hg HK.out))
                        have GE269 := am ((Nat.le_trans HW0.out (xKS hg HK.out)))
                        replace HK := am (xKB HK.out hb)
                        have NB231_269 := am (xN hg BK231.out)
                        have NB269_231 := am (xM hg BK231.out)
                        replace BK231 := am (blk_below (xB BK231.out) hb)
                        have NB240_269 := am (xN hg BK240.out)
                        have NB269_240 := am (xM hg BK240.out)
                        replace BK240 := am (blk_below (xB BK240.out) hb)
                        have NB0_269 := am ((xL hg (IsS73.lt (show IsS73 w0 _ g s0_0 t261 t262 from xH73 HI0.out))))
                        have NB269_0 := am ((xLM hg (IsS73.lt (show IsS73 w0 _ g s0_0 t261 t262 from xH73 HI0.out))))
                        replace HI0 := am (IsS73.below (xH73 HI0.out) hb)
                        clear hb hbox hg
                        refine hK.out _ _ (xC2 BK240.out) (fun hHeld => ?_)
                        clear hK K
                        refine xN1 (h := ?_)
                        exact xN2 (hCont (v264, gb269) _ ⟨hHeld, (Kd.R_mono (xR HO265.out) (fun _ hk => hk.2)), (Kd.R_mono (xR HO_241000.out) (fun _ hk => hk.2)), (xB BK231.out), (xB BK240.out), (xB BK269.out), GW269.out, GE269.out, NB0_269.out, NB269_0.out, NB231_269.out, NB269_231.out, NB240_269.out, NB269_240.out, (xH73 HI0.out), (xK HK.out), (xWI HB.out (IsS73.ge HI0.out))⟩)
                      · skip
                        refine xE1 (N := 7) (cs := #[.slice none 0 0, .int .i64 0]) (t := 42) (h := ?_)
                        intro gb269 hg w50 hbox hb
                        replace HO_241000 := am (Kd.R_below (xR HO_241000.out) hb)
                        replace HB := am (below_step (xWI HB.out (IsS73.ge HI0.out)) hb)
                        have BK269 := am (hbox)
                        have GW269 := am ((xKS hg HK.out))
                        have GE269 := am ((Nat.le_trans HW0.out (xKS hg HK.out)))
                        replace HK := am (xKB HK.out hb)
                        have NB231_269 := am (xN hg BK231.out)
                        have NB269_231 := am (xM hg BK231.out)
                        replace BK231 := am (blk_below (xB BK231.out) hb)
                        have NB240_269 := am (xN hg BK240.out)
                        have NB269_240 := am (xM hg BK240.out)
                        replace BK240 := am (blk_below (xB BK240.out) hb)
                        have NB0_269 := am ((xL hg (IsS73.lt (show IsS73 w0 _ g s0_0 t261 t262 from xH73 HI0.out))))
                        have NB269_0 := am ((xLM hg (IsS73.lt (show IsS73 w0 _ g s0_0 t261 t262 from xH73 HI0.out))))
                        replace HI0 := am (IsS73.below (xH73 HI0.out) hb)
                        clear hb hbox hg
                        refine hK.out _ _ (xC2 BK240.out) (fun hHeld => ?_)
                        clear hK K
                        refine xN1 (h := ?_)
                        refine one_ (i := 5) (N := some 52) #[true, true, true, true, true, true, false, false, false, false, true, false, false, false] rfl rfl (one_of HT_.out (by kernel_rfl)) (by decide) (fun K hK => ?_)
                        refine xG1 69 Try.func69 #[.agg #[.slice Ao20 x241000_1.length co20, .int .i64 x241001_1], .string t257, .string t260] (h := ?_)
                        with_reducible refine (spec_Lay.calls kj14 _ _ x241000_1 x241001_1 t257 t260 t263 t266 t267 true _ ?side1 ?side2 A45.out).mono ?_
                        (case side1 => exact xC ((Kd.R_reads' HO_241000.out).2.2))
                        (case side2 => exact (Kd.R_reads' HO_241000.out).2.1)
                        rintro e w51 ⟨v264, rfl, ho0, hb⟩
                        refine ⟨_, rfl, ?_⟩
                        have HO265 := am (Kd.R_lower (Kd.R_new' ho0 (Kd.R_lt (xR HO_241000.out))) (xKZ HK.out))
                        replace HO_241000 := am (Kd.R_elder' (xR HO_241000.out) (Kd.R_base ho0) hb)
                        replace BK231 := am (blk_below (xB BK231.out) hb)
                        replace BK240 := am (blk_below (xB BK240.out) hb)
                        replace BK269 := am (blk_below (xB BK269.out) hb)
                        replace HK := am (xKB HK.out hb)
                        replace HB := am (below_step (xWI HB.out (IsS73.ge HI0.out)) hb)
                        replace HI0 := am (IsS73.below (xH73 HI0.out) hb)
                        (try clear hb)
                        (try clear ho0)
                        refine hK.out _ _ (xC2 BK240.out) (fun hHeld => ?_)
                        clear hK K
                        refine xN1 (h := ?_)
                        refine xP1 (i := 6) (N := some 46) #[true, true, true, true, true, true, true, false, false, false, true, false, false, false] (any_of HT_.out (by kernel_rfl)) (h := ?_)
                        refine xP1 (i := 7) (N := some 53) #[true, true, true, true, true, true, true, true, false, false, true, false, false, false] (any_of HT_.out (by kernel_rfl)) (h := ?_)
                        refine xP1 (i := 8) (N := some 54) #[true, true, true, true, true, true, true, true, true, false, true, false, false, false] (any_of HT_.out (by kernel_rfl)) (h := ?_)
                        refine xP1 (i := 9) (N := some 55) #[true, true, true, true, true, true, true, true, true, true, true, false, false, false] (any_of HT_.out (by kernel_rfl)) (h := ?_)
                        exact xN2 (hCont (v264, gb269) _ ⟨hHeld, (Kd.R_mono (xR HO265.out) (fun _ hk => hk.2)), (Kd.R_mono (xR HO_241000.out) (fun _ hk => hk.2)), (xB BK231.out), (xB BK240.out), (xB BK269.out), GW269.out, GE269.out, NB0_269.out, NB269_0.out, NB231_269.out, NB269_231.out, NB240_269.out, NB269_240.out, (xH73 HI0.out), (xK HK.out), (xWI HB.out (IsS73.ge HI0.out))⟩)
                    · skip
                      refine xE1 (N := 7) (cs := #[.slice none 0 0, .int .i64 0]) (t := 42) (h := ?_)
                      intro gb269 hg w49 hbox hb
                      replace HO_241000 := am (Kd.R_below (xR HO_241000.out) hb)
                      replace HB := am (below_step (xWI HB.out (IsS73.ge HI0.out)) hb)
                      have BK269 := am (hbox)
                      have GW269 := am ((xKS hg HK.out))
                      have GE269 := am ((Nat.le_trans HW0.out (xKS hg HK.out)))
                      replace HK := am (xKB HK.out hb)
                      have NB231_269 := am (xN hg BK231.out)
                      have NB269_231 := am (xM hg BK231.out)
                      replace BK231 := am (blk_below (xB BK231.out) hb)
                      have NB240_269 := am (xN hg BK240.out)
                      have NB269_240 := am (xM hg BK240.out)
                      replace BK240 := am (blk_below (xB BK240.out) hb)
                      have NB0_269 := am ((xL hg (IsS73.lt (show IsS73 w0 _ g s0_0 t258 t259 from xH73 HI0.out))))
                      have NB269_0 := am ((xLM hg (IsS73.lt (show IsS73 w0 _ g s0_0 t258 t259 from xH73 HI0.out))))
                      replace HI0 := am (IsS73.below (xH73 HI0.out) hb)
                      clear hb hbox hg
                      refine hK.out _ _ (xC2 BK240.out) (fun hHeld => ?_)
                      clear hK K
                      refine xN1 (h := ?_)
                      refine one_ (i := 4) (N := some 51) #[true, true, true, true, true, false, false, false, false, false, true, false, false, false] rfl rfl (one_of HT_.out (by kernel_rfl)) (by decide) (fun K hK => ?_)
                      refine xG1 43 Try.func43 #[.pointer (some ⟨g, 0, none⟩)] (h := ?_)
                      with_reducible refine (spec_l03Val.calls g s0_0 t258 t259 t260 t261 t262 w0 _ ?side1 ?side2 A44.out).mono ?_
                      (case side1 => exact xH73 HI0.out)
                      (case side2 => exact xWI HB.out (IsS73.ge HI0.out))
                      rintro e w50 ⟨rfl, hi, hb, hk⟩
                      refine ⟨_, rfl, ?_⟩
                      replace HO_241000 := am (Kd.R_mono (Kd.R_keep (IsS73.apart (show IsS73 w0 _ g s0_0 t258 t259 from xH73 HI0.out) (xR HO_241000.out) (by decide)) hk (fun _ h => h.2)) (fun _ h => h.1))
                      replace BK231 := am (KeepBut.blk hk (g' := gb231) (o := .cells #[.slice none 0 0, .int .i64 0] 42 (0, 0)) (xB BK231.out) NB231_0.out (by simp))
                      replace BK240 := am (KeepBut.blk hk (g' := gb240) (o := .cells #[.slice Ao20 x241000_1.length co20, .int .i64 x241001_1] 42 (0, 0)) (xB BK240.out) NB240_0.out (by simp))
                      replace BK269 := am (KeepBut.blk hk (g' := gb269) (o := .cells #[.slice none 0 0, .int .i64 0] 42 (0, 0)) (xB BK269.out) NB269_0.out (by simp))
                      replace HK := am (KeepBut.trans (xK HK.out) hk (.inl rfl))
                      replace HB := am (hb)
                      replace HI0 := am (hi)
                      (try clear hb)
                      (try clear hk)
                      (try clear hi)
                      refine hK.out _ _ (xC2 BK240.out) (fun hHeld => ?_)
                      clear hK K
                      refine xN1 (h := ?_)
                      refine one_ (i := 5) (N := some 52) #[true, true, true, true, true, true, false, false, false, false, true, false, false, false] rfl rfl (one_of HT_.out (by kernel_rfl)) (by decide) (fun K hK => ?_)
                      refine xG1 69 Try.func69 #[.agg #[.slice Ao20 x241000_1.length co20, .int .i64 x241001_1], .string t257, .string t260] (h := ?_)
                      with_reducible refine (spec_Lay.calls kj14 _ _ x241000_1 x241001_1 t257 t260 t263 t266 t267 true _ ?side1 ?side2 A45.out).mono ?_
                      (case side1 => exact xC ((Kd.R_reads' HO_241000.out).2.2))
                      (case side2 => exact (Kd.R_reads' HO_241000.out).2.1)
                      rintro e w51 ⟨v264, rfl, ho0, hb⟩
                      refine ⟨_, rfl, ?_⟩
                      have HO265 := am (Kd.R_lower (Kd.R_new' ho0 (Kd.R_lt (xR HO_241000.out))) (xKZ HK.out))
                      replace HO_241000 := am (Kd.R_elder' (xR HO_241000.out) (Kd.R_base ho0) hb)
                      replace BK231 := am (blk_below (xB BK231.out) hb)
                      replace BK240 := am (blk_below (xB BK240.out) hb)
                      replace BK269 := am (blk_below (xB BK269.out) hb)
                      replace HK := am (xKB HK.out hb)
                      replace HB := am (below_step (xWI HB.out (IsS73.ge HI0.out)) hb)
                      replace HI0 := am (IsS73.below (xH73 HI0.out) hb)
                      (try clear hb)
                      (try clear ho0)
                      refine hK.out _ _ (xC2 BK240.out) (fun hHeld => ?_)
                      clear hK K
                      refine xN1 (h := ?_)
                      refine xP1 (i := 6) (N := some 46) #[true, true, true, true, true, true, true, false, false, false, true, false, false, false] (any_of HT_.out (by kernel_rfl)) (h := ?_)
                      refine xP1 (i := 7) (N := some 53) #[true, true, true, true, true, true, true, true, false, false, true, false, false, false] (any_of HT_.out (by kernel_rfl)) (h := ?_)
                      refine xP1 (i := 8) (N := some 54) #[true, true, true, true, true, true, true, true, true, false, true, false, false, false] (any_of HT_.out (by kernel_rfl)) (h := ?_)
                      refine xP1 (i := 9) (N := some 55) #[true, true, true, true, true, true, true, true, true, true, true, false, false, false] (any_of HT_.out (by kernel_rfl)) (h := ?_)
                      exact xN2 (hCont (v264, gb269) _ ⟨hHeld, (Kd.R_mono (xR HO265.out) (fun _ hk => hk.2)), (Kd.R_mono (xR HO_241000.out) (fun _ hk => hk.2)), (xB BK231.out), (xB BK240.out), (xB BK269.out), GW269.out, GE269.out, NB0_269.out, NB269_0.out, NB231_269.out, NB269_231.out, NB240_269.out, NB269_240.out, (xH73 HI0.out), (xK HK.out), (xWI HB.out (IsS73.ge HI0.out))⟩)
                  · skip
                    refine xE1 (N := 7) (cs := #[.slice none 0 0, .int .i64 0]) (t := 42) (h := ?_)
                    intro gb269 hg w48 hbox hb
                    replace HO_241000 := am (Kd.R_below (xR HO_241000.out) hb)
                    replace HB := am (below_step (xWI HB.out (IsS73.ge HI0.out)) hb)
                    have BK269 := am (hbox)
                    have GW269 := am ((xKS hg HK.out))
                    have GE269 := am ((Nat.le_trans HW0.out (xKS hg HK.out)))
                    replace HK := am (xKB HK.out hb)
                    have NB231_269 := am (xN hg BK231.out)
                    have NB269_231 := am (xM hg BK231.out)
                    replace BK231 := am (blk_below (xB BK231.out) hb)
                    have NB240_269 := am (xN hg BK240.out)
                    have NB269_240 := am (xM hg BK240.out)
                    replace BK240 := am (blk_below (xB BK240.out) hb)
                    have NB0_269 := am ((xL hg (IsS73.lt (show IsS73 w0 _ g s0_0 x1001_14 x1002_14 from xH73 HI0.out))))
                    have NB269_0 := am ((xLM hg (IsS73.lt (show IsS73 w0 _ g s0_0 x1001_14 x1002_14 from xH73 HI0.out))))
                    replace HI0 := am (IsS73.below (xH73 HI0.out) hb)
                    clear hb hbox hg
                    refine hK.out _ _ (xC2 BK240.out) (fun hHeld => ?_)
                    clear hK K
                    refine xN1 (h := ?_)
                    refine one_ (i := 2) (N := some 49) #[true, true, true, true, false, false, false, false, false, false, true, false, false, false] rfl rfl (one_of HT_.out (by kernel_rfl)) (by decide) (fun K hK => ?_)
                    refine xG1 30 Try.func30 #[.pointer (some ⟨g, 0, none⟩)] (h := ?_)
                    with_reducible refine (spec_l03Key.calls g s0_0 x1001_14 x1002_14 t257 t258 t259 w0 _ ?side1 ?side2 A43.out).mono ?_
                    (case side1 => exact xH73 HI0.out)
                    (case side2 => exact xWI HB.out (IsS73.ge HI0.out))
                    rintro e w49 ⟨rfl, hi, hb, hk⟩
                    refine ⟨_, rfl, ?_⟩
                    replace HO_241000 := am (Kd.R_mono (Kd.R_keep (IsS73.apart (show IsS73 w0 _ g s0_0 x1001_14 x1002_14 from xH73 HI0.out) (xR HO_241000.out) (by decide)) hk (fun _ h => h.2)) (fun _ h => h.1))
                    replace BK231 := am (KeepBut.blk hk (g' := gb231) (o := .cells #[.slice none 0 0, .int .i64 0] 42 (0, 0)) (xB BK231.out) NB231_0.out (by simp))
                    replace BK240 := am (KeepBut.blk hk (g' := gb240) (o := .cells #[.slice Ao20 x241000_1.length co20, .int .i64 x241001_1] 42 (0, 0)) (xB BK240.out) NB240_0.out (by simp))
                    replace BK269 := am (KeepBut.blk hk (g' := gb269) (o := .cells #[.slice none 0 0, .int .i64 0] 42 (0, 0)) (xB BK269.out) NB269_0.out (by simp))
                    replace HK := am (KeepBut.trans (xK HK.out) hk (.inl rfl))
                    replace HB := am (hb)
                    replace HI0 := am (hi)
                    (try clear hb)
                    (try clear hk)
                    (try clear hi)
                    refine hK.out _ _ (xC2 BK240.out) (fun hHeld => ?_)
                    clear hK K
                    refine xN1 (h := ?_)
                    refine one_ (i := 4) (N := some 51) #[true, true, true, true, true, false, false, false, false, false, true, false, false, false] rfl rfl (one_of HT_.out (by kernel_rfl)) (by decide) (fun K hK => ?_)
                    refine xG1 43 Try.func43 #[.pointer (some ⟨g, 0, none⟩)] (h := ?_)
                    with_reducible refine (spec_l03Val.calls g s0_0 t258 t259 t260 t261 t262 w0 _ ?side1 ?side2 A44.out).mono ?_
                    (case side1 => exact xH73 HI0.out)
                    (case side2 => exact xWI HB.out (IsS73.ge HI0.out))
                    rintro e w50 ⟨rfl, hi, hb, hk⟩
                    refine ⟨_, rfl, ?_⟩
                    replace HO_241000 := am (Kd.R_mono (Kd.R_keep (IsS73.apart (show IsS73 w0 _ g s0_0 t258 t259 from xH73 HI0.out) (xR HO_241000.out) (by decide)) hk (fun _ h => h.2)) (fun _ h => h.1))
                    replace BK231 := am (KeepBut.blk hk (g' := gb231) (o := .cells #[.slice none 0 0, .int .i64 0] 42 (0, 0)) (xB BK231.out) NB231_0.out (by simp))
                    replace BK240 := am (KeepBut.blk hk (g' := gb240) (o := .cells #[.slice Ao20 x241000_1.length co20, .int .i64 x241001_1] 42 (0, 0)) (xB BK240.out) NB240_0.out (by simp))
                    replace BK269 := am (KeepBut.blk hk (g' := gb269) (o := .cells #[.slice none 0 0, .int .i64 0] 42 (0, 0)) (xB BK269.out) NB269_0.out (by simp))
                    replace HK := am (KeepBut.trans (xK HK.out) hk (.inl rfl))
                    replace HB := am (hb)
                    replace HI0 := am (hi)
                    (try clear hb)
                    (try clear hk)
                    (try clear hi)
                    refine hK.out _ _ (xC2 BK240.out) (fun hHeld => ?_)
                    clear hK K
                    refine xN1 (h := ?_)
                    refine one_ (i := 5) (N := some 52) #[true, true, true, true, true, true, false, false, false, false, true, false, false, false] rfl rfl (one_of HT_.out (by kernel_rfl)) (by decide) (fun K hK => ?_)
                    refine xG1 69 Try.func69 #[.agg #[.slice Ao20 x241000_1.length co20, .int .i64 x241001_1], .string t257, .string t260] (h := ?_)
                    with_reducible refine (spec_Lay.calls kj14 _ _ x241000_1 x241001_1 t257 t260 t263 t266 t267 true _ ?side1 ?side2 A45.out).mono ?_
                    (case side1 => exact xC ((Kd.R_reads' HO_241000.out).2.2))
                    (case side2 => exact (Kd.R_reads' HO_241000.out).2.1)
                    rintro e w51 ⟨v264, rfl, ho0, hb⟩
                    refine ⟨_, rfl, ?_⟩
                    have HO265 := am (Kd.R_lower (Kd.R_new' ho0 (Kd.R_lt (xR HO_241000.out))) (xKZ HK.out))
                    replace HO_241000 := am (Kd.R_elder' (xR HO_241000.out) (Kd.R_base ho0) hb)
                    replace BK231 := am (blk_below (xB BK231.out) hb)
                    replace BK240 := am (blk_below (xB BK240.out) hb)
                    replace BK269 := am (blk_below (xB BK269.out) hb)
                    replace HK := am (xKB HK.out hb)
                    replace HB := am (below_step (xWI HB.out (IsS73.ge HI0.out)) hb)
                    replace HI0 := am (IsS73.below (xH73 HI0.out) hb)
                    (try clear hb)
                    (try clear ho0)
                    refine hK.out _ _ (xC2 BK240.out) (fun hHeld => ?_)
                    clear hK K
                    refine xN1 (h := ?_)
                    refine xP1 (i := 6) (N := some 46) #[true, true, true, true, true, true, true, false, false, false, true, false, false, false] (any_of HT_.out (by kernel_rfl)) (h := ?_)
                    refine xP1 (i := 7) (N := some 53) #[true, true, true, true, true, true, true, true, false, false, true, false, false, false] (any_of HT_.out (by kernel_rfl)) (h := ?_)
                    refine xP1 (i := 8) (N := some 54) #[true, true, true, true, true, true, true, true, true, false, true, false, false, false] (any_of HT_.out (by kernel_rfl)) (h := ?_)
                    refine xP1 (i := 9) (N := some 55) #[true, true, true, true, true, true, true, true, true, true, true, false, false, false] (any_of HT_.out (by kernel_rfl)) (h := ?_)
                    exact xN2 (hCont (v264, gb269) _ ⟨hHeld, (Kd.R_mono (xR HO265.out) (fun _ hk => hk.2)), (Kd.R_mono (xR HO_241000.out) (fun _ hk => hk.2)), (xB BK231.out), (xB BK240.out), (xB BK269.out), GW269.out, GE269.out, NB0_269.out, NB269_0.out, NB231_269.out, NB269_231.out, NB240_269.out, NB269_240.out, (xH73 HI0.out), (xK HK.out), (xWI HB.out (IsS73.ge HI0.out))⟩)
                rintro ⟨v264, gb269⟩ w52 ⟨hS_, h0_, h1_, h2_, h3_, h4_, h5_, h6_, h7_, h8_, h9_, h10_, h11_, h12_, h13_, h14_, h15_⟩
                have n0_ : Aside0 (Kd.R k50 50 w52 w.heap.size (fun k_ => some k_ ≠ (.slice Ao20 x241000_1.length co20 : Value).ownBlock) v264 t263) := ⟨h0_⟩
                have n1_ : Aside0 (Kd.R k50 50 w52 w.heap.size (fun k_ => some k_ ≠ (v264 : Value).ownBlock) (.slice Ao20 x241000_1.length co20) x241000_1) := ⟨h1_⟩
                have n2_ : Aside0 (w52.heap[gb231]? = some (.cells #[.slice none 0 0, .int .i64 0] 42 (0, 0))) := ⟨h2_⟩
                have n3_ : Aside0 (w52.heap[gb240]? = some (.cells #[.slice Ao20 x241000_1.length co20, .int .i64 x241001_1] 42 (0, 0))) := ⟨h3_⟩
                have n4_ : Aside0 (w52.heap[gb269]? = some (.cells #[.slice none 0 0, .int .i64 0] 42 (0, 0))) := ⟨h4_⟩
                have n5_ : Aside0 (w.heap.size ≤ gb269) := ⟨h5_⟩
                have n6_ : Aside0 (w0.heap.size ≤ gb269) := ⟨h6_⟩
                have n7_ : Aside0 (g ≠ gb269) := ⟨h7_⟩
                have n8_ : Aside0 (gb269 ≠ g) := ⟨h8_⟩
                have n9_ : Aside0 (gb231 ≠ gb269) := ⟨h9_⟩
                have n10_ : Aside0 (gb269 ≠ gb231) := ⟨h10_⟩
                have n11_ : Aside0 (gb240 ≠ gb269) := ⟨h11_⟩
                have n12_ : Aside0 (gb269 ≠ gb240) := ⟨h12_⟩
                have n13_ : Aside0 (IsS73 w0 w52 g s0_0 t261 t262) := ⟨h13_⟩
                have n14_ : Aside0 (KeepBut w w52 g none) := ⟨h14_⟩
                have n15_ : Aside0 (Below w0.heap.size w0 w52) := ⟨h15_⟩
                clear HO_241000
                clear BK231
                clear BK240
                clear HI0
                clear HK
                clear HB
                clear h0_ h1_ h2_ h3_ h4_ h5_ h6_ h7_ h8_ h9_ h10_ h11_ h12_ h13_ h14_ h15_
                have HO265 := n0_
                have HO_241000 := n1_
                have BK231 := n2_
                have BK240 := n3_
                have BK269 := n4_
                have GW269 := n5_
                have GE269 := n6_
                have NB0_269 := n7_
                have NB269_0 := n8_
                have NB231_269 := n9_
                have NB269_231 := n10_
                have NB240_269 := n11_
                have NB269_240 := n12_
                have HI0 := n13_
                have HK := n14_
                have HB := n15_
                clear n0_ n1_ n2_ n3_ n4_ n5_ n6_ n7_ n8_ n9_ n10_ n11_ n12_ n13_ n14_ n15_
                have hHeld : w52.cell? ⟨gb240, 0, none⟩ = some (.slice Ao20 x241000_1.length co20) ∧ w52.cell? ⟨gb240, 1, none⟩ = some (.int .i64 x241001_1) := hS_
                obtain ⟨Ao53, co53, eo53⟩ := Kd.R_slice HO265.out
                (first | subst eo53 | (injection eo53 with f1_ f2_ f3_; have f4_ := f1_.symm; have f5_ := f3_.symm; clear f1_ f2_ f3_; subst f4_; subst f5_))
                refine norm_ (a' := ?_) ?_ ?_
                rotate_left
                · simp only [putAll, Act.put, List.setIfInBounds_toArray, List.set_cons_zero, List.set_cons_succ]
                  rfl
                refine one_ (i := 11) (N := none) #[true, true, true, true, true, true, true, true, true, true, true, true, false, false] rfl rfl (one_of HT_.out (by kernel_rfl)) (by decide) (fun K hK => ?_)
                have hs54 : w52.cell? ⟨gb269, 0, none⟩ = some (.slice none 0 0) := (blk_cell BK269.out 0).trans rfl
                have hfs54 := blk_frozen BK269.out 0
                have hns54_0 := NB231_269.out
                have hns54_1 := NB240_269.out
                have hms54_0 := NB269_231.out
                have hms54_1 := NB269_240.out
                have hs55 : w52.cell? ⟨gb269, 1, none⟩ = some (.int .i64 0) := (blk_cell BK269.out 1).trans rfl
                have hfs55 := blk_frozen BK269.out 1
                have hns55_0 := NB231_269.out
                have hns55_1 := NB240_269.out
                have hms55_0 := NB269_231.out
                have hms55_1 := NB269_240.out
                refine skip_ (w1 := ?_) (by rfl) rfl ?_ ?_
                rotate_left
                · go_simp
                  rfl
                refine hK.out _ _ ⟨((cell_far (p := ⟨gb269, _, none⟩) NB240_269.out _).trans (((cell_far (p := ⟨gb269, _, none⟩) NB240_269.out _).trans (hHeld.1)))), ((cell_far (p := ⟨gb269, _, none⟩) NB240_269.out _).trans (((cell_far (p := ⟨gb269, _, none⟩) NB240_269.out _).trans (hHeld.2))))⟩ (fun hHeld => ?_)
                clear hK K
                refine xP1 (i := 12) (N := some 8) #[true, true, true, true, true, true, true, true, true, true, true, true, true, false] (any_of HT_.out (by kernel_rfl)) (h := ?_)
                refine xP1 (i := 13) (N := some 9) #[true, true, true, true, true, true, true, true, true, true, true, true, true, true] (any_of HT_.out (by kernel_rfl)) (h := ?_)
                refine done_ (done_of HT_.out (by kernel_rfl)) ?_
                have hnb56 := NB269_231.out
                have hnc56 := NB231_269.out
                have hnb57 := NB269_240.out
                have hnc57 := NB240_269.out
                have hnb58 := NB269_0.out
                have hnc58 := NB0_269.out
                obtain ⟨hcz59_0, hcz59_1, hfz59_0, hfz59_1⟩ := xT2 (W := w52) BK269.out
                have hnb60 := NB240_231.out
                have hnc60 := NB231_240.out
                have hnb61 := NB240_0.out
                have hnc61 := NB0_240.out
                obtain ⟨hcz62_0, hcz62_1, hfz62_0, hfz62_1⟩ := xT2 (W := w52) BK240.out
                try go_wp2
                go_roundg kj14
                case measure => have := HK1.out; have := HJ14.out; omega
                case rel => exact ⟨(wrap64 (x5_1 + 1)), (t261), (t262), (t263), (t266), (.slice Ao53 t263.length co53), (xQ), H', ⟨by have := HK1.out; have := HJ14.out; omega⟩, ⟨by (with_reducible repeat (first | apply Kd.R_alloc | apply Kd.R_drewN | apply Kd.R_drew)); exact Kd.R_mono (Kd.R_far (p := ⟨gb240, 1, none⟩) (Kd.R_far (p := ⟨gb240, 0, none⟩) (Kd.R_far (p := ⟨gb269, 1, none⟩) (Kd.R_far (p := ⟨gb269, 0, none⟩) (Kd.R_types (Kd.R_types HO265.out BK269.out (by decide)) BK240.out (by decide)) (fun _ hk => hk.1.2) (.slice Ao53 t263.length co53)) (fun _ hk => hk.1.2) (.int .i64 t266)) (fun _ hk => hk.2) (.slice Ao53 t263.length co53)) (fun _ hk => hk.2) (.int .i64 t266)) (fun _ hk => trivial)⟩, ⟨xB BK231.out⟩, ⟨xP BK240.out⟩, ⟨xH73 HI0.out⟩, ⟨xK HK.out⟩, ⟨xWI HB.out (IsS73.ge HI0.out)⟩⟩
              · replace c46 := Bool.eq_false_iff.mpr c46
                subst c46
                have H1 : (spec_l03Arena.l0 kj14 (wrap64 (x5_1 + 1)) s0_0 t261 t262 x241000_1 x241001_1) = some (r1, r2, r3, r4) := by rw [if_neg (show ¬ (false = true) by decide)] at H; exact H
                clear H
                have H := H1
                clear H1
                have H' := am H
                clear H
                try go_wp2
                replace HO_241000 := am (Kd.R_drew HO_241000.out)
                replace BK231 := am (blk_drew BK231.out)
                replace BK240 := am (blk_drew BK240.out)
                replace HI0 := am (IsS73.drew HI0.out)
                replace HK := am (keep_drew HK.out)
                replace HB := am (below_drew1 HB.out)
                refine start_ (n := 14) (S := fun w' => w'.cell? ⟨gb240, 0, none⟩ = some (.slice Ao20 x241000_1.length co20) ∧ w'.cell? ⟨gb240, 1, none⟩ = some (.int .i64 x241001_1)) (ds := []) #[false, false, false, false, false, false, false, false, false, false, false, false, false, false] (by kernel_rfl) rfl rfl (xC2 BK240.out) (fun hHeld => ?_); refine with_tabW spec_l03Arena.tab8 spec_l03Arena.bits8 (fun HT_ HW_ => ?_)
                generalize wc.drew = w63 at HO_241000 BK231 BK240 HI0 HK HB hHeld ⊢
                refine xP1 (i := 1) (N := some 48) #[false, true, false, false, false, false, false, false, false, false, false, false, false, false] (any_of HT_.out (by kernel_rfl)) (h := ?_)
                refine xP1 (i := 3) (N := some 50) #[false, true, false, true, false, false, false, false, false, false, false, false, false, false] (any_of HT_.out (by kernel_rfl)) (h := ?_)
                refine take_ (i := 0) (N := some 47) (v := ?_) (a' := ?_) #[true, true, false, true, false, false, false, false, false, false, false, false, false, false] rfl rfl (take_ofW HT_.out HW_.out (by kernel_rfl)) (fun _ _ _ h => h) (Or.inl ⟨by rfl, ?_⟩) hHeld ?_ ?_
                rotate_left
                · rintro w' ⟨s0, s1⟩
                  go_simp
                  with_reducible rfl
                rotate_left
                · simp only [Act.put, List.setIfInBounds_toArray, List.set_cons_zero, List.set_cons_succ, i64_w, i32_w]
                  rfl
                refine join_ (σ := Value × Nat) 3 #[true, true, true, true, true, true, true, true, true, true, true, false, false, false] (fun s_ => [(49, .string t257), (51, .string t260), (52, .tuple #[.agg #[s_.1, .int .i64 t266], .int .i64 t267, .bool false]), (7, .pointer (some ⟨s_.2, 0, none⟩)), (46, .tuple #[.agg #[s_.1, .int .i64 t266], .int .i64 t267, .bool false]), (53, .agg #[s_.1, .int .i64 t266]), (54, .int .i64 t267), (55, .bool false)]) (fun s_ w' => (w'.cell? ⟨gb240, 0, none⟩ = some (.slice Ao20 x241000_1.length co20) ∧ w'.cell? ⟨gb240, 1, none⟩ = some (.int .i64 x241001_1)) ∧ (Kd.R k50 50 w' w.heap.size (fun k_ => some k_ ≠ (.slice Ao20 x241000_1.length co20 : Value).ownBlock) s_.1 t263) ∧ (Kd.R k50 50 w' w.heap.size (fun k_ => some k_ ≠ (s_.1 : Value).ownBlock) (.slice Ao20 x241000_1.length co20) x241000_1) ∧ (w'.heap[gb231]? = some (.cells #[.slice none 0 0, .int .i64 0] 42 (0, 0))) ∧ (w'.heap[gb240]? = some (.cells #[.slice Ao20 x241000_1.length co20, .int .i64 x241001_1] 42 (0, 0))) ∧ (w'.heap[s_.2]? = some (.cells #[.slice none 0 0, .int .i64 0] 42 (0, 0))) ∧ (w.heap.size ≤ s_.2) ∧ (w0.heap.size ≤ s_.2) ∧ (g ≠ s_.2) ∧ (s_.2 ≠ g) ∧ (gb231 ≠ s_.2) ∧ (s_.2 ≠ gb231) ∧ (gb240 ≠ s_.2) ∧ (s_.2 ≠ gb240) ∧ (IsS73 w0 w' g s0_0 t261 t262) ∧ (KeepBut w w' g none) ∧ (Below w0.heap.size w0 w')) ?_ ?_
                rotate_left
                · intro hCont
                  refine two_ (i := 2) (j := 10) (Ni := some 49) (Nj := some 7) #[true, true, true, true, false, false, false, false, false, false, false, false, false, false] #[true, true, false, true, false, false, false, false, false, false, true, false, false, false] rfl rfl rfl rfl (two_of HT_.out (by kernel_rfl)) (by decide) (by decide) (fun K hK => ?_) (fun K hK => ?_)
                  · skip
                    refine xG1 30 Try.func30 #[.pointer (some ⟨g, 0, none⟩)] (h := ?_)
                    with_reducible refine (spec_l03Key.calls g s0_0 x1001_14 x1002_14 t257 t258 t259 w0 _ ?side1 ?side2 A43.out).mono ?_
                    (case side1 => exact xH73 HI0.out)
                    (case side2 => exact xWI HB.out (IsS73.ge HI0.out))
                    rintro e w64 ⟨rfl, hi, hb, hk⟩
                    refine ⟨_, rfl, ?_⟩
                    replace HO_241000 := am (Kd.R_mono (Kd.R_keep (IsS73.apart (show IsS73 w0 _ g s0_0 x1001_14 x1002_14 from xH73 HI0.out) (xR HO_241000.out) (by decide)) hk (fun _ h => h.2)) (fun _ h => h.1))
                    replace BK231 := am (KeepBut.blk hk (g' := gb231) (o := .cells #[.slice none 0 0, .int .i64 0] 42 (0, 0)) (xB BK231.out) NB231_0.out (by simp))
                    replace BK240 := am (KeepBut.blk hk (g' := gb240) (o := .cells #[.slice Ao20 x241000_1.length co20, .int .i64 x241001_1] 42 (0, 0)) (xB BK240.out) NB240_0.out (by simp))
                    replace HK := am (KeepBut.trans (xK HK.out) hk (.inl rfl))
                    replace HB := am (hb)
                    replace HI0 := am (hi)
                    (try clear hb)
                    (try clear hk)
                    (try clear hi)
                    refine hK.out _ _ (xC2 BK240.out) (fun hHeld => ?_)
                    clear hK K
                    refine xN1 (h := ?_)
                    refine two_ (i := 4) (j := 10) (Ni := some 51) (Nj := some 7) #[true, true, true, true, true, false, false, false, false, false, false, false, false, false] #[true, true, true, true, false, false, false, false, false, false, true, false, false, false] rfl rfl rfl rfl (two_of HT_.out (by kernel_rfl)) (by decide) (by decide) (fun K hK => ?_) (fun K hK => ?_)
                    · skip
                      refine xG1 43 Try.func43 #[.pointer (some ⟨g, 0, none⟩)] (h := ?_)
                      with_reducible refine (spec_l03Val.calls g s0_0 t258 t259 t260 t261 t262 w0 _ ?side1 ?side2 A44.out).mono ?_
                      (case side1 => exact xH73 HI0.out)
                      (case side2 => exact xWI HB.out (IsS73.ge HI0.out))
                      rintro e w65 ⟨rfl, hi, hb, hk⟩
                      refine ⟨_, rfl, ?_⟩
                      replace HO_241000 := am (Kd.R_mono (Kd.R_keep (IsS73.apart (show IsS73 w0 _ g s0_0 t258 t259 from xH73 HI0.out) (xR HO_241000.out) (by decide)) hk (fun _ h => h.2)) (fun _ h => h.1))
                      replace BK231 := am (KeepBut.blk hk (g' := gb231) (o := .cells #[.slice none 0 0, .int .i64 0] 42 (0, 0)) (xB BK231.out) NB231_0.out (by simp))
                      replace BK240 := am (KeepBut.blk hk (g' := gb240) (o := .cells #[.slice Ao20 x241000_1.length co20, .int .i64 x241001_1] 42 (0, 0)) (xB BK240.out) NB240_0.out (by simp))
                      replace HK := am (KeepBut.trans (xK HK.out) hk (.inl rfl))
                      replace HB := am (hb)
                      replace HI0 := am (hi)
                      (try clear hb)
                      (try clear hk)
                      (try clear hi)
                      refine hK.out _ _ (xC2 BK240.out) (fun hHeld => ?_)
                      clear hK K
                      refine xN1 (h := ?_)
                      refine two_ (i := 5) (j := 10) (Ni := some 52) (Nj := some 7) #[true, true, true, true, true, true, false, false, false, false, false, false, false, false] #[true, true, true, true, true, false, false, false, false, false, true, false, false, false] rfl rfl rfl rfl (two_of HT_.out (by kernel_rfl)) (by decide) (by decide) (fun K hK => ?_) (fun K hK => ?_)
                      · skip
                        refine xG1 69 Try.func69 #[.agg #[.slice Ao20 x241000_1.length co20, .int .i64 x241001_1], .string t257, .string t260] (h := ?_)
                        with_reducible refine (spec_Lay.calls kj14 _ _ x241000_1 x241001_1 t257 t260 t263 t266 t267 false _ ?side1 ?side2 A45.out).mono ?_
                        (case side1 => exact xC ((Kd.R_reads' HO_241000.out).2.2))
                        (case side2 => exact (Kd.R_reads' HO_241000.out).2.1)
                        rintro e w66 ⟨v264, rfl, ho0, hb⟩
                        refine ⟨_, rfl, ?_⟩
                        have HO265 := am (Kd.R_lower (Kd.R_new' ho0 (Kd.R_lt (xR HO_241000.out))) (xKZ HK.out))
                        replace HO_241000 := am (Kd.R_elder' (xR HO_241000.out) (Kd.R_base ho0) hb)
                        replace BK231 := am (blk_below (xB BK231.out) hb)
                        replace BK240 := am (blk_below (xB BK240.out) hb)
                        replace HK := am (xKB HK.out hb)
                        replace HB := am (below_step (xWI HB.out (IsS73.ge HI0.out)) hb)
                        replace HI0 := am (IsS73.below (xH73 HI0.out) hb)
                        (try clear hb)
                        (try clear ho0)
                        refine hK.out _ _ (xC2 BK240.out) (fun hHeld => ?_)
                        clear hK K
                        refine xN1 (h := ?_)
                        refine xP1 (i := 6) (N := some 46) #[true, true, true, true, true, true, true, false, false, false, false, false, false, false] (any_of HT_.out (by kernel_rfl)) (h := ?_)
                        refine xP1 (i := 7) (N := some 53) #[true, true, true, true, true, true, true, true, false, false, false, false, false, false] (any_of HT_.out (by kernel_rfl)) (h := ?_)
                        refine xP1 (i := 8) (N := some 54) #[true, true, true, true, true, true, true, true, true, false, false, false, false, false] (any_of HT_.out (by kernel_rfl)) (h := ?_)
                        refine xP1 (i := 9) (N := some 55) #[true, true, true, true, true, true, true, true, true, true, false, false, false, false] (any_of HT_.out (by kernel_rfl)) (h := ?_)
                        refine one_ (i := 10) (N := some 7) #[true, true, true, true, true, true, true, true, true, true, true, false, false, false] rfl rfl (one_of HT_.out (by kernel_rfl)) (by decide) (fun K hK => ?_)
                        refine xE1 (N := 7) (cs := #[.slice none 0 0, .int .i64 0]) (t := 42) (h := ?_)
                        intro gb269 hg w67 hbox hb
                        replace HO_241000 := am (Kd.R_below (xR HO_241000.out) hb)
                        replace HO265 := am (Kd.R_below (xR HO265.out) hb)
                        replace HB := am (below_step (xWI HB.out (IsS73.ge HI0.out)) hb)
                        have BK269 := am (hbox)
                        have GW269 := am ((xKS hg HK.out))
                        have GE269 := am ((Nat.le_trans HW0.out (xKS hg HK.out)))
                        replace HK := am (xKB HK.out hb)
                        have NB231_269 := am (xN hg BK231.out)
                        have NB269_231 := am (xM hg BK231.out)
                        replace BK231 := am (blk_below (xB BK231.out) hb)
                        have NB240_269 := am (xN hg BK240.out)
                        have NB269_240 := am (xM hg BK240.out)
                        replace BK240 := am (blk_below (xB BK240.out) hb)
                        have NB0_269 := am ((xL hg (IsS73.lt (show IsS73 w0 _ g s0_0 t261 t262 from xH73 HI0.out))))
                        have NB269_0 := am ((xLM hg (IsS73.lt (show IsS73 w0 _ g s0_0 t261 t262 from xH73 HI0.out))))
                        replace HI0 := am (IsS73.below (xH73 HI0.out) hb)
                        clear hb hbox hg
                        refine hK.out _ _ (xC2 BK240.out) (fun hHeld => ?_)
                        clear hK K
                        refine xN1 (h := ?_)
                        exact xN2 (hCont (v264, gb269) _ ⟨hHeld, (Kd.R_mono (xR HO265.out) (fun _ hk => hk.2)), (Kd.R_mono (xR HO_241000.out) (fun _ hk => hk.2)), (xB BK231.out), (xB BK240.out), (xB BK269.out), GW269.out, GE269.out, NB0_269.out, NB269_0.out, NB231_269.out, NB269_231.out, NB240_269.out, NB269_240.out, (xH73 HI0.out), (xK HK.out), (xWI HB.out (IsS73.ge HI0.out))⟩)
                      · skip
                        refine xE1 (N := 7) (cs := #[.slice none 0 0, .int .i64 0]) (t := 42) (h := ?_)
                        intro gb269 hg w66 hbox hb
                        replace HO_241000 := am (Kd.R_below (xR HO_241000.out) hb)
                        replace HB := am (below_step (xWI HB.out (IsS73.ge HI0.out)) hb)
                        have BK269 := am (hbox)
                        have GW269 := am ((xKS hg HK.out))
                        have GE269 := am ((Nat.le_trans HW0.out (xKS hg HK.out)))
                        replace HK := am (xKB HK.out hb)
                        have NB231_269 := am (xN hg BK231.out)
                        have NB269_231 := am (xM hg BK231.out)
                        replace BK231 := am (blk_below (xB BK231.out) hb)
                        have NB240_269 := am (xN hg BK240.out)
                        have NB269_240 := am (xM hg BK240.out)
                        replace BK240 := am (blk_below (xB BK240.out) hb)
                        have NB0_269 := am ((xL hg (IsS73.lt (show IsS73 w0 _ g s0_0 t261 t262 from xH73 HI0.out))))
                        have NB269_0 := am ((xLM hg (IsS73.lt (show IsS73 w0 _ g s0_0 t261 t262 from xH73 HI0.out))))
                        replace HI0 := am (IsS73.below (xH73 HI0.out) hb)
                        clear hb hbox hg
                        refine hK.out _ _ (xC2 BK240.out) (fun hHeld => ?_)
                        clear hK K
                        refine xN1 (h := ?_)
                        refine one_ (i := 5) (N := some 52) #[true, true, true, true, true, true, false, false, false, false, true, false, false, false] rfl rfl (one_of HT_.out (by kernel_rfl)) (by decide) (fun K hK => ?_)
                        refine xG1 69 Try.func69 #[.agg #[.slice Ao20 x241000_1.length co20, .int .i64 x241001_1], .string t257, .string t260] (h := ?_)
                        with_reducible refine (spec_Lay.calls kj14 _ _ x241000_1 x241001_1 t257 t260 t263 t266 t267 false _ ?side1 ?side2 A45.out).mono ?_
                        (case side1 => exact xC ((Kd.R_reads' HO_241000.out).2.2))
                        (case side2 => exact (Kd.R_reads' HO_241000.out).2.1)
                        rintro e w67 ⟨v264, rfl, ho0, hb⟩
                        refine ⟨_, rfl, ?_⟩
                        have HO265 := am (Kd.R_lower (Kd.R_new' ho0 (Kd.R_lt (xR HO_241000.out))) (xKZ HK.out))
                        replace HO_241000 := am (Kd.R_elder' (xR HO_241000.out) (Kd.R_base ho0) hb)
                        replace BK231 := am (blk_below (xB BK231.out) hb)
                        replace BK240 := am (blk_below (xB BK240.out) hb)
                        replace BK269 := am (blk_below (xB BK269.out) hb)
                        replace HK := am (xKB HK.out hb)
                        replace HB := am (below_step (xWI HB.out (IsS73.ge HI0.out)) hb)
                        replace HI0 := am (IsS73.below (xH73 HI0.out) hb)
                        (try clear hb)
                        (try clear ho0)
                        refine hK.out _ _ (xC2 BK240.out) (fun hHeld => ?_)
                        clear hK K
                        refine xN1 (h := ?_)
                        refine xP1 (i := 6) (N := some 46) #[true, true, true, true, true, true, true, false, false, false, true, false, false, false] (any_of HT_.out (by kernel_rfl)) (h := ?_)
                        refine xP1 (i := 7) (N := some 53) #[true, true, true, true, true, true, true, true, false, false, true, false, false, false] (any_of HT_.out (by kernel_rfl)) (h := ?_)
                        refine xP1 (i := 8) (N := some 54) #[true, true, true, true, true, true, true, true, true, false, true, false, false, false] (any_of HT_.out (by kernel_rfl)) (h := ?_)
                        refine xP1 (i := 9) (N := some 55) #[true, true, true, true, true, true, true, true, true, true, true, false, false, false] (any_of HT_.out (by kernel_rfl)) (h := ?_)
                        exact xN2 (hCont (v264, gb269) _ ⟨hHeld, (Kd.R_mono (xR HO265.out) (fun _ hk => hk.2)), (Kd.R_mono (xR HO_241000.out) (fun _ hk => hk.2)), (xB BK231.out), (xB BK240.out), (xB BK269.out), GW269.out, GE269.out, NB0_269.out, NB269_0.out, NB231_269.out, NB269_231.out, NB240_269.out, NB269_240.out, (xH73 HI0.out), (xK HK.out), (xWI HB.out (IsS73.ge HI0.out))⟩)
                    · skip
                      refine xE1 (N := 7) (cs := #[.slice none 0 0, .int .i64 0]) (t := 42) (h := ?_)
                      intro gb269 hg w65 hbox hb
                      replace HO_241000 := am (Kd.R_below (xR HO_241000.out) hb)
                      replace HB := am (below_step (xWI HB.out (IsS73.ge HI0.out)) hb)
                      have BK269 := am (hbox)
                      have GW269 := am ((xKS hg HK.out))
                      have GE269 := am ((Nat.le_trans HW0.out (xKS hg HK.out)))
                      replace HK := am (xKB HK.out hb)
                      have NB231_269 := am (xN hg BK231.out)
                      have NB269_231 := am (xM hg BK231.out)
                      replace BK231 := am (blk_below (xB BK231.out) hb)
                      have NB240_269 := am (xN hg BK240.out)
                      have NB269_240 := am (xM hg BK240.out)
                      replace BK240 := am (blk_below (xB BK240.out) hb)
                      have NB0_269 := am ((xL hg (IsS73.lt (show IsS73 w0 _ g s0_0 t258 t259 from xH73 HI0.out))))
                      have NB269_0 := am ((xLM hg (IsS73.lt (show IsS73 w0 _ g s0_0 t258 t259 from xH73 HI0.out))))
                      replace HI0 := am (IsS73.below (xH73 HI0.out) hb)
                      clear hb hbox hg
                      refine hK.out _ _ (xC2 BK240.out) (fun hHeld => ?_)
                      clear hK K
                      refine xN1 (h := ?_)
                      refine one_ (i := 4) (N := some 51) #[true, true, true, true, true, false, false, false, false, false, true, false, false, false] rfl rfl (one_of HT_.out (by kernel_rfl)) (by decide) (fun K hK => ?_)
                      refine xG1 43 Try.func43 #[.pointer (some ⟨g, 0, none⟩)] (h := ?_)
                      with_reducible refine (spec_l03Val.calls g s0_0 t258 t259 t260 t261 t262 w0 _ ?side1 ?side2 A44.out).mono ?_
                      (case side1 => exact xH73 HI0.out)
                      (case side2 => exact xWI HB.out (IsS73.ge HI0.out))
                      rintro e w66 ⟨rfl, hi, hb, hk⟩
                      refine ⟨_, rfl, ?_⟩
                      replace HO_241000 := am (Kd.R_mono (Kd.R_keep (IsS73.apart (show IsS73 w0 _ g s0_0 t258 t259 from xH73 HI0.out) (xR HO_241000.out) (by decide)) hk (fun _ h => h.2)) (fun _ h => h.1))
                      replace BK231 := am (KeepBut.blk hk (g' := gb231) (o := .cells #[.slice none 0 0, .int .i64 0] 42 (0, 0)) (xB BK231.out) NB231_0.out (by simp))
                      replace BK240 := am (KeepBut.blk hk (g' := gb240) (o := .cells #[.slice Ao20 x241000_1.length co20, .int .i64 x241001_1] 42 (0, 0)) (xB BK240.out) NB240_0.out (by simp))
                      replace BK269 := am (KeepBut.blk hk (g' := gb269) (o := .cells #[.slice none 0 0, .int .i64 0] 42 (0, 0)) (xB BK269.out) NB269_0.out (by simp))
                      replace HK := am (KeepBut.trans (xK HK.out) hk (.inl rfl))
                      replace HB := am (hb)
                      replace HI0 := am (hi)
                      (try clear hb)
                      (try clear hk)
                      (try clear hi)
                      refine hK.out _ _ (xC2 BK240.out) (fun hHeld => ?_)
                      clear hK K
                      refine xN1 (h := ?_)
                      refine one_ (i := 5) (N := some 52) #[true, true, true, true, true, true, false, false, false, false, true, false, false, false] rfl rfl (one_of HT_.out (by kernel_rfl)) (by decide) (fun K hK => ?_)
                      refine xG1 69 Try.func69 #[.agg #[.slice Ao20 x241000_1.length co20, .int .i64 x241001_1], .string t257, .string t260] (h := ?_)
                      with_reducible refine (spec_Lay.calls kj14 _ _ x241000_1 x241001_1 t257 t260 t263 t266 t267 false _ ?side1 ?side2 A45.out).mono ?_
                      (case side1 => exact xC ((Kd.R_reads' HO_241000.out).2.2))
                      (case side2 => exact (Kd.R_reads' HO_241000.out).2.1)
                      rintro e w67 ⟨v264, rfl, ho0, hb⟩
                      refine ⟨_, rfl, ?_⟩
                      have HO265 := am (Kd.R_lower (Kd.R_new' ho0 (Kd.R_lt (xR HO_241000.out))) (xKZ HK.out))
                      replace HO_241000 := am (Kd.R_elder' (xR HO_241000.out) (Kd.R_base ho0) hb)
                      replace BK231 := am (blk_below (xB BK231.out) hb)
                      replace BK240 := am (blk_below (xB BK240.out) hb)
                      replace BK269 := am (blk_below (xB BK269.out) hb)
                      replace HK := am (xKB HK.out hb)
                      replace HB := am (below_step (xWI HB.out (IsS73.ge HI0.out)) hb)
                      replace HI0 := am (IsS73.below (xH73 HI0.out) hb)
                      (try clear hb)
                      (try clear ho0)
                      refine hK.out _ _ (xC2 BK240.out) (fun hHeld => ?_)
                      clear hK K
                      refine xN1 (h := ?_)
                      refine xP1 (i := 6) (N := some 46) #[true, true, true, true, true, true, true, false, false, false, true, false, false, false] (any_of HT_.out (by kernel_rfl)) (h := ?_)
                      refine xP1 (i := 7) (N := some 53) #[true, true, true, true, true, true, true, true, false, false, true, false, false, false] (any_of HT_.out (by kernel_rfl)) (h := ?_)
                      refine xP1 (i := 8) (N := some 54) #[true, true, true, true, true, true, true, true, true, false, true, false, false, false] (any_of HT_.out (by kernel_rfl)) (h := ?_)
                      refine xP1 (i := 9) (N := some 55) #[true, true, true, true, true, true, true, true, true, true, true, false, false, false] (any_of HT_.out (by kernel_rfl)) (h := ?_)
                      exact xN2 (hCont (v264, gb269) _ ⟨hHeld, (Kd.R_mono (xR HO265.out) (fun _ hk => hk.2)), (Kd.R_mono (xR HO_241000.out) (fun _ hk => hk.2)), (xB BK231.out), (xB BK240.out), (xB BK269.out), GW269.out, GE269.out, NB0_269.out, NB269_0.out, NB231_269.out, NB269_231.out, NB240_269.out, NB269_240.out, (xH73 HI0.out), (xK HK.out), (xWI HB.out (IsS73.ge HI0.out))⟩)
                  · skip
                    refine xE1 (N := 7) (cs := #[.slice none 0 0, .int .i64 0]) (t := 42) (h := ?_)
                    intro gb269 hg w64 hbox hb
                    replace HO_241000 := am (Kd.R_below (xR HO_241000.out) hb)
                    replace HB := am (below_step (xWI HB.out (IsS73.ge HI0.out)) hb)
                    have BK269 := am (hbox)
                    have GW269 := am ((xKS hg HK.out))
                    have GE269 := am ((Nat.le_trans HW0.out (xKS hg HK.out)))
                    replace HK := am (xKB HK.out hb)
                    have NB231_269 := am (xN hg BK231.out)
                    have NB269_231 := am (xM hg BK231.out)
                    replace BK231 := am (blk_below (xB BK231.out) hb)
                    have NB240_269 := am (xN hg BK240.out)
                    have NB269_240 := am (xM hg BK240.out)
                    replace BK240 := am (blk_below (xB BK240.out) hb)
                    have NB0_269 := am ((xL hg (IsS73.lt (show IsS73 w0 _ g s0_0 x1001_14 x1002_14 from xH73 HI0.out))))
                    have NB269_0 := am ((xLM hg (IsS73.lt (show IsS73 w0 _ g s0_0 x1001_14 x1002_14 from xH73 HI0.out))))
                    replace HI0 := am (IsS73.below (xH73 HI0.out) hb)
                    clear hb hbox hg
                    refine hK.out _ _ (xC2 BK240.out) (fun hHeld => ?_)
                    clear hK K
                    refine xN1 (h := ?_)
                    refine one_ (i := 2) (N := some 49) #[true, true, true, true, false, false, false, false, false, false, true, false, false, false] rfl rfl (one_of HT_.out (by kernel_rfl)) (by decide) (fun K hK => ?_)
                    refine xG1 30 Try.func30 #[.pointer (some ⟨g, 0, none⟩)] (h := ?_)
                    with_reducible refine (spec_l03Key.calls g s0_0 x1001_14 x1002_14 t257 t258 t259 w0 _ ?side1 ?side2 A43.out).mono ?_
                    (case side1 => exact xH73 HI0.out)
                    (case side2 => exact xWI HB.out (IsS73.ge HI0.out))
                    rintro e w65 ⟨rfl, hi, hb, hk⟩
                    refine ⟨_, rfl, ?_⟩
                    replace HO_241000 := am (Kd.R_mono (Kd.R_keep (IsS73.apart (show IsS73 w0 _ g s0_0 x1001_14 x1002_14 from xH73 HI0.out) (xR HO_241000.out) (by decide)) hk (fun _ h => h.2)) (fun _ h => h.1))
                    replace BK231 := am (KeepBut.blk hk (g' := gb231) (o := .cells #[.slice none 0 0, .int .i64 0] 42 (0, 0)) (xB BK231.out) NB231_0.out (by simp))
                    replace BK240 := am (KeepBut.blk hk (g' := gb240) (o := .cells #[.slice Ao20 x241000_1.length co20, .int .i64 x241001_1] 42 (0, 0)) (xB BK240.out) NB240_0.out (by simp))
                    replace BK269 := am (KeepBut.blk hk (g' := gb269) (o := .cells #[.slice none 0 0, .int .i64 0] 42 (0, 0)) (xB BK269.out) NB269_0.out (by simp))
                    replace HK := am (KeepBut.trans (xK HK.out) hk (.inl rfl))
                    replace HB := am (hb)
                    replace HI0 := am (hi)
                    (try clear hb)
                    (try clear hk)
                    (try clear hi)
                    refine hK.out _ _ (xC2 BK240.out) (fun hHeld => ?_)
                    clear hK K
                    refine xN1 (h := ?_)
                    refine one_ (i := 4) (N := some 51) #[true, true, true, true, true, false, false, false, false, false, true, false, false, false] rfl rfl (one_of HT_.out (by kernel_rfl)) (by decide) (fun K hK => ?_)
                    refine xG1 43 Try.func43 #[.pointer (some ⟨g, 0, none⟩)] (h := ?_)
                    with_reducible refine (spec_l03Val.calls g s0_0 t258 t259 t260 t261 t262 w0 _ ?side1 ?side2 A44.out).mono ?_
                    (case side1 => exact xH73 HI0.out)
                    (case side2 => exact xWI HB.out (IsS73.ge HI0.out))
                    rintro e w66 ⟨rfl, hi, hb, hk⟩
                    refine ⟨_, rfl, ?_⟩
                    replace HO_241000 := am (Kd.R_mono (Kd.R_keep (IsS73.apart (show IsS73 w0 _ g s0_0 t258 t259 from xH73 HI0.out) (xR HO_241000.out) (by decide)) hk (fun _ h => h.2)) (fun _ h => h.1))
                    replace BK231 := am (KeepBut.blk hk (g' := gb231) (o := .cells #[.slice none 0 0, .int .i64 0] 42 (0, 0)) (xB BK231.out) NB231_0.out (by simp))
                    replace BK240 := am (KeepBut.blk hk (g' := gb240) (o := .cells #[.slice Ao20 x241000_1.length co20, .int .i64 x241001_1] 42 (0, 0)) (xB BK240.out) NB240_0.out (by simp))
                    replace BK269 := am (KeepBut.blk hk (g' := gb269) (o := .cells #[.slice none 0 0, .int .i64 0] 42 (0, 0)) (xB BK269.out) NB269_0.out (by simp))
                    replace HK := am (KeepBut.trans (xK HK.out) hk (.inl rfl))
                    replace HB := am (hb)
                    replace HI0 := am (hi)
                    (try clear hb)
                    (try clear hk)
                    (try clear hi)
                    refine hK.out _ _ (xC2 BK240.out) (fun hHeld => ?_)
                    clear hK K
                    refine xN1 (h := ?_)
                    refine one_ (i := 5) (N := some 52) #[true, true, true, true, true, true, false, false, false, false, true, false, false, false] rfl rfl (one_of HT_.out (by kernel_rfl)) (by decide) (fun K hK => ?_)
                    refine xG1 69 Try.func69 #[.agg #[.slice Ao20 x241000_1.length co20, .int .i64 x241001_1], .string t257, .string t260] (h := ?_)
                    with_reducible refine (spec_Lay.calls kj14 _ _ x241000_1 x241001_1 t257 t260 t263 t266 t267 false _ ?side1 ?side2 A45.out).mono ?_
                    (case side1 => exact xC ((Kd.R_reads' HO_241000.out).2.2))
                    (case side2 => exact (Kd.R_reads' HO_241000.out).2.1)
                    rintro e w67 ⟨v264, rfl, ho0, hb⟩
                    refine ⟨_, rfl, ?_⟩
                    have HO265 := am (Kd.R_lower (Kd.R_new' ho0 (Kd.R_lt (xR HO_241000.out))) (xKZ HK.out))
                    replace HO_241000 := am (Kd.R_elder' (xR HO_241000.out) (Kd.R_base ho0) hb)
                    replace BK231 := am (blk_below (xB BK231.out) hb)
                    replace BK240 := am (blk_below (xB BK240.out) hb)
                    replace BK269 := am (blk_below (xB BK269.out) hb)
                    replace HK := am (xKB HK.out hb)
                    replace HB := am (below_step (xWI HB.out (IsS73.ge HI0.out)) hb)
                    replace HI0 := am (IsS73.below (xH73 HI0.out) hb)
                    (try clear hb)
                    (try clear ho0)
                    refine hK.out _ _ (xC2 BK240.out) (fun hHeld => ?_)
                    clear hK K
                    refine xN1 (h := ?_)
                    refine xP1 (i := 6) (N := some 46) #[true, true, true, true, true, true, true, false, false, false, true, false, false, false] (any_of HT_.out (by kernel_rfl)) (h := ?_)
                    refine xP1 (i := 7) (N := some 53) #[true, true, true, true, true, true, true, true, false, false, true, false, false, false] (any_of HT_.out (by kernel_rfl)) (h := ?_)
                    refine xP1 (i := 8) (N := some 54) #[true, true, true, true, true, true, true, true, true, false, true, false, false, false] (any_of HT_.out (by kernel_rfl)) (h := ?_)
                    refine xP1 (i := 9) (N := some 55) #[true, true, true, true, true, true, true, true, true, true, true, false, false, false] (any_of HT_.out (by kernel_rfl)) (h := ?_)
                    exact xN2 (hCont (v264, gb269) _ ⟨hHeld, (Kd.R_mono (xR HO265.out) (fun _ hk => hk.2)), (Kd.R_mono (xR HO_241000.out) (fun _ hk => hk.2)), (xB BK231.out), (xB BK240.out), (xB BK269.out), GW269.out, GE269.out, NB0_269.out, NB269_0.out, NB231_269.out, NB269_231.out, NB240_269.out, NB269_240.out, (xH73 HI0.out), (xK HK.out), (xWI HB.out (IsS73.ge HI0.out))⟩)
                rintro ⟨v264, gb269⟩ w68 ⟨hS_, h0_, h1_, h2_, h3_, h4_, h5_, h6_, h7_, h8_, h9_, h10_, h11_, h12_, h13_, h14_, h15_⟩
                have n0_ : Aside0 (Kd.R k50 50 w68 w.heap.size (fun k_ => some k_ ≠ (.slice Ao20 x241000_1.length co20 : Value).ownBlock) v264 t263) := ⟨h0_⟩
                have n1_ : Aside0 (Kd.R k50 50 w68 w.heap.size (fun k_ => some k_ ≠ (v264 : Value).ownBlock) (.slice Ao20 x241000_1.length co20) x241000_1) := ⟨h1_⟩
                have n2_ : Aside0 (w68.heap[gb231]? = some (.cells #[.slice none 0 0, .int .i64 0] 42 (0, 0))) := ⟨h2_⟩
                have n3_ : Aside0 (w68.heap[gb240]? = some (.cells #[.slice Ao20 x241000_1.length co20, .int .i64 x241001_1] 42 (0, 0))) := ⟨h3_⟩
                have n4_ : Aside0 (w68.heap[gb269]? = some (.cells #[.slice none 0 0, .int .i64 0] 42 (0, 0))) := ⟨h4_⟩
                have n5_ : Aside0 (w.heap.size ≤ gb269) := ⟨h5_⟩
                have n6_ : Aside0 (w0.heap.size ≤ gb269) := ⟨h6_⟩
                have n7_ : Aside0 (g ≠ gb269) := ⟨h7_⟩
                have n8_ : Aside0 (gb269 ≠ g) := ⟨h8_⟩
                have n9_ : Aside0 (gb231 ≠ gb269) := ⟨h9_⟩
                have n10_ : Aside0 (gb269 ≠ gb231) := ⟨h10_⟩
                have n11_ : Aside0 (gb240 ≠ gb269) := ⟨h11_⟩
                have n12_ : Aside0 (gb269 ≠ gb240) := ⟨h12_⟩
                have n13_ : Aside0 (IsS73 w0 w68 g s0_0 t261 t262) := ⟨h13_⟩
                have n14_ : Aside0 (KeepBut w w68 g none) := ⟨h14_⟩
                have n15_ : Aside0 (Below w0.heap.size w0 w68) := ⟨h15_⟩
                clear HO_241000
                clear BK231
                clear BK240
                clear HI0
                clear HK
                clear HB
                clear h0_ h1_ h2_ h3_ h4_ h5_ h6_ h7_ h8_ h9_ h10_ h11_ h12_ h13_ h14_ h15_
                have HO265 := n0_
                have HO_241000 := n1_
                have BK231 := n2_
                have BK240 := n3_
                have BK269 := n4_
                have GW269 := n5_
                have GE269 := n6_
                have NB0_269 := n7_
                have NB269_0 := n8_
                have NB231_269 := n9_
                have NB269_231 := n10_
                have NB240_269 := n11_
                have NB269_240 := n12_
                have HI0 := n13_
                have HK := n14_
                have HB := n15_
                clear n0_ n1_ n2_ n3_ n4_ n5_ n6_ n7_ n8_ n9_ n10_ n11_ n12_ n13_ n14_ n15_
                have hHeld : w68.cell? ⟨gb240, 0, none⟩ = some (.slice Ao20 x241000_1.length co20) ∧ w68.cell? ⟨gb240, 1, none⟩ = some (.int .i64 x241001_1) := hS_
                obtain ⟨Ao69, co69, eo69⟩ := Kd.R_slice HO265.out
                (first | subst eo69 | (injection eo69 with f1_ f2_ f3_; have f4_ := f1_.symm; have f5_ := f3_.symm; clear f1_ f2_ f3_; subst f4_; subst f5_))
                refine norm_ (a' := ?_) ?_ ?_
                rotate_left
                · simp only [putAll, Act.put, List.setIfInBounds_toArray, List.set_cons_zero, List.set_cons_succ]
                  rfl
                refine one_ (i := 11) (N := none) #[true, true, true, true, true, true, true, true, true, true, true, true, false, false] rfl rfl (one_of HT_.out (by kernel_rfl)) (by decide) (fun K hK => ?_)
                have hs70 : w68.cell? ⟨gb269, 0, none⟩ = some (.slice none 0 0) := (blk_cell BK269.out 0).trans rfl
                have hfs70 := blk_frozen BK269.out 0
                have hns70_0 := NB231_269.out
                have hns70_1 := NB240_269.out
                have hms70_0 := NB269_231.out
                have hms70_1 := NB269_240.out
                have hs71 : w68.cell? ⟨gb269, 1, none⟩ = some (.int .i64 0) := (blk_cell BK269.out 1).trans rfl
                have hfs71 := blk_frozen BK269.out 1
                have hns71_0 := NB231_269.out
                have hns71_1 := NB240_269.out
                have hms71_0 := NB269_231.out
                have hms71_1 := NB269_240.out
                refine skip_ (w1 := ?_) (by rfl) rfl ?_ ?_
                rotate_left
                · go_simp
                  rfl
                refine hK.out _ _ ⟨((cell_far (p := ⟨gb269, _, none⟩) NB240_269.out _).trans (((cell_far (p := ⟨gb269, _, none⟩) NB240_269.out _).trans (hHeld.1)))), ((cell_far (p := ⟨gb269, _, none⟩) NB240_269.out _).trans (((cell_far (p := ⟨gb269, _, none⟩) NB240_269.out _).trans (hHeld.2))))⟩ (fun hHeld => ?_)
                clear hK K
                refine xP1 (i := 12) (N := some 8) #[true, true, true, true, true, true, true, true, true, true, true, true, true, false] (any_of HT_.out (by kernel_rfl)) (h := ?_)
                refine xP1 (i := 13) (N := some 9) #[true, true, true, true, true, true, true, true, true, true, true, true, true, true] (any_of HT_.out (by kernel_rfl)) (h := ?_)
                refine done_ (done_of HT_.out (by kernel_rfl)) ?_
                try go_wp2
                go_roundg kj14
                case measure => have := HK1.out; have := HJ14.out; omega
                case rel => exact ⟨(wrap64 (x5_1 + 1)), (t261), (t262), (x241000_1), (x241001_1), (.slice Ao20 x241000_1.length co20), (xQ), H', ⟨by have := HK1.out; have := HJ14.out; omega⟩, ⟨by (with_reducible repeat (first | apply Kd.R_alloc | apply Kd.R_drewN | apply Kd.R_drew)); exact Kd.R_mono (Kd.R_far (p := ⟨gb269, 1, none⟩) (Kd.R_far (p := ⟨gb269, 0, none⟩) (Kd.R_types HO_241000.out BK269.out (by decide)) (fun _ hk => hk.2) (.slice Ao69 t263.length co69)) (fun _ hk => hk.2) (.int .i64 t266)) (fun _ hk => trivial)⟩, ⟨xB BK231.out⟩, ⟨xB BK240.out⟩, ⟨xH73 HI0.out⟩, ⟨xK HK.out⟩, ⟨xWI HB.out (IsS73.ge HI0.out)⟩⟩
      · rw [if_neg c13] at H
        have c13b0 : decide (x5_1 < t241) = false := decide_eq_false c13
        clear c13
        replace H := Option.bind_eq_some_iff.mp H
        obtain ⟨⟨t270, t271, t272⟩, A720, H⟩ := H
        try dsimp only at H
        have A72 := am A720
        clear A720
        by_cases c73 : t270 = true
        · subst c73
          have H1 : ((spec_l03Copy.f x241000_1 x241001_1).bind fun bt273 => ((spec_l01Below.f s0_0 t271 t272 (bt273.1.length : Int)).bind fun bt277 => (if 0 ≤ bt277.1 then (if bt277.1 < (bt273.1.length : Int) then (some ((bt273.1.set (bt277.1 : Int).toNat (⟨41666665, (rd_T50 bt273.1 bt277.1).f1, (rd_T50 bt273.1 bt277.1).f2, (rd_T50 bt273.1 bt277.1).f3, (rd_T50 bt273.1 bt277.1).f4⟩ : S50)), bt273.2, bt277.2.1, bt277.2.2)) else (none)) else (none)))) = some (r1, r2, r3, r4) := by rw [if_pos rfl] at H; exact H
          clear H
          have H := H1
          clear H1
          replace H := Option.bind_eq_some_iff.mp H
          obtain ⟨⟨t273, t276⟩, A740, H⟩ := H
          try dsimp only at H
          have A74 := am A740
          clear A740
          replace H := Option.bind_eq_some_iff.mp H
          obtain ⟨⟨t277, t278, t279⟩, A750, H⟩ := H
          try dsimp only at H
          have A75 := am A750
          clear A750
          by_cases c76 : 0 ≤ t277
          · rw [if_pos c76] at H
            have c76b0 : decide (0 ≤ t277) = true := decide_eq_true c76
            clear c76
            by_cases c77 : t277 < (t273.length : Int)
            · rw [if_pos c77] at H
              have c77b0 : decide (t277 < (t273.length : Int)) = true := decide_eq_true c77
              clear c77
              obtain ⟨y280, hy280⟩ : ∃ y_ : List (S50), y_ = (t273.set (t277 : Int).toNat (⟨41666665, (rd_T50 t273 t277).f1, (rd_T50 t273 t277).f2, (rd_T50 t273 t277).f3, (rd_T50 t273 t277).f4⟩ : S50)) := ⟨_, rfl⟩
              replace H : (some (y280, t276, t278, t279)) = some (r1, r2, r3, r4) := by first | (rw [hy280]; with_reducible exact H) | (have H2_ := (Option.bind_some _ _).symm.trans H; rw [hy280]; with_reducible exact H2_) | (have H2_ := (Option.bind_some _ _).symm.trans H; with_reducible exact H2_) | with_reducible exact H | (rw [hy280]; exact H) | exact H
              have Ny280 := am hy280
              clear hy280
              simp only [Option.some.injEq, Prod.mk.injEq] at H
              obtain ⟨rfl, rfl, rfl, rfl⟩ := H
              try go_wp2_with (first | ((with_reducible refine gate_callee (f := 54) rfl ?_); refine xG (some 19) 54 Try.func54 #[.pointer (some ⟨g, 0, none⟩), .int .i64 24] (h := ?_); (with_reducible refine (spec_l01Below.calls g s0_0 x1001_1 x1002_1 24 t241 t242 t243 w0 _ ?side1 ?side2 A12.out).mono ?_); (case side1 => exact xH73 HI0.out); (case side2 => exact xWI HB.out (IsS73.ge HI0.out)); rintro e w79 ⟨rfl, hi, hb, hk⟩; refine ⟨_, rfl, ?_⟩; replace HO_241000 := am (Kd.R_mono (Kd.R_keep (IsS73.apart (show IsS73 w0 _ g s0_0 x1001_1 x1002_1 from xH73 HI0.out) (xR HO_241000.out) (by decide)) hk (fun _ h => h.2)) (fun _ h => h.1)); replace BK231 := am (KeepBut.blk hk (g' := gb231) (o := .cells #[.slice none 0 0, .int .i64 0] 42 (0, 0)) (xB BK231.out) NB231_0.out (by simp)); replace BK240 := am (KeepBut.blk hk (g' := gb240) (o := .cells #[u241000, .int .i64 x241001_1] 42 (0, 0)) (xB BK240.out) NB240_0.out (by simp)); replace HK := am (KeepBut.trans (xK HK.out) hk (.inl rfl)); replace HB := am (hb); replace HI0 := am (hi); (try clear hb); (try clear hk); (try clear hi)) | ((with_reducible refine gate_callee (f := 56) rfl ?_); refine xG (some 59) 56 Try.func56 #[.pointer (some ⟨g, 0, none⟩), .int .i64 12] (h := ?_); (with_reducible refine (spec_l01Once.calls g s0_0 t242 t243 12 true t271 t272 w0 _ ?side1 ?side2 A72.out).mono ?_); (case side1 => exact xH73 HI0.out); (case side2 => exact xWI HB.out (IsS73.ge HI0.out)); rintro e w80 ⟨rfl, hi, hb, hk⟩; refine ⟨_, rfl, ?_⟩; replace HO_241000 := am (Kd.R_mono (Kd.R_keep (IsS73.apart (show IsS73 w0 _ g s0_0 t242 t243 from xH73 HI0.out) (xR HO_241000.out) (by decide)) hk (fun _ h => h.2)) (fun _ h => h.1)); replace BK231 := am (KeepBut.blk hk (g' := gb231) (o := .cells #[.slice none 0 0, .int .i64 0] 42 (0, 0)) (xB BK231.out) NB231_0.out (by simp)); replace BK240 := am (KeepBut.blk hk (g' := gb240) (o := .cells #[u241000, .int .i64 x241001_1] 42 (0, 0)) (xB BK240.out) NB240_0.out (by simp)); replace HK := am (KeepBut.trans (xK HK.out) hk (.inl rfl)); replace HB := am (hb); replace HI0 := am (hi); (try clear hb); (try clear hk); (try clear hi); have hnb81 := NB240_231.out; have hnc81 := NB231_240.out; have hnb82 := NB240_0.out; have hnc82 := NB0_240.out; obtain ⟨hcz83_0, hcz83_1, hfz83_0, hfz83_1⟩ := xT2 (W := w80) BK240.out; obtain ⟨Ao84, co84, eo84⟩ := Kd.R_slice HO_241000.out; subst eo84) | ((with_reducible refine gate_callee (f := 48) rfl ?_); refine xG (some 61) 48 Try.func48 #[.agg #[.slice Ao84 x241000_1.length co84, .int .i64 x241001_1]] (h := ?_); (with_reducible refine (spec_l03Copy.calls _ _ x241000_1 x241001_1 t273 t276 _ ?side1 ?side2 A74.out).mono ?_); (case side1 => exact xC ((Kd.R_reads' HO_241000.out).2.2)); (case side2 => exact (Kd.R_reads' HO_241000.out).2.1); rintro e w85 ⟨v274, rfl, ho0, hb⟩; refine ⟨_, rfl, ?_⟩; have HO275 := am (Kd.R_lower (Kd.R_new' ho0 (Kd.R_lt (xR HO_241000.out))) (xKZ HK.out)); replace HO_241000 := am (Kd.R_elder' (xR HO_241000.out) (Kd.R_base ho0) hb); replace BK231 := am (blk_below (xB BK231.out) hb); replace BK240 := am (blk_below (xB BK240.out) hb); replace HK := am (xKB HK.out hb); replace HB := am (below_step (xWI HB.out (IsS73.ge HI0.out)) hb); replace HI0 := am (IsS73.below (xH73 HI0.out) hb); (try clear hb); (try clear ho0); obtain ⟨Ao86, co86, eo86⟩ := Kd.R_slice HO275.out; subst eo86; obtain ⟨hcz87_0, hcz87_1, hfz87_0, hfz87_1⟩ := xT2 (W := w85) BK240.out))
              have n0_ : Aside0 (Kd.R k50 50 ((w85.setCell ⟨gb240, 0, none⟩ (.slice Ao86 t273.length co86)).setCell ⟨gb240, 1, none⟩ (.int .i64 t276)) w.heap.size (fun k_ => some k_ ≠ (.slice Ao86 t273.length co86 : Value).ownBlock) (.slice Ao84 x241000_1.length co84) x241000_1) := ⟨Kd.R_mono (xR HO_241000.out) (fun _ hk => hk.2)⟩
              have n1_ : Aside0 (Kd.R k50 50 ((w85.setCell ⟨gb240, 0, none⟩ (.slice Ao86 t273.length co86)).setCell ⟨gb240, 1, none⟩ (.int .i64 t276)) w.heap.size (fun k_ => some k_ ≠ (.slice Ao84 x241000_1.length co84 : Value).ownBlock) (.slice Ao86 t273.length co86) t273) := ⟨Kd.R_mono (xR HO275.out) (fun _ hk => hk.2)⟩
              have n2_ : Aside0 (((w85.setCell ⟨gb240, 0, none⟩ (.slice Ao86 t273.length co86)).setCell ⟨gb240, 1, none⟩ (.int .i64 t276)).heap[gb231]? = some (.cells #[.slice none 0 0, .int .i64 0] 42 (0, 0))) := ⟨xB BK231.out⟩
              have n3_ : Aside0 (((w85.setCell ⟨gb240, 0, none⟩ (.slice Ao86 t273.length co86)).setCell ⟨gb240, 1, none⟩ (.int .i64 t276)).heap[gb240]? = some (.cells #[.slice Ao86 t273.length co86, .int .i64 t276] 42 (0, 0))) := ⟨xP BK240.out⟩
              have n4_ : Aside0 (IsS73 w0 ((w85.setCell ⟨gb240, 0, none⟩ (.slice Ao86 t273.length co86)).setCell ⟨gb240, 1, none⟩ (.int .i64 t276)) g s0_0 t271 t272) := ⟨xH73 HI0.out⟩
              have n5_ : Aside0 (KeepBut w ((w85.setCell ⟨gb240, 0, none⟩ (.slice Ao86 t273.length co86)).setCell ⟨gb240, 1, none⟩ (.int .i64 t276)) g none) := ⟨xK HK.out⟩
              have n6_ : Aside0 (Below w0.heap.size w0 ((w85.setCell ⟨gb240, 0, none⟩ (.slice Ao86 t273.length co86)).setCell ⟨gb240, 1, none⟩ (.int .i64 t276))) := ⟨xWI HB.out (IsS73.ge HI0.out)⟩
              (try clear HO_241000)
              (try clear HO275)
              (try clear BK231)
              (try clear BK240)
              (try clear HI0)
              (try clear HK)
              (try clear HB)
              generalize ((w85.setCell ⟨gb240, 0, none⟩ (.slice Ao86 t273.length co86)).setCell ⟨gb240, 1, none⟩ (.int .i64 t276)) = w88 at n0_ n1_ n2_ n3_ n4_ n5_ n6_ ⊢
              have HO_241000 := n0_
              have HO275 := n1_
              have BK231 := n2_
              have BK240 := n3_
              have HI0 := n4_
              have HK := n5_
              have HB := n6_
              clear n0_ n1_ n2_ n3_ n4_ n5_ n6_
              replace HO_241000 := am (Kd.R_drew HO_241000.out)
              replace HO275 := am (Kd.R_drew HO275.out)
              replace BK231 := am (blk_drew BK231.out)
              replace BK240 := am (blk_drew BK240.out)
              replace HI0 := am (IsS73.drew HI0.out)
              replace HK := am (keep_drew HK.out)
              replace HB := am (below_drew1 HB.out)
              refine start_ (n := 10) (S := fun w' => w'.cell? ⟨gb240, 0, none⟩ = some (.slice Ao86 t273.length co86) ∧ w'.cell? ⟨gb240, 1, none⟩ = some (.int .i64 t276)) (ds := [9]) #[false, false, false, false, false, false, false, false, false, false] (by kernel_rfl) rfl rfl (xC2 BK240.out) (fun hHeld => ?_); refine with_tabW spec_l03Arena.tab13 spec_l03Arena.bits13 (fun HT_ HW_ => ?_)
              generalize w88.drew = w89 at HO_241000 HO275 BK231 BK240 HI0 HK HB hHeld ⊢
              refine xP1 (i := 0) (N := some 62) #[true, false, false, false, false, false, false, false, false, false] (any_of HT_.out (by kernel_rfl)) (h := ?_)
              refine xP1 (i := 2) (N := some 64) #[true, false, true, false, false, false, false, false, false, false] (any_of HT_.out (by kernel_rfl)) (h := ?_)
              refine xP1 (i := 3) (N := some 65) #[true, false, true, true, false, false, false, false, false, false] (any_of HT_.out (by kernel_rfl)) (h := ?_)
              refine take_ (i := 1) (N := some 63) (v := ?_) (a' := ?_) #[true, true, true, true, false, false, false, false, false, false] rfl rfl (take_ofW HT_.out HW_.out (by kernel_rfl)) (fun _ _ _ h => h) (Or.inl ⟨by rfl, ?_⟩) hHeld ?_ ?_
              rotate_left
              · rintro w' ⟨s0, s1⟩
                go_simp
                with_reducible rfl
              rotate_left
              · simp only [Act.put, List.setIfInBounds_toArray, List.set_cons_zero, List.set_cons_succ, i64_w, i32_w]
                rfl
              refine take_ (i := 4) (N := some 66) (v := ?_) (a' := ?_) #[true, true, true, true, true, false, false, false, false, false] rfl rfl (take_ofW HT_.out HW_.out (by kernel_rfl)) (fun _ _ _ h => h) (Or.inl ⟨by rfl, ?_⟩) hHeld ?_ ?_
              rotate_left
              · rintro w' ⟨s0, s1⟩
                go_simp
                with_reducible rfl
              rotate_left
              · simp only [Act.put, List.setIfInBounds_toArray, List.set_cons_zero, List.set_cons_succ, i64_w, i32_w]
                rfl
              refine xP1 (i := 5) (N := some 67) #[true, true, true, true, true, true, false, false, false, false] (any_of HT_.out (by kernel_rfl)) (h := ?_)
              refine one_ (i := 6) (N := some 68) #[true, true, true, true, true, true, true, false, false, false] rfl rfl (one_of HT_.out (by kernel_rfl)) (by decide) (fun K hK => ?_)
              refine xG1 54 Try.func54 #[.pointer (some ⟨g, 0, none⟩), .int .i64 (t273.length : Int)] (h := ?_)
              with_reducible refine (spec_l01Below.calls g s0_0 t271 t272 (t273.length : Int) t277 t278 t279 w0 _ ?side1 ?side2 A75.out).mono ?_
              (case side1 => exact xH73 HI0.out)
              (case side2 => exact xWI HB.out (IsS73.ge HI0.out))
              rintro e w90 ⟨rfl, hi, hb, hk⟩
              refine ⟨_, rfl, ?_⟩
              replace HO_241000 := am (Kd.R_mono (Kd.R_keep (IsS73.apart (show IsS73 w0 _ g s0_0 t271 t272 from xH73 HI0.out) (xR HO_241000.out) (by decide)) hk (fun _ h => h.2)) (fun _ h => h.1))
              replace BK231 := am (KeepBut.blk hk (g' := gb231) (o := .cells #[.slice none 0 0, .int .i64 0] 42 (0, 0)) (xB BK231.out) NB231_0.out (by simp))
              replace BK240 := am (KeepBut.blk hk (g' := gb240) (o := .cells #[.slice Ao86 t273.length co86, .int .i64 t276] 42 (0, 0)) (xB BK240.out) NB240_0.out (by simp))
              replace HO275 := am (Kd.R_mono (Kd.R_keep (IsS73.apart (show IsS73 w0 _ g s0_0 t271 t272 from xH73 HI0.out) (xR HO275.out) (by decide)) hk (fun _ h => h.2)) (fun _ h => h.1))
              replace HK := am (KeepBut.trans (xK HK.out) hk (.inl rfl))
              replace HB := am (hb)
              replace HI0 := am (hi)
              (try clear hb)
              (try clear hk)
              (try clear hi)
              have p78 : 0 ≤ (t277 : Int) := of_decide_eq_true (by assumption)
              have q78 : (t277 : Int) < ((t273.length : Int) : Int) := of_decide_eq_true (by assumption)
              obtain ⟨go78, co78, eo78, gb78, gl78, cl78, HG78⟩ := Kd.R_form HO275.out (by omega)
              (first | cases eo78 | (injection eo78 with ea_ en_ ec_; (first | subst ea_ | (injection ea_ with ea_; subst ea_)); subst ec_; clear en_))
              have GB78 := am gb78
              have GG78 := am HG78
              clear gb78 gl78 HG78
              obtain ⟨ce78, hcl78, hM78, hcc78, hfr78⟩ := Kd.R_elem HO275.out z50 (t277 : Int) p78 q78
              obtain rfl := k50_openM hM78
              have hx78_0 : World.cell? _ ⟨go78, (t277 : Int).toNat * 5, none⟩ = some (.int .i64 ((rd_T50 t273 t277).f0)) := hcc78 0 _ rfl
              have hx78_1 : World.cell? _ ⟨go78, (t277 : Int).toNat * 5 + 1, none⟩ = some (.bool ((rd_T50 t273 t277).f1)) := hcc78 1 _ rfl
              have hx78_2 : World.cell? _ ⟨go78, (t277 : Int).toNat * 5 + 2, none⟩ = some (.string ((rd_T50 t273 t277).f2)) := hcc78 2 _ rfl
              have hx78_3 : World.cell? _ ⟨go78, (t277 : Int).toNat * 5 + 3, none⟩ = some (.string ((rd_T50 t273 t277).f3)) := hcc78 3 _ rfl
              have hx78_4 : World.cell? _ ⟨go78, (t277 : Int).toNat * 5 + 4, none⟩ = some (.int .i64 ((rd_T50 t273 t277).f4)) := hcc78 4 _ rfl
              have hf78_0 : World.frozen? _ ⟨go78, (t277 : Int).toNat * 5, none⟩ = false := hfr78 0
              have hf78_1 : World.frozen? _ ⟨go78, (t277 : Int).toNat * 5 + 1, none⟩ = false := hfr78 1
              have hf78_2 : World.frozen? _ ⟨go78, (t277 : Int).toNat * 5 + 2, none⟩ = false := hfr78 2
              have hf78_3 : World.frozen? _ ⟨go78, (t277 : Int).toNat * 5 + 3, none⟩ = false := hfr78 3
              have hf78_4 : World.frozen? _ ⟨go78, (t277 : Int).toNat * 5 + 4, none⟩ = false := hfr78 4
              clear hcl78 hcc78 hfr78 hM78
              replace p78 := eq_true p78
              replace q78 := eq_true q78
              have HN0_go78 := am (show g ≠ go78 from by have h_ := IsS73.own_ne HI0.out HO275.out (by decide); intro e_; exact h_ (by rw [e_]; rfl))
              obtain ⟨ce91, hcl91, hM91, hcc91, hfr91⟩ := Kd.R_elem HO275.out z50 (t277 : Int) (of_decide_eq_true (by assumption)) (by have h_ : (t277 : Int) < ((t273.length : Int) : Int) := of_decide_eq_true (by assumption); first | exact h_ | (have e_ := (Kd.R_reads' HO275.out).1; omega) | simpa using h_)
              obtain rfl := k50_openM hM91
              have HP91 := (Kd.R_seg HO275.out (t277 : Int) (of_decide_eq_true (by assumption)) (by have h_ : (t277 : Int) < ((t273.length : Int) : Int) := of_decide_eq_true (by assumption); first | exact h_ | (have e_ := (Kd.R_reads' HO275.out).1; omega) | simpa using h_) (seg := [.int .i64 41666665]) (j := 0) hcl91 hcc91 (show 1 ≤ 5 from by decide) (x' := (⟨41666665, (rd_T50 t273 t277).f1, (rd_T50 t273 t277).f2, (rd_T50 t273 t277).f3, (rd_T50 t273 t277).f4⟩ : S50)) (k50_mkM _ _ _ (⟨41666665, (rd_T50 t273 t277).f1, (rd_T50 t273 t277).f2, (rd_T50 t273 t277).f3, (rd_T50 t273 t277).f4⟩ : S50) ) (fun _ hk => hk)).1
              rw [← Ny280.out] at HP91
              have HQ91 := am HP91
              clear hcl91 hcc91 hfr91 hM91 HP91
              refine hK.out _ _ (xC2 BK240.out) (fun hHeld => ?_)
              clear hK K
              refine xN1 (h := ?_)
              refine xP1 (i := 7) (N := some 69) #[true, true, true, true, true, true, true, true, false, false] (any_of HT_.out (by kernel_rfl)) (h := ?_)
              refine xP1 (i := 8) (N := some 70) #[true, true, true, true, true, true, true, true, true, false] (any_of HT_.out (by kernel_rfl)) (h := ?_)
              refine last_ (i := 9) (N := none) #[true, true, true, true, true, true, true, true, true, true] rfl rfl (one_of HT_.out (by kernel_rfl)) (by decide) (fun K hK => ?_)
              refine skip_ (w1 := ?_) (by rfl) rfl ?_ ?_
              rotate_left
              · go_simp
                rfl
              refine hK.out _ _ ?_
              clear hK K
              refine done_ (done_of HT_.out (by kernel_rfl)) ?_
              have n0_ : Aside0 (Kd.R k50 50 (w90.setCell ⟨go78, (t277 : Int).toNat * 5, none⟩ (.int .i64 41666665)) w.heap.size (fun k_ => some k_ ≠ (.slice (some ⟨go78, 0, none⟩) t273.length co86 : Value).ownBlock) (.slice Ao84 x241000_1.length co84) x241000_1) := ⟨by (with_reducible repeat (first | apply Kd.R_alloc | apply Kd.R_drewN | apply Kd.R_drew)); exact Kd.R_mono (Kd.R_far (p := ⟨go78, (t277 : Int).toNat * 5, none⟩) (Kd.R_mono HO_241000.out (fun k_ hk => (⟨hk, fun e_ => hk (by rw [e_]; rfl)⟩ : _ ∧ k_ ≠ go78))) (fun _ hk => hk.2) (.int .i64 41666665)) (fun _ hk => hk.1)⟩
              have n1_ : Aside0 (Kd.R k50 50 (w90.setCell ⟨go78, (t277 : Int).toNat * 5, none⟩ (.int .i64 41666665)) w.heap.size (fun k_ => some k_ ≠ (.slice Ao84 x241000_1.length co84 : Value).ownBlock) (.slice (some ⟨go78, 0, none⟩) t273.length co86) y280) := ⟨xR HQ91.out⟩
              have n2_ : Aside0 ((w90.setCell ⟨go78, (t277 : Int).toNat * 5, none⟩ (.int .i64 41666665)).heap[gb231]? = some (.cells #[.slice none 0 0, .int .i64 0] 42 (0, 0))) := ⟨by (with_reducible repeat (first | refine blk_drewN ?_ _ | refine blk_drew ?_ | refine blk_alloc ?_ _)); refine blk_far ?_ (by have h_ := Kd.R_ne HO275.out BK231.out (by decide); intro e_; exact h_ (by rw [e_]; rfl)) _; (with_reducible repeat (first | refine blk_drewN ?_ _ | refine blk_drew ?_ | refine blk_alloc ?_ _)); exact BK231.out⟩
              have n3_ : Aside0 ((w90.setCell ⟨go78, (t277 : Int).toNat * 5, none⟩ (.int .i64 41666665)).heap[gb240]? = some (.cells #[.slice (some ⟨go78, 0, none⟩) t273.length co86, .int .i64 t276] 42 (0, 0))) := ⟨by (with_reducible repeat (first | refine blk_drewN ?_ _ | refine blk_drew ?_ | refine blk_alloc ?_ _)); refine blk_far ?_ (by have h_ := Kd.R_ne HO275.out BK240.out (by decide); intro e_; exact h_ (by rw [e_]; rfl)) _; (with_reducible repeat (first | refine blk_drewN ?_ _ | refine blk_drew ?_ | refine blk_alloc ?_ _)); exact BK240.out⟩
              have n4_ : Aside0 (IsS73 w0 (w90.setCell ⟨go78, (t277 : Int).toNat * 5, none⟩ (.int .i64 41666665)) g s0_0 t278 t279) := ⟨xH73 HI0.out⟩
              have n5_ : Aside0 (KeepBut w (w90.setCell ⟨go78, (t277 : Int).toNat * 5, none⟩ (.int .i64 41666665)) g none) := ⟨xK HK.out⟩
              have n6_ : Aside0 (Below w0.heap.size w0 (w90.setCell ⟨go78, (t277 : Int).toNat * 5, none⟩ (.int .i64 41666665))) := ⟨by repeat (first | (with_reducible first | exact HB.out | apply below_alloc | apply pw_below_drewN | apply below_drew1 | refine below_set ?_ (Nat.le_trans HL.out GB78.out) | refine below_set ?_ (IsS73.ge HI0.out) | refine below_set ?_ GE231.out | refine below_set ?_ GE240.out) | exact HB.out)⟩
              (try clear HO_241000)
              (try clear HO275)
              (try clear BK231)
              (try clear BK240)
              (try clear HI0)
              (try clear HK)
              (try clear HB)
              generalize (w90.setCell ⟨go78, (t277 : Int).toNat * 5, none⟩ (.int .i64 41666665)) = w92 at n0_ n1_ n2_ n3_ n4_ n5_ n6_ ⊢
              have HO_241000 := n0_
              have HO275 := n1_
              have BK231 := n2_
              have BK240 := n3_
              have HI0 := n4_
              have HK := n5_
              have HB := n6_
              clear n0_ n1_ n2_ n3_ n4_ n5_ n6_
              obtain ⟨hcz93_0, hcz93_1, hfz93_0, hfz93_1⟩ := xT2 (W := w92) BK240.out
              have hnb94 := NB231_0.out
              have hnc94 := NB0_231.out
              obtain ⟨hcz95_0, hcz95_1, hfz95_0, hfz95_1⟩ := xT2 (W := w92) BK231.out
              try go_wp2
              refine bodyPost_ret (results_cell_row rfl _ _ gb231 42 #[.slice (some ⟨go78, 0, none⟩) t273.length co86, .int .i64 t276] (0, 0) _ rfl (xP BK231.out) Try.underlying42 rfl (by kernel_rfl)) rfl ?_
              exact ⟨_, xV, by (with_reducible repeat (first | apply Kd.R_alloc | apply Kd.R_drewN | apply Kd.R_drew)); exact Kd.R_mono (Kd.R_far (p := ⟨gb231, 1, none⟩) (Kd.R_far (p := ⟨gb231, 0, none⟩) (Kd.R_types HO275.out BK231.out (by decide)) (fun _ hk => hk.2) (.slice (some ⟨go78, 0, none⟩) t273.length co86)) (fun _ hk => hk.2) (.int .i64 t276)) (fun _ hk => trivial), xH73 HI0.out, xWI HB.out (IsS73.ge HI0.out), xK HK.out⟩
            · rw [if_neg c77] at H
              exact absurd H (by simp)
          · rw [if_neg c76] at H
            exact absurd H (by simp)
        · replace c73 := Bool.eq_false_iff.mpr c73
          subst c73
          have H1 : (some (x241000_1, x241001_1, t271, t272)) = some (r1, r2, r3, r4) := by rw [if_neg (show ¬ (false = true) by decide)] at H; exact H
          clear H
          have H := H1
          clear H1
          simp only [Option.some.injEq, Prod.mk.injEq] at H
          obtain ⟨rfl, rfl, rfl, rfl⟩ := H
          go_wp2_with (first | ((with_reducible refine gate_callee (f := 54) rfl ?_); refine xG (some 19) 54 Try.func54 #[.pointer (some ⟨g, 0, none⟩), .int .i64 24] (h := ?_); (with_reducible refine (spec_l01Below.calls g s0_0 x1001_1 x1002_1 24 t241 t242 t243 w0 _ ?side1 ?side2 A12.out).mono ?_); (case side1 => exact xH73 HI0.out); (case side2 => exact xWI HB.out (IsS73.ge HI0.out)); rintro e w96 ⟨rfl, hi, hb, hk⟩; refine ⟨_, rfl, ?_⟩; replace HO_241000 := am (Kd.R_mono (Kd.R_keep (IsS73.apart (show IsS73 w0 _ g s0_0 x1001_1 x1002_1 from xH73 HI0.out) (xR HO_241000.out) (by decide)) hk (fun _ h => h.2)) (fun _ h => h.1)); replace BK231 := am (KeepBut.blk hk (g' := gb231) (o := .cells #[.slice none 0 0, .int .i64 0] 42 (0, 0)) (xB BK231.out) NB231_0.out (by simp)); replace BK240 := am (KeepBut.blk hk (g' := gb240) (o := .cells #[u241000, .int .i64 x241001_1] 42 (0, 0)) (xB BK240.out) NB240_0.out (by simp)); replace HK := am (KeepBut.trans (xK HK.out) hk (.inl rfl)); replace HB := am (hb); replace HI0 := am (hi); (try clear hb); (try clear hk); (try clear hi)) | ((with_reducible refine gate_callee (f := 56) rfl ?_); refine xG (some 59) 56 Try.func56 #[.pointer (some ⟨g, 0, none⟩), .int .i64 12] (h := ?_); (with_reducible refine (spec_l01Once.calls g s0_0 t242 t243 12 false t271 t272 w0 _ ?side1 ?side2 A72.out).mono ?_); (case side1 => exact xH73 HI0.out); (case side2 => exact xWI HB.out (IsS73.ge HI0.out)); rintro e w97 ⟨rfl, hi, hb, hk⟩; refine ⟨_, rfl, ?_⟩; replace HO_241000 := am (Kd.R_mono (Kd.R_keep (IsS73.apart (show IsS73 w0 _ g s0_0 t242 t243 from xH73 HI0.out) (xR HO_241000.out) (by decide)) hk (fun _ h => h.2)) (fun _ h => h.1)); replace BK231 := am (KeepBut.blk hk (g' := gb231) (o := .cells #[.slice none 0 0, .int .i64 0] 42 (0, 0)) (xB BK231.out) NB231_0.out (by simp)); replace BK240 := am (KeepBut.blk hk (g' := gb240) (o := .cells #[u241000, .int .i64 x241001_1] 42 (0, 0)) (xB BK240.out) NB240_0.out (by simp)); replace HK := am (KeepBut.trans (xK HK.out) hk (.inl rfl)); replace HB := am (hb); replace HI0 := am (hi); (try clear hb); (try clear hk); (try clear hi); have hnb98 := NB240_231.out; have hnc98 := NB231_240.out; have hnb99 := NB240_0.out; have hnc99 := NB0_240.out; obtain ⟨hcz100_0, hcz100_1, hfz100_0, hfz100_1⟩ := xT2 (W := w97) BK240.out; obtain ⟨Ao101, co101, eo101⟩ := Kd.R_slice HO_241000.out; subst eo101; have hnb102 := NB231_0.out; have hnc102 := NB0_231.out; obtain ⟨hcz103_0, hcz103_1, hfz103_0, hfz103_1⟩ := xT2 (W := w97) BK231.out))
          refine bodyPost_ret (results_cell_row rfl _ _ gb231 42 #[.slice Ao101 x241000_1.length co101, .int .i64 x241001_1] (0, 0) _ rfl (xP BK231.out) Try.underlying42 rfl (by kernel_rfl)) rfl ?_
          exact ⟨_, xV, by (with_reducible repeat (first | apply Kd.R_alloc | apply Kd.R_drewN | apply Kd.R_drew)); exact Kd.R_mono (Kd.R_far (p := ⟨gb231, 1, none⟩) (Kd.R_far (p := ⟨gb231, 0, none⟩) (Kd.R_types HO_241000.out BK231.out (by decide)) (fun _ hk => hk.2) (.slice Ao101 x241000_1.length co101)) (fun _ hk => hk.2) (.int .i64 x241001_1)) (fun _ hk => trivial), xH73 HI0.out, xWI HB.out (IsS73.ge HI0.out), xK HK.out⟩

end Go.Proofs.Ytomcapflpephmaa.HFnHandles
