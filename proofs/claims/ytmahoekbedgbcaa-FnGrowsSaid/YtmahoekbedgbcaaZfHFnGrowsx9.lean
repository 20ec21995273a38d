/- What the row of the law needs of the printed and the plain texts. -/
import Derived.Test.YtmahoekbedgbcaaZfHX
import Derived.Test.YtmahoekbedgbcaaZfHFnGrowsx0
import Derived.Test.YtmahoekbedgbcaaZfHFnGrowsx2
import Derived.Test.YtmahoekbedgbcaaZfHFnGrowsx5
import Derived.Test.YtmahoekbedgbcaaZfHFnGrowsx6
import Derived.Test.YtmahoekbedgbcaaZfHFnGrowsx7
import Derived.Test.YtmahoekbedgbcaaZfHFnGrowsx8
namespace Go.Proofs.Ytmahoekbedgbcaa.HFnGrows
open Go.RowKit Go.Proofs.YtmahoekbedgbcaaW.PrintWords Go.Proofs.YtmahoekbedgbcaaW.PrintLast Go.Proofs.YtmahoekbedgbcaaW.PrintMore
attribute [local go_sem] max2_int min2_int max_two min_two max_three min_three max_four min_four
set_option linter.unusedVariables false
set_option linter.unusedSimpArgs false
mutual
def spec_l04Table.l0 : Nat → Int → List Int → Int → Int → List (S57) → List (S57) → Int → Option ((List (S57)) × (List (S57)) × Int × Int × Int)
 | 0, _, _, _, _, _, _, _ => none
 | k + 1, x5, x1000, x1001, x1002, x270000, x270001, x270002 => (spec_l01Below.f x1000 x1001 x1002 24).bind fun bt270 => (if x5 < bt270.1 then ((spec_l01Below.f x1000 bt270.2.1 bt270.2.2 8).bind fun bt273 => (if bt273.1 = 0 then ((spec_GrowTable.f k x270000 x270001 x270002).bind fun bt276 => (if bt276.2.2.2 = true then (spec_l04Table.l0 k (wrap64 (x5 + 1)) x1000 bt273.2.1 bt273.2.2 bt276.1 bt276.2.1 bt276.2.2.1) else (spec_l04Table.l0 k (wrap64 (x5 + 1)) x1000 bt273.2.1 bt273.2.2 x270000 x270001 x270002))) else (if bt273.1 = 1 then (spec_l04Table.j1 k x5 bt273.1 (bt273.1 == 1) x1000 bt273.2.1 bt273.2.2 x270000 x270001 x270002) else (spec_l04Table.j1 k x5 bt273.1 (bt273.1 == 2) x1000 bt273.2.1 bt273.2.2 x270000 x270001 x270002)))) else (some (x270000, x270001, x270002, bt270.2.1, bt270.2.2)))
def spec_l04Table.j1 : Nat → Int → Int → Bool → List Int → Int → Int → List (S57) → List (S57) → Int → Option ((List (S57)) × (List (S57)) × Int × Int × Int)
 | 0, _, _, _, _, _, _, _, _, _ => none
 | k + 1, x5, x26, x47, x1000, x1001, x1002, x270000, x270001, x270002 => if x47 = true then ((spec_l03Key.f x1000 x1001 x1002).bind fun bt285 => ((spec_TakeKey.f k x270000 x270001 x270002 bt285.1).bind fun bt288 => (if bt288.2.2.2 = true then (spec_l04Table.l0 k (wrap64 (x5 + 1)) x1000 bt285.2.1 bt285.2.2 bt288.1 bt288.2.1 bt288.2.2.1) else (spec_l04Table.l0 k (wrap64 (x5 + 1)) x1000 bt285.2.1 bt285.2.2 x270000 x270001 x270002)))) else (if x26 = 3 then ((spec_l01Below.f x1000 x1001 x1002 4).bind fun bt297 => ((spec_MoveSome.f k x270000 x270001 x270002 bt297.1).bind fun bt300 => (spec_l04Table.l0 k (wrap64 (x5 + 1)) x1000 bt297.2.1 bt297.2.2 bt300.1 bt300.2.1 bt300.2.2))) else ((spec_l03Key.f x1000 x1001 x1002).bind fun bt307 => ((spec_l01Below.f x1000 bt307.2.1 bt307.2.2 50).bind fun bt310 => ((spec_PutKey.f k x270000 x270001 x270002 bt307.1 bt310.1).bind fun bt313 => (if bt313.2.2.2 = true then (spec_l04Table.l0 k (wrap64 (x5 + 1)) x1000 bt310.2.1 bt310.2.2 bt313.1 bt313.2.1 bt313.2.2.1) else (spec_l04Table.l0 k (wrap64 (x5 + 1)) x1000 bt310.2.1 bt310.2.2 x270000 x270001 x270002))))))
end
def spec_l04Table.f (k : Nat) (s0_0 : List Int) (s0_1 : Int) (s0_2 : Int) : Option ((List (S57)) × (List (S57)) × Int × Int × Int) := (spec_l01PickInt.f s0_0 s0_1 s0_2 (([4, 8, 16] : List Int))).bind fun bt258 => ((spec_TableNew.f k bt258.1).bind fun bt261 => (spec_l04Table.l0 k 0 s0_0 bt258.2.1 bt258.2.2 bt261.1 bt261.2.1 bt261.2.2.1))
def spec_l04Table.T6 : Bool × List (List Nat × List Nat) := (true, [([], []), ([], []), ([1], [1]), ([], []), ([3, 2], [3]), ([0, 2, 4, 4], [0, 2, 4]), ([5], [5]), ([6], [6]), ([6], [6]), ([], []), ([9, 7, 5, 0, 1, 2, 3, 4, 5, 6, 7, 9], [7, 9]), ([8, 10, 0, 1, 2, 3, 4, 5, 6, 7, 8, 9, 10], [8])])
def spec_l04Table.B6 : List Nat := [0, 0, 2, 0, 14, 31, 63, 127, 127, 0, 767, 2047]
theorem spec_l04Table.tab6 : rtab .any (opsOf Try.f45 6) = spec_l04Table.T6 := by kernel_rfl
theorem spec_l04Table.bits6 : waitsOk spec_l04Table.T6.2 spec_l04Table.B6 = true := by kernel_rfl
def spec_l04Table.T15 : Bool × List (List Nat × List Nat) := (true, [([], []), ([], []), ([1], [1]), ([0, 2, 2], [0, 2]), ([3], [3]), ([4], [4]), ([4], [4]), ([], []), ([7, 5, 3, 0, 1, 2, 3, 4, 5, 7], [5, 7]), ([6, 8, 0, 1, 2, 3, 4, 5, 6, 7, 8], [6])])
def spec_l04Table.B15 : List Nat := [0, 0, 2, 7, 15, 31, 31, 0, 191, 511]
theorem spec_l04Table.tab15 : rtab .any (opsOf Try.f45 15) = spec_l04Table.T15 := by kernel_rfl
theorem spec_l04Table.bits15 : waitsOk spec_l04Table.T15.2 spec_l04Table.B15 = true := by kernel_rfl
set_option maxHeartbeats 8000000 in
set_option maxRecDepth 100000 in
theorem spec_l04Table.calls (k : Nat) (g : Nat) (s0_0 : List Int) (s0_1 : Int) (s0_2 : Int) (r1 : List (S57)) (r2 : List (S57)) (r3 : Int) (r4 : Int) (r5 : Int) (w0 w : World) (hI : IsS85 w0 w g s0_0 s0_1 s0_2) (hB : Below w0.heap.size w0 w) (h : spec_l04Table.f k s0_0 s0_1 s0_2 = some (r1, r2, r3, r4, r5)) :
  Calls Try.prog 45 #[.pointer (some ⟨g, 0, none⟩)] w fun e w' => ∃ v0_ v1_ : Value, e = .returned (.agg #[v0_, v1_, .int .i64 r3]) ∧ Kd.R k57 57 w' w.heap.size (fun k_ => some k_ ≠ (v1_ : Value).ownBlock) v0_ r1 ∧ Kd.R k57 57 w' w.heap.size (fun k_ => some k_ ≠ (v0_ : Value).ownBlock) v1_ r2 ∧ IsS85 w0 w' g s0_0 r4 r5 ∧ Below w0.heap.size w0 w' ∧ KeepBut w w' g none := by
 have hu26 := Try.underlying26
 have HI0 := am hI
 have HK := am (KeepBut.refl w g none)
 have HL := am hB.size
 clear hI
 have HW0 := am hB.size
 have HB := am hB
 clear hB
 have H : ((spec_l01PickInt.f s0_0 s0_1 s0_2 (([4, 8, 16] : List Int))).bind fun bt258 => ((spec_TableNew.f k bt258.1).bind fun bt261 => (spec_l04Table.l0 k 0 s0_0 bt258.2.1 bt258.2.2 bt261.1 bt261.2.1 bt261.2.2.1))) = some (r1, r2, r3, r4, r5) := h
 clear h
 obtain ⟨y255, hy255⟩ : ∃ y_ : List Int, y_ = (([4, 8, 16] : List Int)) := ⟨_, rfl⟩
 replace H : ((spec_l01PickInt.f s0_0 s0_1 s0_2 y255).bind fun bt258 => ((spec_TableNew.f k bt258.1).bind fun bt261 => (spec_l04Table.l0 k 0 s0_0 bt258.2.1 bt258.2.2 bt261.1 bt261.2.1 bt261.2.2.1))) = some (r1, r2, r3, r4, r5) := by first | (rw [hy255]; with_reducible exact H) | (have H2_ := (Option.bind_some _ _).symm.trans H; rw [hy255]; with_reducible exact H2_) | (have H2_ := (Option.bind_some _ _).symm.trans H; with_reducible exact H2_) | with_reducible exact H | (rw [hy255]; exact H) | exact H
 have Ny255 := am hy255
 clear hy255
 replace H := Option.bind_eq_some_iff.mp H
 obtain ⟨⟨t258, t259, t260⟩, A20, H⟩ := H
 try dsimp only at H
 have A2 := am A20
 clear A20
 replace H := Option.bind_eq_some_iff.mp H
 obtain ⟨⟨t261, t264, t267, t268⟩, A30, H⟩ := H
 try dsimp only at H
 have A3 := am A30
 clear A30
 have H' := am H
 clear H
 go_enter Try.func45, Try.ntmps45
 go_wp2_with (first | ((with_reducible refine gate_dst (N := 2) rfl ?_); refine xE (N := 2) (cs := #[.slice none 0 0, .slice none 0 0, .int .i64 0]) (t := 26) (h := ?_); intro gb254 hg w4 hbox hb; replace HB := am (below_step (xWI HB.out (IsS85.ge HI0.out)) hb); have BK254 := am (hbox); have GW254 := am ((xKS hg HK.out)); have GE254 := am ((Nat.le_trans HW0.out (xKS hg HK.out))); replace HK := am (xKB HK.out hb); have NB0_254 := am ((xL hg (IsS85.lt (show IsS85 w0 _ g s0_0 s0_1 s0_2 from xH85 HI0.out)))); have NB254_0 := am ((xLM hg (IsS85.lt (show IsS85 w0 _ g s0_0 s0_1 s0_2 from xH85 HI0.out)))); replace HI0 := am (IsS85.below (xH85 HI0.out) hb); clear hb hbox hg) | ((with_reducible refine gate_dst (N := 14) rfl ?_); refine Kd.R_lit (Kd.int .i64) _ 3 ?hg (N := 14) ?hd (xs := ([4, 8, 16] : List Int)) (inner := [.int .i64 4, .int .i64 8, .int .i64 16]) (ok := fun _ => True) (okp := fun _ => True) ?hr ?hp (fun _ hk => hk) trivial (Below.refl _ _) (Nat.le_refl _) (by simp) ?_; (case hd => rfl); (case hg => rfl); (case hr => first | (go_simp; done) | (go_simp; rfl)); (case hp => exact (Reps.one (show Kd.M (Kd.int .i64) _ _ _ 4 [.int .i64 4] from rfl) (Reps.one (show Kd.M (Kd.int .i64) _ _ _ 8 [.int .i64 8] from rfl) (Reps.one (show Kd.M (Kd.int .i64) _ _ _ 16 [.int .i64 16] from rfl) (Reps.none _ _))))); intro v256 w5 ho6 hb hg_ hnew_; clear hg_ hnew_; (first | rw [← Ny255.out] at ho6 | (simp only [Int.reduceToNat] at ho6; rw [← Ny255.out] at ho6)); have HO257 := am (Kd.R_lower ho6 (xKZ HK.out)); replace BK254 := am (blk_below (xB BK254.out) hb); replace HK := am (xKB HK.out hb); replace HB := am (below_step (xWI HB.out (IsS85.ge HI0.out)) hb); replace HI0 := am (IsS85.below (xH85 HI0.out) hb); clear hb ho6; obtain ⟨Ao7, co7, eo7⟩ := Kd.R_slice HO257.out; subst eo7) | ((with_reducible refine gate_callee (f := 77) rfl ?_); refine xG (some 15) 77 Try.func77 #[.pointer (some ⟨g, 0, none⟩), .slice Ao7 y255.length co7] (h := ?_); (with_reducible refine (spec_l01PickInt.calls g s0_0 s0_1 s0_2 _ _ y255 t258 t259 t260 w0 _ ?side1 ?side2 ?side3 ?side4 ?side5 A2.out).mono ?_); (case side1 => exact xH85 HI0.out); (case side2 => exact xWI HB.out (IsS85.ge HI0.out)); (case side3 => exact xC ((Kd.R_reads' HO257.out).2.2)); (case side4 => exact (Kd.R_reads' HO257.out).2.1); (case side5 => exact far_slice (IsS85.own_ne HI0.out HO257.out (by decide))); rintro e w8 ⟨rfl, hi, hb, hk⟩; refine ⟨_, rfl, ?_⟩; replace BK254 := am (KeepBut.blk hk (g' := gb254) (o := .cells #[.slice none 0 0, .slice none 0 0, .int .i64 0] 26 (0, 0)) (xB BK254.out) NB254_0.out (by simp)); replace HO257 := am (Kd.R_mono (Kd.R_keep (IsS85.apart (show IsS85 w0 _ g s0_0 s0_1 s0_2 from xH85 HI0.out) (xR HO257.out) (by decide)) hk (fun _ h => h.2)) (fun _ h => h.1)); replace HK := am (KeepBut.trans (xK HK.out) hk (.inl rfl)); replace HB := am (hb); replace HI0 := am (hi); (try clear hb); (try clear hk); (try clear hi)) | ((with_reducible refine gate_callee (f := 76) rfl ?_); refine xG (some 16) 76 Try.func76 #[.int .i64 t258] (h := ?_); (with_reducible refine (spec_TableNew.calls k t258 t261 t264 t267 t268 _ A3.out).mono ?_); rintro e w9 ⟨v262, v265, rfl, ho0, ho1, hb⟩; refine ⟨_, rfl, ?_⟩; replace HO257 := am (Kd.R_below (xR HO257.out) hb); have HO263 := am (Kd.R_lower ho0 (xKZ HK.out)); have HO266 := am (Kd.R_lower ho1 (xKZ HK.out)); replace BK254 := am (blk_below (xB BK254.out) hb); replace HK := am (xKB HK.out hb); replace HB := am (below_step (xWI HB.out (IsS85.ge HI0.out)) hb); replace HI0 := am (IsS85.below (xH85 HI0.out) hb); (try clear hb); (try clear ho0); (try clear ho1)) | ((with_reducible refine gate_dst (N := 3) rfl ?_); refine xE (N := 3) (cs := #[.slice none 0 0, .slice none 0 0, .int .i64 0]) (t := 26) (h := ?_); intro gb269 hg w10 hbox hb; replace HO257 := am (Kd.R_below (xR HO257.out) hb); replace HO263 := am (Kd.R_below (xR HO263.out) hb); replace HO266 := am (Kd.R_below (xR HO266.out) hb); replace HB := am (below_step (xWI HB.out (IsS85.ge HI0.out)) hb); have BK269 := am (hbox); have GW269 := am ((xKS hg HK.out)); have GE269 := am ((Nat.le_trans HW0.out (xKS hg HK.out))); replace HK := am (xKB HK.out hb); have NB254_269 := am (xN hg BK254.out); have NB269_254 := am (xM hg BK254.out); replace BK254 := am (blk_below (xB BK254.out) hb); have NB0_269 := am ((xL hg (IsS85.lt (show IsS85 w0 _ g s0_0 t259 t260 from xH85 HI0.out)))); have NB269_0 := am ((xLM hg (IsS85.lt (show IsS85 w0 _ g s0_0 t259 t260 from xH85 HI0.out)))); replace HI0 := am (IsS85.below (xH85 HI0.out) hb); clear hb hbox hg; obtain ⟨Ao11, co11, eo11⟩ := Kd.R_slice HO263.out; subst eo11; have hnb12 := NB269_254.out; have hnc12 := NB254_269.out; have hnb13 := NB269_0.out; have hnc13 := NB0_269.out; obtain ⟨hcz14_0, hcz14_1, hcz14_2, hfz14_0, hfz14_1, hfz14_2⟩ := xT3 (W := w10) BK269.out; obtain ⟨Ao15, co15, eo15⟩ := Kd.R_slice HO266.out; subst eo15))
 go_loopg [5] k (fun kq v5 w' => ∃ (x5_1 : Int) (x1001_1 : Int) (x1002_1 : Int) (x270000_1 : List (S57)) (x270001_1 : List (S57)) (x270002_1 : Int) (u270000 : Value) (u270001 : Value), v5 = .int .i64 x5_1 ∧ Aside0 (spec_l04Table.l0 kq x5_1 s0_0 x1001_1 x1002_1 x270000_1 x270001_1 x270002_1 = some (r1, r2, r3, r4, r5)) ∧ Aside0 (kq ≤ k) ∧ Aside0 (Kd.R k57 57 w' w.heap.size (fun k_ => some k_ ≠ (u270001 : Value).ownBlock) u270000 x270000_1) ∧ Aside0 (Kd.R k57 57 w' w.heap.size (fun k_ => some k_ ≠ (u270000 : Value).ownBlock) u270001 x270001_1) ∧ Aside0 (w'.heap[gb254]? = some (.cells #[(.slice none 0 0), (.slice none 0 0), .int .i64 0] 26 (0, 0))) ∧ Aside0 (w'.heap[gb269]? = some (.cells #[u270000, u270001, .int .i64 x270002_1] 26 (0, 0))) ∧ Aside0 (IsS85 w0 w' g s0_0 x1001_1 x1002_1) ∧ Aside0 (KeepBut w w' g none) ∧ Aside0 (Below w0.heap.size w0 w'))
 case atStart => exact ⟨(0), (t259), (t260), (t261), (t264), (t267), (.slice Ao11 t261.length co11), (.slice Ao15 t264.length co15), (xQ), H', ⟨Nat.le_refl _⟩, ⟨xR HO263.out⟩, ⟨xR HO266.out⟩, ⟨xB BK254.out⟩, ⟨xP BK269.out⟩, ⟨xH85 HI0.out⟩, ⟨xK HK.out⟩, ⟨xWI HB.out (IsS85.ge HI0.out)⟩⟩
 case round =>
  clear H'
  try clear c1
  try clear p2
  try clear c4
  try clear c7
  try clear c12
  try clear c13
  try clear hcz14_0
  try clear hcz14_1
  try clear hcz14_2
  try clear hfz14_0
  try clear hfz14_1
  try clear hfz14_2
  obtain ⟨x5_1, x1001_1, x1002_1, x270000_1, x270001_1, x270002_1, u270000, u270001, rfl, HA, HK1, HO_270000, HO_270001, BK254, BK269, HI0, HK, HB⟩ := hrel
  cases gk with
  | zero => exact absurd HA.out (by simp [spec_l04Table.l0])
  | succ k1 =>
   have H := HA.out
   clear HA
   simp only [spec_l04Table.l0] at H
   replace H := Option.bind_eq_some_iff.mp H
   obtain ⟨⟨t270, t271, t272⟩, A160, H⟩ := H
   try dsimp only at H
   have A16 := am A160
   clear A160
   by_cases c17 : x5_1 < t270
   ·rw [if_pos c17] at H
    have c17b0 : decide (x5_1 < t270) = true := decide_eq_true c17
    clear c17
    replace H := Option.bind_eq_some_iff.mp H
    obtain ⟨⟨t273, t274, t275⟩, A180, H⟩ := H
    try dsimp only at H
    have A18 := am A180
    clear A180
    by_cases c19 : t273 = 0
    ·rw [if_pos c19] at H
     have c19b0 : (t273 == 0) = true := beq_iff_eq.mpr c19
     have c19b1 : (t273 != 0) = false := bne_eq_false_iff_eq.mpr c19
     clear c19
     replace H := Option.bind_eq_some_iff.mp H
     obtain ⟨⟨t276, t279, t282, t283⟩, A200, H⟩ := H
     try dsimp only at H
     have A20 := am A200
     clear A200
     by_cases c21 : t283 = true
     ·subst c21
      have H1 : (spec_l04Table.l0 k1 (wrap64 (x5_1 + 1)) s0_0 t274 t275 t276 t279 t282) = some (r1, r2, r3, r4, r5) := by rw [if_pos rfl] at H; exact H
      clear H
      have H := H1
      clear H1
      have H' := am H
      clear H
      go_wp2_with (first | ((with_reducible refine gate_callee (f := 57) rfl ?_); refine xG (some 21) 57 Try.func57 #[.pointer (some ⟨g, 0, none⟩), .int .i64 24] (h := ?_); (with_reducible refine (spec_l01Below.calls g s0_0 x1001_1 x1002_1 24 t270 t271 t272 w0 _ ?side1 ?side2 A16.out).mono ?_); (case side1 => exact xH85 HI0.out); (case side2 => exact xWI HB.out (IsS85.ge HI0.out)); rintro e w22 ⟨rfl, hi, hb, hk⟩; refine ⟨_, rfl, ?_⟩; replace HO_270000 := am (Kd.R_mono (Kd.R_keep (IsS85.apart (show IsS85 w0 _ g s0_0 x1001_1 x1002_1 from xH85 HI0.out) (xR HO_270000.out) (by decide)) hk (fun _ h => h.2)) (fun _ h => h.1)); replace HO_270001 := am (Kd.R_mono (Kd.R_keep (IsS85.apart (show IsS85 w0 _ g s0_0 x1001_1 x1002_1 from xH85 HI0.out) (xR HO_270001.out) (by decide)) hk (fun _ h => h.2)) (fun _ h => h.1)); replace BK254 := am (KeepBut.blk hk (g' := gb254) (o := .cells #[.slice none 0 0, .slice none 0 0, .int .i64 0] 26 (0, 0)) (xB BK254.out) NB254_0.out (by simp)); replace BK269 := am (KeepBut.blk hk (g' := gb269) (o := .cells #[u270000, u270001, .int .i64 x270002_1] 26 (0, 0)) (xB BK269.out) NB269_0.out (by simp)); replace HK := am (KeepBut.trans (xK HK.out) hk (.inl rfl)); replace HB := am (hb); replace HI0 := am (hi); (try clear hb); (try clear hk); (try clear hi)) | ((with_reducible refine gate_callee (f := 57) rfl ?_); refine xG (some 26) 57 Try.func57 #[.pointer (some ⟨g, 0, none⟩), .int .i64 8] (h := ?_); (with_reducible refine (spec_l01Below.calls g s0_0 t271 t272 8 t273 t274 t275 w0 _ ?side1 ?side2 A18.out).mono ?_); (case side1 => exact xH85 HI0.out); (case side2 => exact xWI HB.out (IsS85.ge HI0.out)); rintro e w23 ⟨rfl, hi, hb, hk⟩; refine ⟨_, rfl, ?_⟩; replace HO_270000 := am (Kd.R_mono (Kd.R_keep (IsS85.apart (show IsS85 w0 _ g s0_0 t271 t272 from xH85 HI0.out) (xR HO_270000.out) (by decide)) hk (fun _ h => h.2)) (fun _ h => h.1)); replace HO_270001 := am (Kd.R_mono (Kd.R_keep (IsS85.apart (show IsS85 w0 _ g s0_0 t271 t272 from xH85 HI0.out) (xR HO_270001.out) (by decide)) hk (fun _ h => h.2)) (fun _ h => h.1)); replace BK254 := am (KeepBut.blk hk (g' := gb254) (o := .cells #[.slice none 0 0, .slice none 0 0, .int .i64 0] 26 (0, 0)) (xB BK254.out) NB254_0.out (by simp)); replace BK269 := am (KeepBut.blk hk (g' := gb269) (o := .cells #[u270000, u270001, .int .i64 x270002_1] 26 (0, 0)) (xB BK269.out) NB269_0.out (by simp)); replace HK := am (KeepBut.trans (xK HK.out) hk (.inl rfl)); replace HB := am (hb); replace HI0 := am (hi); (try clear hb); (try clear hk); (try clear hi); have hnb24 := NB269_254.out; have hnc24 := NB254_269.out; have hnb25 := NB269_0.out; have hnc25 := NB0_269.out; obtain ⟨hcz26_0, hcz26_1, hcz26_2, hfz26_0, hfz26_1, hfz26_2⟩ := xT3 (W := w23) BK269.out; obtain ⟨Ao27, co27, eo27⟩ := Kd.R_slice HO_270000.out; subst eo27; obtain ⟨Ao28, co28, eo28⟩ := Kd.R_slice HO_270001.out; subst eo28) | ((with_reducible refine gate_callee (f := 36) rfl ?_); refine xG (some 42) 36 Try.func36 #[.agg #[.slice Ao27 x270000_1.length co27, .slice Ao28 x270001_1.length co28, .int .i64 x270002_1]] (h := ?_); (with_reducible refine (spec_GrowTable.calls k1 _ _ x270000_1 _ _ x270001_1 x270002_1 t276 t279 t282 true _ ?side1 ?side2 ?side3 ?side4 A20.out).mono ?_); (case side1 => exact xC ((Kd.R_reads' HO_270000.out).2.2)); (case side2 => exact (Kd.R_reads' HO_270000.out).2.1); (case side3 => exact xC ((Kd.R_reads' HO_270001.out).2.2)); (case side4 => exact (Kd.R_reads' HO_270001.out).2.1); rintro e w29 ⟨v277, v280, rfl, ho0, ho1, hb⟩; refine ⟨_, rfl, ?_⟩; have HO278 := am (Kd.R_lower (Kd.R_new' (Kd.R_new' ho0 (Kd.R_lt (xR HO_270000.out))) (Kd.R_lt (xR HO_270001.out))) (xKZ HK.out)); have HO281 := am (Kd.R_lower (Kd.R_new' (Kd.R_new' ho1 (Kd.R_lt (xR HO_270000.out))) (Kd.R_lt (xR HO_270001.out))) (xKZ HK.out)); replace HO_270000 := am (Kd.R_mono (Kd.R_told (Kd.R_told (Kd.R_old (xR HO_270000.out) hb) (Kd.R_base ho0)) (Kd.R_base ho1)) (fun _ h_ => h_.1)); replace HO_270001 := am (Kd.R_mono (Kd.R_told (Kd.R_told (Kd.R_old (xR HO_270001.out) hb) (Kd.R_base ho0)) (Kd.R_base ho1)) (fun _ h_ => h_.1)); replace BK254 := am (blk_below (xB BK254.out) hb); replace BK269 := am (blk_below (xB BK269.out) hb); replace HK := am (xKB HK.out hb); replace HB := am (below_step (xWI HB.out (IsS85.ge HI0.out)) hb); replace HI0 := am (IsS85.below (xH85 HI0.out) hb); (try clear hb); (try clear ho0); (try clear ho1)) | ((with_reducible refine gate_dst (N := 6) rfl ?_); refine xE (N := 6) (cs := #[.slice none 0 0, .slice none 0 0, .int .i64 0]) (t := 26) (h := ?_); intro gb284 hg w30 hbox hb; replace HO_270000 := am (Kd.R_below (xR HO_270000.out) hb); replace HO_270001 := am (Kd.R_below (xR HO_270001.out) hb); replace HO278 := am (Kd.R_below (xR HO278.out) hb); replace HO281 := am (Kd.R_below (xR HO281.out) hb); replace HB := am (below_step (xWI HB.out (IsS85.ge HI0.out)) hb); have BK284 := am (hbox); have GW284 := am ((xKS hg HK.out)); have GE284 := am ((Nat.le_trans HW0.out (xKS hg HK.out))); replace HK := am (xKB HK.out hb); have NB254_284 := am (xN hg BK254.out); have NB284_254 := am (xM hg BK254.out); replace BK254 := am (blk_below (xB BK254.out) hb); have NB269_284 := am (xN hg BK269.out); have NB284_269 := am (xM hg BK269.out); replace BK269 := am (blk_below (xB BK269.out) hb); have NB0_284 := am ((xL hg (IsS85.lt (show IsS85 w0 _ g s0_0 t274 t275 from xH85 HI0.out)))); have NB284_0 := am ((xLM hg (IsS85.lt (show IsS85 w0 _ g s0_0 t274 t275 from xH85 HI0.out)))); replace HI0 := am (IsS85.below (xH85 HI0.out) hb); clear hb hbox hg; obtain ⟨Ao31, co31, eo31⟩ := Kd.R_slice HO278.out; subst eo31; have hnb32 := NB284_254.out; have hnc32 := NB254_284.out; have hnb33 := NB284_269.out; have hnc33 := NB269_284.out; have hnb34 := NB284_0.out; have hnc34 := NB0_284.out; obtain ⟨hcz35_0, hcz35_1, hcz35_2, hfz35_0, hfz35_1, hfz35_2⟩ := xT3 (W := w30) BK284.out; obtain ⟨Ao36, co36, eo36⟩ := Kd.R_slice HO281.out; subst eo36; obtain ⟨hcz37_0, hcz37_1, hcz37_2, hfz37_0, hfz37_1, hfz37_2⟩ := xT3 (W := w30) BK269.out))
      go_roundg k1
      case measure => have := HK1.out; omega
      case rel => exact ⟨(wrap64 (x5_1 + 1)), (t274), (t275), (t276), (t279), (t282), (.slice Ao31 t276.length co31), (.slice Ao36 t279.length co36), (xQ), H', ⟨by have := HK1.out; omega⟩, ⟨Kd.R_mono (xR HO278.out) (fun _ hk => hk.1.1)⟩, ⟨Kd.R_mono (xR HO281.out) (fun _ hk => hk.1.1)⟩, ⟨xB BK254.out⟩, ⟨xP BK269.out⟩, ⟨xH85 HI0.out⟩, ⟨xK HK.out⟩, ⟨xWI HB.out (IsS85.ge HI0.out)⟩⟩
     ·replace c21 := Bool.eq_false_iff.mpr c21
      subst c21
      have H1 : (spec_l04Table.l0 k1 (wrap64 (x5_1 + 1)) s0_0 t274 t275 x270000_1 x270001_1 x270002_1) = some (r1, r2, r3, r4, r5) := by rw [if_neg (show ¬ (false = true) by decide)] at H; exact H
      clear H
      have H := H1
      clear H1
      have H' := am H
      clear H
      go_wp2_with (first | ((with_reducible refine gate_callee (f := 57) rfl ?_); refine xG (some 21) 57 Try.func57 #[.pointer (some ⟨g, 0, none⟩), .int .i64 24] (h := ?_); (with_reducible refine (spec_l01Below.calls g s0_0 x1001_1 x1002_1 24 t270 t271 t272 w0 _ ?side1 ?side2 A16.out).mono ?_); (case side1 => exact xH85 HI0.out); (case side2 => exact xWI HB.out (IsS85.ge HI0.out)); rintro e w38 ⟨rfl, hi, hb, hk⟩; refine ⟨_, rfl, ?_⟩; replace HO_270000 := am (Kd.R_mono (Kd.R_keep (IsS85.apart (show IsS85 w0 _ g s0_0 x1001_1 x1002_1 from xH85 HI0.out) (xR HO_270000.out) (by decide)) hk (fun _ h => h.2)) (fun _ h => h.1)); replace HO_270001 := am (Kd.R_mono (Kd.R_keep (IsS85.apart (show IsS85 w0 _ g s0_0 x1001_1 x1002_1 from xH85 HI0.out) (xR HO_270001.out) (by decide)) hk (fun _ h => h.2)) (fun _ h => h.1)); replace BK254 := am (KeepBut.blk hk (g' := gb254) (o := .cells #[.slice none 0 0, .slice none 0 0, .int .i64 0] 26 (0, 0)) (xB BK254.out) NB254_0.out (by simp)); replace BK269 := am (KeepBut.blk hk (g' := gb269) (o := .cells #[u270000, u270001, .int .i64 x270002_1] 26 (0, 0)) (xB BK269.out) NB269_0.out (by simp)); replace HK := am (KeepBut.trans (xK HK.out) hk (.inl rfl)); replace HB := am (hb); replace HI0 := am (hi); (try clear hb); (try clear hk); (try clear hi)) | ((with_reducible refine gate_callee (f := 57) rfl ?_); refine xG (some 26) 57 Try.func57 #[.pointer (some ⟨g, 0, none⟩), .int .i64 8] (h := ?_); (with_reducible refine (spec_l01Below.calls g s0_0 t271 t272 8 t273 t274 t275 w0 _ ?side1 ?side2 A18.out).mono ?_); (case side1 => exact xH85 HI0.out); (case side2 => exact xWI HB.out (IsS85.ge HI0.out)); rintro e w39 ⟨rfl, hi, hb, hk⟩; refine ⟨_, rfl, ?_⟩; replace HO_270000 := am (Kd.R_mono (Kd.R_keep (IsS85.apart (show IsS85 w0 _ g s0_0 t271 t272 from xH85 HI0.out) (xR HO_270000.out) (by decide)) hk (fun _ h => h.2)) (fun _ h => h.1)); replace HO_270001 := am (Kd.R_mono (Kd.R_keep (IsS85.apart (show IsS85 w0 _ g s0_0 t271 t272 from xH85 HI0.out) (xR HO_270001.out) (by decide)) hk (fun _ h => h.2)) (fun _ h => h.1)); replace BK254 := am (KeepBut.blk hk (g' := gb254) (o := .cells #[.slice none 0 0, .slice none 0 0, .int .i64 0] 26 (0, 0)) (xB BK254.out) NB254_0.out (by simp)); replace BK269 := am (KeepBut.blk hk (g' := gb269) (o := .cells #[u270000, u270001, .int .i64 x270002_1] 26 (0, 0)) (xB BK269.out) NB269_0.out (by simp)); replace HK := am (KeepBut.trans (xK HK.out) hk (.inl rfl)); replace HB := am (hb); replace HI0 := am (hi); (try clear hb); (try clear hk); (try clear hi); have hnb40 := NB269_254.out; have hnc40 := NB254_269.out; have hnb41 := NB269_0.out; have hnc41 := NB0_269.out; obtain ⟨hcz42_0, hcz42_1, hcz42_2, hfz42_0, hfz42_1, hfz42_2⟩ := xT3 (W := w39) BK269.out; obtain ⟨Ao43, co43, eo43⟩ := Kd.R_slice HO_270000.out; subst eo43; obtain ⟨Ao44, co44, eo44⟩ := Kd.R_slice HO_270001.out; subst eo44) | ((with_reducible refine gate_callee (f := 36) rfl ?_); refine xG (some 42) 36 Try.func36 #[.agg #[.slice Ao43 x270000_1.length co43, .slice Ao44 x270001_1.length co44, .int .i64 x270002_1]] (h := ?_); (with_reducible refine (spec_GrowTable.calls k1 _ _ x270000_1 _ _ x270001_1 x270002_1 t276 t279 t282 false _ ?side1 ?side2 ?side3 ?side4 A20.out).mono ?_); (case side1 => exact xC ((Kd.R_reads' HO_270000.out).2.2)); (case side2 => exact (Kd.R_reads' HO_270000.out).2.1); (case side3 => exact xC ((Kd.R_reads' HO_270001.out).2.2)); (case side4 => exact (Kd.R_reads' HO_270001.out).2.1); rintro e w45 ⟨v277, v280, rfl, ho0, ho1, hb⟩; refine ⟨_, rfl, ?_⟩; have HO278 := am (Kd.R_lower (Kd.R_new' (Kd.R_new' ho0 (Kd.R_lt (xR HO_270000.out))) (Kd.R_lt (xR HO_270001.out))) (xKZ HK.out)); have HO281 := am (Kd.R_lower (Kd.R_new' (Kd.R_new' ho1 (Kd.R_lt (xR HO_270000.out))) (Kd.R_lt (xR HO_270001.out))) (xKZ HK.out)); replace HO_270000 := am (Kd.R_mono (Kd.R_told (Kd.R_told (Kd.R_old (xR HO_270000.out) hb) (Kd.R_base ho0)) (Kd.R_base ho1)) (fun _ h_ => h_.1)); replace HO_270001 := am (Kd.R_mono (Kd.R_told (Kd.R_told (Kd.R_old (xR HO_270001.out) hb) (Kd.R_base ho0)) (Kd.R_base ho1)) (fun _ h_ => h_.1)); replace BK254 := am (blk_below (xB BK254.out) hb); replace BK269 := am (blk_below (xB BK269.out) hb); replace HK := am (xKB HK.out hb); replace HB := am (below_step (xWI HB.out (IsS85.ge HI0.out)) hb); replace HI0 := am (IsS85.below (xH85 HI0.out) hb); (try clear hb); (try clear ho0); (try clear ho1)) | ((with_reducible refine gate_dst (N := 6) rfl ?_); refine xE (N := 6) (cs := #[.slice none 0 0, .slice none 0 0, .int .i64 0]) (t := 26) (h := ?_); intro gb284 hg w46 hbox hb; replace HO_270000 := am (Kd.R_below (xR HO_270000.out) hb); replace HO_270001 := am (Kd.R_below (xR HO_270001.out) hb); replace HO278 := am (Kd.R_below (xR HO278.out) hb); replace HO281 := am (Kd.R_below (xR HO281.out) hb); replace HB := am (below_step (xWI HB.out (IsS85.ge HI0.out)) hb); have BK284 := am (hbox); have GW284 := am ((xKS hg HK.out)); have GE284 := am ((Nat.le_trans HW0.out (xKS hg HK.out))); replace HK := am (xKB HK.out hb); have NB254_284 := am (xN hg BK254.out); have NB284_254 := am (xM hg BK254.out); replace BK254 := am (blk_below (xB BK254.out) hb); have NB269_284 := am (xN hg BK269.out); have NB284_269 := am (xM hg BK269.out); replace BK269 := am (blk_below (xB BK269.out) hb); have NB0_284 := am ((xL hg (IsS85.lt (show IsS85 w0 _ g s0_0 t274 t275 from xH85 HI0.out)))); have NB284_0 := am ((xLM hg (IsS85.lt (show IsS85 w0 _ g s0_0 t274 t275 from xH85 HI0.out)))); replace HI0 := am (IsS85.below (xH85 HI0.out) hb); clear hb hbox hg; obtain ⟨Ao47, co47, eo47⟩ := Kd.R_slice HO278.out; subst eo47; have hnb48 := NB284_254.out; have hnc48 := NB254_284.out; have hnb49 := NB284_269.out; have hnc49 := NB269_284.out; have hnb50 := NB284_0.out; have hnc50 := NB0_284.out; obtain ⟨hcz51_0, hcz51_1, hcz51_2, hfz51_0, hfz51_1, hfz51_2⟩ := xT3 (W := w46) BK284.out; obtain ⟨Ao52, co52, eo52⟩ := Kd.R_slice HO281.out; subst eo52))
      go_roundg k1
      case measure => have := HK1.out; omega
      case rel => exact ⟨(wrap64 (x5_1 + 1)), (t274), (t275), (x270000_1), (x270001_1), (x270002_1), (.slice Ao43 x270000_1.length co43), (.slice Ao44 x270001_1.length co44), (xQ), H', ⟨by have := HK1.out; omega⟩, ⟨Kd.R_mono (xR HO_270000.out) (fun _ hk => hk.1.1)⟩, ⟨Kd.R_mono (xR HO_270001.out) (fun _ hk => hk.1.1)⟩, ⟨xB BK254.out⟩, ⟨xB BK269.out⟩, ⟨xH85 HI0.out⟩, ⟨xK HK.out⟩, ⟨xWI HB.out (IsS85.ge HI0.out)⟩⟩
    ·rw [if_neg c19] at H
     have c19b0 : (t273 == 0) = false := beq_eq_false_iff_ne.mpr c19
     have c19b1 : (t273 != 0) = true := bne_iff_ne.mpr c19
     have HC53 := am H
     clear H
     go_upto_if 47 with (first | ((with_reducible refine gate_callee (f := 57) rfl ?_); refine xG (some 21) 57 Try.func57 #[.pointer (some ⟨g, 0, none⟩), .int .i64 24] (h := ?_); (with_reducible refine (spec_l01Below.calls g s0_0 x1001_1 x1002_1 24 t270 t271 t272 w0 _ ?side1 ?side2 A16.out).mono ?_); (case side1 => exact xH85 HI0.out); (case side2 => exact xWI HB.out (IsS85.ge HI0.out)); rintro e w54 ⟨rfl, hi, hb, hk⟩; refine ⟨_, rfl, ?_⟩; replace HO_270000 := am (Kd.R_mono (Kd.R_keep (IsS85.apart (show IsS85 w0 _ g s0_0 x1001_1 x1002_1 from xH85 HI0.out) (xR HO_270000.out) (by decide)) hk (fun _ h => h.2)) (fun _ h => h.1)); replace HO_270001 := am (Kd.R_mono (Kd.R_keep (IsS85.apart (show IsS85 w0 _ g s0_0 x1001_1 x1002_1 from xH85 HI0.out) (xR HO_270001.out) (by decide)) hk (fun _ h => h.2)) (fun _ h => h.1)); replace BK254 := am (KeepBut.blk hk (g' := gb254) (o := .cells #[.slice none 0 0, .slice none 0 0, .int .i64 0] 26 (0, 0)) (xB BK254.out) NB254_0.out (by simp)); replace BK269 := am (KeepBut.blk hk (g' := gb269) (o := .cells #[u270000, u270001, .int .i64 x270002_1] 26 (0, 0)) (xB BK269.out) NB269_0.out (by simp)); replace HK := am (KeepBut.trans (xK HK.out) hk (.inl rfl)); replace HB := am (hb); replace HI0 := am (hi); (try clear hb); (try clear hk); (try clear hi)) | ((with_reducible refine gate_callee (f := 57) rfl ?_); refine xG (some 26) 57 Try.func57 #[.pointer (some ⟨g, 0, none⟩), .int .i64 8] (h := ?_); (with_reducible refine (spec_l01Below.calls g s0_0 t271 t272 8 t273 t274 t275 w0 _ ?side1 ?side2 A18.out).mono ?_); (case side1 => exact xH85 HI0.out); (case side2 => exact xWI HB.out (IsS85.ge HI0.out)); rintro e w55 ⟨rfl, hi, hb, hk⟩; refine ⟨_, rfl, ?_⟩; replace HO_270000 := am (Kd.R_mono (Kd.R_keep (IsS85.apart (show IsS85 w0 _ g s0_0 t271 t272 from xH85 HI0.out) (xR HO_270000.out) (by decide)) hk (fun _ h => h.2)) (fun _ h => h.1)); replace HO_270001 := am (Kd.R_mono (Kd.R_keep (IsS85.apart (show IsS85 w0 _ g s0_0 t271 t272 from xH85 HI0.out) (xR HO_270001.out) (by decide)) hk (fun _ h => h.2)) (fun _ h => h.1)); replace BK254 := am (KeepBut.blk hk (g' := gb254) (o := .cells #[.slice none 0 0, .slice none 0 0, .int .i64 0] 26 (0, 0)) (xB BK254.out) NB254_0.out (by simp)); replace BK269 := am (KeepBut.blk hk (g' := gb269) (o := .cells #[u270000, u270001, .int .i64 x270002_1] 26 (0, 0)) (xB BK269.out) NB269_0.out (by simp)); replace HK := am (KeepBut.trans (xK HK.out) hk (.inl rfl)); replace HB := am (hb); replace HI0 := am (hi); (try clear hb); (try clear hk); (try clear hi)))
     (try simp only [Act.put, List.setIfInBounds_toArray, List.set_cons_zero, List.set_cons_succ])
     go_cut [47] (fun v47 wc => ∃ (kq : Nat) (x47_52 : Bool), v47 = .bool x47_52 ∧ Aside0 (spec_l04Table.j1 kq x5_1 t273 x47_52 s0_0 t274 t275 x270000_1 x270001_1 x270002_1 = some (r1, r2, r3, r4, r5)) ∧ Aside0 (kq ≤ k1) ∧ Aside0 (Kd.R k57 57 wc w.heap.size (fun k_ => some k_ ≠ (u270001 : Value).ownBlock) u270000 x270000_1) ∧ Aside0 (Kd.R k57 57 wc w.heap.size (fun k_ => some k_ ≠ (u270000 : Value).ownBlock) u270001 x270001_1) ∧ Aside0 (wc.heap[gb254]? = some (.cells #[(.slice none 0 0), (.slice none 0 0), .int .i64 0] 26 (0, 0))) ∧ Aside0 (wc.heap[gb269]? = some (.cells #[u270000, u270001, .int .i64 x270002_1] 26 (0, 0))) ∧ Aside0 (IsS85 w0 wc g s0_0 t274 t275) ∧ Aside0 (KeepBut w wc g none) ∧ Aside0 (Below w0.heap.size w0 wc))
     case first =>
      have H := HC53.out
      clear HC53
      by_cases c56 : t273 = 1
      ·rw [if_pos c56] at H
       have c56b0 : (t273 == 1) = true := beq_iff_eq.mpr c56
       have c56b1 : (t273 != 1) = false := bne_eq_false_iff_eq.mpr c56
       clear c56
       (first | rw [c56b0] | (simp only [i64_w, i32_w]; rw [c56b0]) | skip)
       have H' := am H
       clear H
       go_wp2
       go_meet
       case rel => exact ⟨_, ((t273 == 1)), (xQ), H', ⟨by have := HK1.out; first | omega | exact Nat.le_refl _⟩, ⟨xR HO_270000.out⟩, ⟨xR HO_270001.out⟩, ⟨xB BK254.out⟩, ⟨xB BK269.out⟩, ⟨xH85 HI0.out⟩, ⟨xK HK.out⟩, ⟨xWI HB.out (IsS85.ge HI0.out)⟩⟩
      ·rw [if_neg c56] at H
       have c56b0 : (t273 == 1) = false := beq_eq_false_iff_ne.mpr c56
       have c56b1 : (t273 != 1) = true := bne_iff_ne.mpr c56
       (first | rw [c56b0] | (simp only [i64_w, i32_w]; rw [c56b0]) | skip)
       have H' := am H
       clear H
       go_wp2
       go_meet
       case rel => exact ⟨_, ((t273 == 2)), (xQ), H', ⟨by have := HK1.out; first | omega | exact Nat.le_refl _⟩, ⟨xR HO_270000.out⟩, ⟨xR HO_270001.out⟩, ⟨xB BK254.out⟩, ⟨xB BK269.out⟩, ⟨xH85 HI0.out⟩, ⟨xK HK.out⟩, ⟨xWI HB.out (IsS85.ge HI0.out)⟩⟩
     case rest =>
      clear HC53
      try clear c1
      try clear c2
      try clear p2
      try clear c3
      try clear c4
      try clear c5
      try clear p6
      try clear c7
      try clear c12
      try clear c13
      try clear c17
      try clear c17b0
      try clear c19
      try clear c19b0
      try clear c19b1
      try clear c21
      try clear c24
      try clear c25
      try clear c32
      try clear c33
      try clear c34
      try clear c36
      try clear c40
      try clear c41
      try clear c45
      try clear c48
      try clear c49
      try clear c50
      try clear c56
      try clear c56b0
      try clear c56b1
      try clear hcz14_0
      try clear hcz14_1
      try clear hcz14_2
      try clear hcz26_0
      try clear hcz26_1
      try clear hcz26_2
      try clear hcz35_0
      try clear hcz35_1
      try clear hcz35_2
      try clear hcz37_0
      try clear hcz37_1
      try clear hcz37_2
      try clear hcz42_0
      try clear hcz42_1
      try clear hcz42_2
      try clear hcz51_0
      try clear hcz51_1
      try clear hcz51_2
      try clear hfz14_0
      try clear hfz14_1
      try clear hfz14_2
      try clear hfz26_0
      try clear hfz26_1
      try clear hfz26_2
      try clear hfz35_0
      try clear hfz35_1
      try clear hfz35_2
      try clear hfz37_0
      try clear hfz37_1
      try clear hfz37_2
      try clear hfz42_0
      try clear hfz42_1
      try clear hfz42_2
      try clear hfz51_0
      try clear hfz51_1
      try clear hfz51_2
      try clear p2
      obtain ⟨kq, x47_52, rfl, HA, HJ52, HO_270000, HO_270001, BK254, BK269, HI0, HK, HB⟩ := hcut
      cases kq with
      | zero => exact absurd HA.out (by simp [spec_l04Table.j1])
      | succ kj52 =>
       have H := HA.out
       clear HA
       simp only [spec_l04Table.j1] at H
       by_cases c57 : x47_52 = true
       ·subst c57
        have H1 : ((spec_l03Key.f s0_0 t274 t275).bind fun bt285 => ((spec_TakeKey.f kj52 x270000_1 x270001_1 x270002_1 bt285.1).bind fun bt288 => (if bt288.2.2.2 = true then (spec_l04Table.l0 kj52 (wrap64 (x5_1 + 1)) s0_0 bt285.2.1 bt285.2.2 bt288.1 bt288.2.1 bt288.2.2.1) else (spec_l04Table.l0 kj52 (wrap64 (x5_1 + 1)) s0_0 bt285.2.1 bt285.2.2 x270000_1 x270001_1 x270002_1)))) = some (r1, r2, r3, r4, r5) := by rw [if_pos rfl] at H; exact H
        clear H
        have H := H1
        clear H1
        replace H := Option.bind_eq_some_iff.mp H
        obtain ⟨⟨t285, t286, t287⟩, A580, H⟩ := H
        try dsimp only at H
        have A58 := am A580
        clear A580
        replace H := Option.bind_eq_some_iff.mp H
        obtain ⟨⟨t288, t291, t294, t295⟩, A590, H⟩ := H
        try dsimp only at H
        have A59 := am A590
        clear A590
        by_cases c60 : t295 = true
        ·subst c60
         have H1 : (spec_l04Table.l0 kj52 (wrap64 (x5_1 + 1)) s0_0 t286 t287 t288 t291 t294) = some (r1, r2, r3, r4, r5) := by rw [if_pos rfl] at H; exact H
         clear H
         have H := H1
         clear H1
         have H' := am H
         clear H
         obtain ⟨Ao61, co61, eo61⟩ := Kd.R_slice HO_270000.out
         subst eo61
         obtain ⟨Ao62, co62, eo62⟩ := Kd.R_slice HO_270001.out
         subst eo62
         try go_wp2
         replace HO_270000 := am (Kd.R_drew HO_270000.out)
         replace HO_270001 := am (Kd.R_drew HO_270001.out)
         replace BK254 := am (blk_drew BK254.out)
         replace BK269 := am (blk_drew BK269.out)
         replace HI0 := am (IsS85.drew HI0.out)
         replace HK := am (keep_drew HK.out)
         replace HB := am (below_drew1 HB.out)
         refine start_ (n := 10) (S := fun w' => w'.cell? ⟨gb269, 0, none⟩ = some (.slice Ao61 x270000_1.length co61) ∧ w'.cell? ⟨gb269, 1, none⟩ = some (.slice Ao62 x270001_1.length co62) ∧ w'.cell? ⟨gb269, 2, none⟩ = some (.int .i64 x270002_1)) (ds := []) #[false, false, false, false, false, false, false, false, false, false] (by kernel_rfl) rfl rfl (xC3 BK269.out) (fun hHeld => ?_); refine with_tabW spec_l04Table.tab15 spec_l04Table.bits15 (fun HT_ HW_ => ?_)
         generalize wc.drew = w63 at HO_270000 HO_270001 BK254 BK269 HI0 HK HB hHeld ⊢
         refine xP1 (i := 1) (N := some 52) #[false, true, false, false, false, false, false, false, false, false] (any_of HT_.out (by kernel_rfl)) (h := ?_)
         refine take_ (i := 0) (N := some 51) (v := ?_) (a' := ?_) #[true, true, false, false, false, false, false, false, false, false] rfl rfl (take_ofW HT_.out HW_.out (by kernel_rfl)) (fun _ _ _ h => h) (Or.inl ⟨by rfl, ?_⟩) hHeld ?_ ?_
         rotate_left
         ·rintro w' ⟨s0, s1, s2⟩
          go_simp
          with_reducible rfl
         rotate_left
         ·simp only [Act.put, List.setIfInBounds_toArray, List.set_cons_zero, List.set_cons_succ, i64_w, i32_w]
          rfl
         refine join_ (σ := Value × Value × Nat) 2 #[true, true, true, true, true, true, true, true, false, false] (fun s_ => [(53, .string t285), (54, .tuple #[.agg #[s_.1, s_.2.1, .int .i64 t294], .bool true]), (8, .pointer (some ⟨s_.2.2, 0, none⟩)), (50, .tuple #[.agg #[s_.1, s_.2.1, .int .i64 t294], .bool true]), (55, .agg #[s_.1, s_.2.1, .int .i64 t294]), (56, .bool true)]) (fun s_ w' => (w'.cell? ⟨gb269, 0, none⟩ = some (.slice Ao61 x270000_1.length co61) ∧ w'.cell? ⟨gb269, 1, none⟩ = some (.slice Ao62 x270001_1.length co62) ∧ w'.cell? ⟨gb269, 2, none⟩ = some (.int .i64 x270002_1)) ∧ (Kd.R k57 57 w' w.heap.size (fun k_ => some k_ ≠ (s_.2.1 : Value).ownBlock ∧ some k_ ≠ (.slice Ao61 x270000_1.length co61 : Value).ownBlock ∧ some k_ ≠ (.slice Ao62 x270001_1.length co62 : Value).ownBlock) s_.1 t288) ∧ (Kd.R k57 57 w' w.heap.size (fun k_ => some k_ ≠ (s_.1 : Value).ownBlock ∧ some k_ ≠ (.slice Ao61 x270000_1.length co61 : Value).ownBlock ∧ some k_ ≠ (.slice Ao62 x270001_1.length co62 : Value).ownBlock) s_.2.1 t291) ∧ (Kd.R k57 57 w' w.heap.size (fun k_ => some k_ ≠ (s_.1 : Value).ownBlock ∧ some k_ ≠ (s_.2.1 : Value).ownBlock ∧ some k_ ≠ (.slice Ao62 x270001_1.length co62 : Value).ownBlock) (.slice Ao61 x270000_1.length co61) x270000_1) ∧ (Kd.R k57 57 w' w.heap.size (fun k_ => some k_ ≠ (s_.1 : Value).ownBlock ∧ some k_ ≠ (s_.2.1 : Value).ownBlock ∧ some k_ ≠ (.slice Ao61 x270000_1.length co61 : Value).ownBlock) (.slice Ao62 x270001_1.length co62) x270001_1) ∧ (w'.heap[gb254]? = some (.cells #[.slice none 0 0, .slice none 0 0, .int .i64 0] 26 (0, 0))) ∧ (w'.heap[gb269]? = some (.cells #[.slice Ao61 x270000_1.length co61, .slice Ao62 x270001_1.length co62, .int .i64 x270002_1] 26 (0, 0))) ∧ (w'.heap[s_.2.2]? = some (.cells #[.slice none 0 0, .slice none 0 0, .int .i64 0] 26 (0, 0))) ∧ (w.heap.size ≤ s_.2.2) ∧ (w0.heap.size ≤ s_.2.2) ∧ (g ≠ s_.2.2) ∧ (s_.2.2 ≠ g) ∧ (gb254 ≠ s_.2.2) ∧ (s_.2.2 ≠ gb254) ∧ (gb269 ≠ s_.2.2) ∧ (s_.2.2 ≠ gb269) ∧ (IsS85 w0 w' g s0_0 t286 t287) ∧ (KeepBut w w' g none) ∧ (Below w0.heap.size w0 w')) ?_ ?_
         rotate_left
         ·intro hCont
          refine two_ (i := 2) (j := 7) (Ni := some 53) (Nj := some 8) #[true, true, true, false, false, false, false, false, false, false] #[true, true, false, false, false, false, false, true, false, false] rfl rfl rfl rfl (two_of HT_.out (by kernel_rfl)) (by decide) (by decide) (fun K hK => ?_) (fun K hK => ?_)
          ·skip
           refine xG1 46 Try.func46 #[.pointer (some ⟨g, 0, none⟩)] (h := ?_)
           with_reducible refine (spec_l03Key.calls g s0_0 t274 t275 t285 t286 t287 w0 _ ?side1 ?side2 A58.out).mono ?_
           (case side1 => exact xH85 HI0.out)
           (case side2 => exact xWI HB.out (IsS85.ge HI0.out))
           rintro e w64 ⟨rfl, hi, hb, hk⟩
           refine ⟨_, rfl, ?_⟩
           replace HO_270000 := am (Kd.R_mono (Kd.R_keep (IsS85.apart (show IsS85 w0 _ g s0_0 t274 t275 from xH85 HI0.out) (xR HO_270000.out) (by decide)) hk (fun _ h => h.2)) (fun _ h => h.1))
           replace HO_270001 := am (Kd.R_mono (Kd.R_keep (IsS85.apart (show IsS85 w0 _ g s0_0 t274 t275 from xH85 HI0.out) (xR HO_270001.out) (by decide)) hk (fun _ h => h.2)) (fun _ h => h.1))
           replace BK254 := am (KeepBut.blk hk (g' := gb254) (o := .cells #[.slice none 0 0, .slice none 0 0, .int .i64 0] 26 (0, 0)) (xB BK254.out) NB254_0.out (by simp))
           replace BK269 := am (KeepBut.blk hk (g' := gb269) (o := .cells #[.slice Ao61 x270000_1.length co61, .slice Ao62 x270001_1.length co62, .int .i64 x270002_1] 26 (0, 0)) (xB BK269.out) NB269_0.out (by simp))
           replace HK := am (KeepBut.trans (xK HK.out) hk (.inl rfl))
           replace HB := am (hb)
           replace HI0 := am (hi)
           (try clear hb)
           (try clear hk)
           (try clear hi)
           refine hK.out _ _ (xC3 BK269.out) (fun hHeld => ?_)
           clear hK K
           refine xN1 (h := ?_)
           refine two_ (i := 3) (j := 7) (Ni := some 54) (Nj := some 8) #[true, true, true, true, false, false, false, false, false, false] #[true, true, true, false, false, false, false, true, false, false] rfl rfl rfl rfl (two_of HT_.out (by kernel_rfl)) (by decide) (by decide) (fun K hK => ?_) (fun K hK => ?_)
           ·skip
            refine xG1 33 Try.func33 #[.agg #[.slice Ao61 x270000_1.length co61, .slice Ao62 x270001_1.length co62, .int .i64 x270002_1], .string t285] (h := ?_)
            with_reducible refine (spec_TakeKey.calls kj52 _ _ x270000_1 _ _ x270001_1 x270002_1 t285 t288 t291 t294 true _ ?side1 ?side2 ?side3 ?side4 A59.out).mono ?_
            (case side1 => exact xC ((Kd.R_reads' HO_270000.out).2.2))
            (case side2 => exact (Kd.R_reads' HO_270000.out).2.1)
            (case side3 => exact xC ((Kd.R_reads' HO_270001.out).2.2))
            (case side4 => exact (Kd.R_reads' HO_270001.out).2.1)
            rintro e w65 ⟨v289, v292, rfl, ho0, ho1, hb⟩
            refine ⟨_, rfl, ?_⟩
            have HO290 := am (Kd.R_lower (Kd.R_new' (Kd.R_new' ho0 (Kd.R_lt (xR HO_270000.out))) (Kd.R_lt (xR HO_270001.out))) (xKZ HK.out))
            have HO293 := am (Kd.R_lower (Kd.R_new' (Kd.R_new' ho1 (Kd.R_lt (xR HO_270000.out))) (Kd.R_lt (xR HO_270001.out))) (xKZ HK.out))
            replace HO_270000 := am (Kd.R_mono (Kd.R_told (Kd.R_told (Kd.R_old (xR HO_270000.out) hb) (Kd.R_base ho0)) (Kd.R_base ho1)) (fun _ h_ => h_.1))
            replace HO_270001 := am (Kd.R_mono (Kd.R_told (Kd.R_told (Kd.R_old (xR HO_270001.out) hb) (Kd.R_base ho0)) (Kd.R_base ho1)) (fun _ h_ => h_.1))
            replace BK254 := am (blk_below (xB BK254.out) hb)
            replace BK269 := am (blk_below (xB BK269.out) hb)
            replace HK := am (xKB HK.out hb)
            replace HB := am (below_step (xWI HB.out (IsS85.ge HI0.out)) hb)
            replace HI0 := am (IsS85.below (xH85 HI0.out) hb)
            (try clear hb)
            (try clear ho0)
            (try clear ho1)
            refine hK.out _ _ (xC3 BK269.out) (fun hHeld => ?_)
            clear hK K
            refine xN1 (h := ?_)
            refine xP1 (i := 4) (N := some 50) #[true, true, true, true, true, false, false, false, false, false] (any_of HT_.out (by kernel_rfl)) (h := ?_)
            refine xP1 (i := 5) (N := some 55) #[true, true, true, true, true, true, false, false, false, false] (any_of HT_.out (by kernel_rfl)) (h := ?_)
            refine xP1 (i := 6) (N := some 56) #[true, true, true, true, true, true, true, false, false, false] (any_of HT_.out (by kernel_rfl)) (h := ?_)
            refine one_ (i := 7) (N := some 8) #[true, true, true, true, true, true, true, true, false, false] rfl rfl (one_of HT_.out (by kernel_rfl)) (by decide) (fun K hK => ?_)
            refine xE1 (N := 8) (cs := #[.slice none 0 0, .slice none 0 0, .int .i64 0]) (t := 26) (h := ?_)
            intro gb296 hg w66 hbox hb
            replace HO_270000 := am (Kd.R_below (xR HO_270000.out) hb)
            replace HO_270001 := am (Kd.R_below (xR HO_270001.out) hb)
            replace HO290 := am (Kd.R_below (xR HO290.out) hb)
            replace HO293 := am (Kd.R_below (xR HO293.out) hb)
            replace HB := am (below_step (xWI HB.out (IsS85.ge HI0.out)) hb)
            have BK296 := am (hbox)
            have GW296 := am ((xKS hg HK.out))
            have GE296 := am ((Nat.le_trans HW0.out (xKS hg HK.out)))
            replace HK := am (xKB HK.out hb)
            have NB254_296 := am (xN hg BK254.out)
            have NB296_254 := am (xM hg BK254.out)
            replace BK254 := am (blk_below (xB BK254.out) hb)
            have NB269_296 := am (xN hg BK269.out)
            have NB296_269 := am (xM hg BK269.out)
            replace BK269 := am (blk_below (xB BK269.out) hb)
            have NB0_296 := am ((xL hg (IsS85.lt (show IsS85 w0 _ g s0_0 t286 t287 from xH85 HI0.out))))
            have NB296_0 := am ((xLM hg (IsS85.lt (show IsS85 w0 _ g s0_0 t286 t287 from xH85 HI0.out))))
            replace HI0 := am (IsS85.below (xH85 HI0.out) hb)
            clear hb hbox hg
            refine hK.out _ _ (xC3 BK269.out) (fun hHeld => ?_)
            clear hK K
            refine xN1 (h := ?_)
            exact xN2 (hCont (v289, v292, gb296) _ ⟨hHeld, (Kd.R_mono (xR HO290.out) (fun _ hk => ⟨hk.1.1, ⟨hk.1.2, hk.2⟩⟩)), (Kd.R_mono (xR HO293.out) (fun _ hk => ⟨hk.1.1, ⟨hk.1.2, hk.2⟩⟩)), (Kd.R_mono (xR HO_270000.out) (fun _ hk => ⟨hk.1.2, ⟨hk.2, hk.1.1⟩⟩)), (Kd.R_mono (xR HO_270001.out) (fun _ hk => ⟨hk.1.2, ⟨hk.2, hk.1.1⟩⟩)), (xB BK254.out), (xB BK269.out), (xB BK296.out), GW296.out, GE296.out, NB0_296.out, NB296_0.out, NB254_296.out, NB296_254.out, NB269_296.out, NB296_269.out, (xH85 HI0.out), (xK HK.out), (xWI HB.out (IsS85.ge HI0.out))⟩)
           ·skip
            refine xE1 (N := 8) (cs := #[.slice none 0 0, .slice none 0 0, .int .i64 0]) (t := 26) (h := ?_)
            intro gb296 hg w65 hbox hb
            replace HO_270000 := am (Kd.R_below (xR HO_270000.out) hb)
            replace HO_270001 := am (Kd.R_below (xR HO_270001.out) hb)
            replace HB := am (below_step (xWI HB.out (IsS85.ge HI0.out)) hb)
            have BK296 := am (hbox)
            have GW296 := am ((xKS hg HK.out))
            have GE296 := am ((Nat.le_trans HW0.out (xKS hg HK.out)))
            replace HK := am (xKB HK.out hb)
            have NB254_296 := am (xN hg BK254.out)
            have NB296_254 := am (xM hg BK254.out)
            replace BK254 := am (blk_below (xB BK254.out) hb)
            have NB269_296 := am (xN hg BK269.out)
            have NB296_269 := am (xM hg BK269.out)
            replace BK269 := am (blk_below (xB BK269.out) hb)
            have NB0_296 := am ((xL hg (IsS85.lt (show IsS85 w0 _ g s0_0 t286 t287 from xH85 HI0.out))))
            have NB296_0 := am ((xLM hg (IsS85.lt (show IsS85 w0 _ g s0_0 t286 t287 from xH85 HI0.out))))
            replace HI0 := am (IsS85.below (xH85 HI0.out) hb)
            clear hb hbox hg
            refine hK.out _ _ (xC3 BK269.out) (fun hHeld => ?_)
            clear hK K
            refine xN1 (h := ?_)
            refine one_ (i := 3) (N := some 54) #[true, true, true, true, false, false, false, true, false, false] rfl rfl (one_of HT_.out (by kernel_rfl)) (by decide) (fun K hK => ?_)
            refine xG1 33 Try.func33 #[.agg #[.slice Ao61 x270000_1.length co61, .slice Ao62 x270001_1.length co62, .int .i64 x270002_1], .string t285] (h := ?_)
            with_reducible refine (spec_TakeKey.calls kj52 _ _ x270000_1 _ _ x270001_1 x270002_1 t285 t288 t291 t294 true _ ?side1 ?side2 ?side3 ?side4 A59.out).mono ?_
            (case side1 => exact xC ((Kd.R_reads' HO_270000.out).2.2))
            (case side2 => exact (Kd.R_reads' HO_270000.out).2.1)
            (case side3 => exact xC ((Kd.R_reads' HO_270001.out).2.2))
            (case side4 => exact (Kd.R_reads' HO_270001.out).2.1)
            rintro e w66 ⟨v289, v292, rfl, ho0, ho1, hb⟩
            refine ⟨_, rfl, ?_⟩
            have HO290 := am (Kd.R_lower (Kd.R_new' (Kd.R_new' ho0 (Kd.R_lt (xR HO_270000.out))) (Kd.R_lt (xR HO_270001.out))) (xKZ HK.out))
            have HO293 := am (Kd.R_lower (Kd.R_new' (Kd.R_new' ho1 (Kd.R_lt (xR HO_270000.out))) (Kd.R_lt (xR HO_270001.out))) (xKZ HK.out))
            replace HO_270000 := am (Kd.R_mono (Kd.R_told (Kd.R_told (Kd.R_old (xR HO_270000.out) hb) (Kd.R_base ho0)) (Kd.R_base ho1)) (fun _ h_ => h_.1))
            replace HO_270001 := am (Kd.R_mono (Kd.R_told (Kd.R_told (Kd.R_old (xR HO_270001.out) hb) (Kd.R_base ho0)) (Kd.R_base ho1)) (fun _ h_ => h_.1))
            replace BK254 := am (blk_below (xB BK254.out) hb)
            replace BK269 := am (blk_below (xB BK269.out) hb)
            replace BK296 := am (blk_below (xB BK296.out) hb)
            replace HK := am (xKB HK.out hb)
            replace HB := am (below_step (xWI HB.out (IsS85.ge HI0.out)) hb)
            replace HI0 := am (IsS85.below (xH85 HI0.out) hb)
            (try clear hb)
            (try clear ho0)
            (try clear ho1)
            refine hK.out _ _ (xC3 BK269.out) (fun hHeld => ?_)
            clear hK K
            refine xN1 (h := ?_)
            refine xP1 (i := 4) (N := some 50) #[true, true, true, true, true, false, false, true, false, false] (any_of HT_.out (by kernel_rfl)) (h := ?_)
            refine xP1 (i := 5) (N := some 55) #[true, true, true, true, true, true, false, true, false, false] (any_of HT_.out (by kernel_rfl)) (h := ?_)
            refine xP1 (i := 6) (N := some 56) #[true, true, true, true, true, true, true, true, false, false] (any_of HT_.out (by kernel_rfl)) (h := ?_)
            exact xN2 (hCont (v289, v292, gb296) _ ⟨hHeld, (Kd.R_mono (xR HO290.out) (fun _ hk => ⟨hk.1.1, ⟨hk.1.2, hk.2⟩⟩)), (Kd.R_mono (xR HO293.out) (fun _ hk => ⟨hk.1.1, ⟨hk.1.2, hk.2⟩⟩)), (Kd.R_mono (xR HO_270000.out) (fun _ hk => ⟨hk.1.2, ⟨hk.2, hk.1.1⟩⟩)), (Kd.R_mono (xR HO_270001.out) (fun _ hk => ⟨hk.1.2, ⟨hk.2, hk.1.1⟩⟩)), (xB BK254.out), (xB BK269.out), (xB BK296.out), GW296.out, GE296.out, NB0_296.out, NB296_0.out, NB254_296.out, NB296_254.out, NB269_296.out, NB296_269.out, (xH85 HI0.out), (xK HK.out), (xWI HB.out (IsS85.ge HI0.out))⟩)
          ·skip
           refine xE1 (N := 8) (cs := #[.slice none 0 0, .slice none 0 0, .int .i64 0]) (t := 26) (h := ?_)
           intro gb296 hg w64 hbox hb
           replace HO_270000 := am (Kd.R_below (xR HO_270000.out) hb)
           replace HO_270001 := am (Kd.R_below (xR HO_270001.out) hb)
           replace HB := am (below_step (xWI HB.out (IsS85.ge HI0.out)) hb)
           have BK296 := am (hbox)
           have GW296 := am ((xKS hg HK.out))
           have GE296 := am ((Nat.le_trans HW0.out (xKS hg HK.out)))
           replace HK := am (xKB HK.out hb)
           have NB254_296 := am (xN hg BK254.out)
           have NB296_254 := am (xM hg BK254.out)
           replace BK254 := am (blk_below (xB BK254.out) hb)
           have NB269_296 := am (xN hg BK269.out)
           have NB296_269 := am (xM hg BK269.out)
           replace BK269 := am (blk_below (xB BK269.out) hb)
           have NB0_296 := am ((xL hg (IsS85.lt (show IsS85 w0 _ g s0_0 t274 t275 from xH85 HI0.out))))
           have NB296_0 := am ((xLM hg (IsS85.lt (show IsS85 w0 _ g s0_0 t274 t275 from xH85 HI0.out))))
           replace HI0 := am (IsS85.below (xH85 HI0.out) hb)
           clear hb hbox hg
           refine hK.out _ _ (xC3 BK269.out) (fun hHeld => ?_)
           clear hK K
           refine xN1 (h := ?_)
           refine one_ (i := 2) (N := some 53) #[true, true, true, false, false, false, false, true, false, false] rfl rfl (one_of HT_.out (by kernel_rfl)) (by decide) (fun K hK => ?_)
           refine xG1 46 Try.func46 #[.pointer (some ⟨g, 0, none⟩)] (h := ?_)
           with_reducible refine (spec_l03Key.calls g s0_0 t274 t275 t285 t286 t287 w0 _ ?side1 ?side2 A58.out).mono ?_
           (case side1 => exact xH85 HI0.out)
           (case side2 => exact xWI HB.out (IsS85.ge HI0.out))
           rintro e w65 ⟨rfl, hi, hb, hk⟩
           refine ⟨_, rfl, ?_⟩
           replace HO_270000 := am (Kd.R_mono (Kd.R_keep (IsS85.apart (show IsS85 w0 _ g s0_0 t274 t275 from xH85 HI0.out) (xR HO_270000.out) (by decide)) hk (fun _ h => h.2)) (fun _ h => h.1))
           replace HO_270001 := am (Kd.R_mono (Kd.R_keep (IsS85.apart (show IsS85 w0 _ g s0_0 t274 t275 from xH85 HI0.out) (xR HO_270001.out) (by decide)) hk (fun _ h => h.2)) (fun _ h => h.1))
           replace BK254 := am (KeepBut.blk hk (g' := gb254) (o := .cells #[.slice none 0 0, .slice none 0 0, .int .i64 0] 26 (0, 0)) (xB BK254.out) NB254_0.out (by simp))
           replace BK269 := am (KeepBut.blk hk (g' := gb269) (o := .cells #[.slice Ao61 x270000_1.length co61, .slice Ao62 x270001_1.length co62, .int .i64 x270002_1] 26 (0, 0)) (xB BK269.out) NB269_0.out (by simp))
           replace BK296 := am (KeepBut.blk hk (g' := gb296) (o := .cells #[.slice none 0 0, .slice none 0 0, .int .i64 0] 26 (0, 0)) (xB BK296.out) NB296_0.out (by simp))
           replace HK := am (KeepBut.trans (xK HK.out) hk (.inl rfl))
           replace HB := am (hb)
           replace HI0 := am (hi)
           (try clear hb)
           (try clear hk)
           (try clear hi)
           refine hK.out _ _ (xC3 BK269.out) (fun hHeld => ?_)
           clear hK K
           refine xN1 (h := ?_)
           refine one_ (i := 3) (N := some 54) #[true, true, true, true, false, false, false, true, false, false] rfl rfl (one_of HT_.out (by kernel_rfl)) (by decide) (fun K hK => ?_)
           refine xG1 33 Try.func33 #[.agg #[.slice Ao61 x270000_1.length co61, .slice Ao62 x270001_1.length co62, .int .i64 x270002_1], .string t285] (h := ?_)
           with_reducible refine (spec_TakeKey.calls kj52 _ _ x270000_1 _ _ x270001_1 x270002_1 t285 t288 t291 t294 true _ ?side1 ?side2 ?side3 ?side4 A59.out).mono ?_
           (case side1 => exact xC ((Kd.R_reads' HO_270000.out).2.2))
           (case side2 => exact (Kd.R_reads' HO_270000.out).2.1)
           (case side3 => exact xC ((Kd.R_reads' HO_270001.out).2.2))
           (case side4 => exact (Kd.R_reads' HO_270001.out).2.1)
           rintro e w66 ⟨v289, v292, rfl, ho0, ho1, hb⟩
           refine ⟨_, rfl, ?_⟩
           have HO290 := am (Kd.R_lower (Kd.R_new' (Kd.R_new' ho0 (Kd.R_lt (xR HO_270000.out))) (Kd.R_lt (xR HO_270001.out))) (xKZ HK.out))
           have HO293 := am (Kd.R_lower (Kd.R_new' (Kd.R_new' ho1 (Kd.R_lt (xR HO_270000.out))) (Kd.R_lt (xR HO_270001.out))) (xKZ HK.out))
           replace HO_270000 := am (Kd.R_mono (Kd.R_told (Kd.R_told (Kd.R_old (xR HO_270000.out) hb) (Kd.R_base ho0)) (Kd.R_base ho1)) (fun _ h_ => h_.1))
           replace HO_270001 := am (Kd.R_mono (Kd.R_told (Kd.R_told (Kd.R_old (xR HO_270001.out) hb) (Kd.R_base ho0)) (Kd.R_base ho1)) (fun _ h_ => h_.1))
           replace BK254 := am (blk_below (xB BK254.out) hb)
           replace BK269 := am (blk_below (xB BK269.out) hb)
           replace BK296 := am (blk_below (xB BK296.out) hb)
           replace HK := am (xKB HK.out hb)
           replace HB := am (below_step (xWI HB.out (IsS85.ge HI0.out)) hb)
           replace HI0 := am (IsS85.below (xH85 HI0.out) hb)
           (try clear hb)
           (try clear ho0)
           (try clear ho1)
           refine hK.out _ _ (xC3 BK269.out) (fun hHeld => ?_)
           clear hK K
           refine xN1 (h := ?_)
           refine xP1 (i := 4) (N := some 50) #[true, true, true, true, true, false, false, true, false, false] (any_of HT_.out (by kernel_rfl)) (h := ?_)
           refine xP1 (i := 5) (N := some 55) #[true, true, true, true, true, true, false, true, false, false] (any_of HT_.out (by kernel_rfl)) (h := ?_)
           refine xP1 (i := 6) (N := some 56) #[true, true, true, true, true, true, true, true, false, false] (any_of HT_.out (by kernel_rfl)) (h := ?_)
           exact xN2 (hCont (v289, v292, gb296) _ ⟨hHeld, (Kd.R_mono (xR HO290.out) (fun _ hk => ⟨hk.1.1, ⟨hk.1.2, hk.2⟩⟩)), (Kd.R_mono (xR HO293.out) (fun _ hk => ⟨hk.1.1, ⟨hk.1.2, hk.2⟩⟩)), (Kd.R_mono (xR HO_270000.out) (fun _ hk => ⟨hk.1.2, ⟨hk.2, hk.1.1⟩⟩)), (Kd.R_mono (xR HO_270001.out) (fun _ hk => ⟨hk.1.2, ⟨hk.2, hk.1.1⟩⟩)), (xB BK254.out), (xB BK269.out), (xB BK296.out), GW296.out, GE296.out, NB0_296.out, NB296_0.out, NB254_296.out, NB296_254.out, NB269_296.out, NB296_269.out, (xH85 HI0.out), (xK HK.out), (xWI HB.out (IsS85.ge HI0.out))⟩)
         rintro ⟨v289, v292, gb296⟩ w67 ⟨hS_, h0_, h1_, h2_, h3_, h4_, h5_, h6_, h7_, h8_, h9_, h10_, h11_, h12_, h13_, h14_, h15_, h16_, h17_⟩
         have n0_ : Aside0 (Kd.R k57 57 w67 w.heap.size (fun k_ => some k_ ≠ (v292 : Value).ownBlock ∧ some k_ ≠ (.slice Ao61 x270000_1.length co61 : Value).ownBlock ∧ some k_ ≠ (.slice Ao62 x270001_1.length co62 : Value).ownBlock) v289 t288) := ⟨h0_⟩
         have n1_ : Aside0 (Kd.R k57 57 w67 w.heap.size (fun k_ => some k_ ≠ (v289 : Value).ownBlock ∧ some k_ ≠ (.slice Ao61 x270000_1.length co61 : Value).ownBlock ∧ some k_ ≠ (.slice Ao62 x270001_1.length co62 : Value).ownBlock) v292 t291) := ⟨h1_⟩
         have n2_ : Aside0 (Kd.R k57 57 w67 w.heap.size (fun k_ => some k_ ≠ (v289 : Value).ownBlock ∧ some k_ ≠ (v292 : Value).ownBlock ∧ some k_ ≠ (.slice Ao62 x270001_1.length co62 : Value).ownBlock) (.slice Ao61 x270000_1.length co61) x270000_1) := ⟨h2_⟩
         have n3_ : Aside0 (Kd.R k57 57 w67 w.heap.size (fun k_ => some k_ ≠ (v289 : Value).ownBlock ∧ some k_ ≠ (v292 : Value).ownBlock ∧ some k_ ≠ (.slice Ao61 x270000_1.length co61 : Value).ownBlock) (.slice Ao62 x270001_1.length co62) x270001_1) := ⟨h3_⟩
         have n4_ : Aside0 (w67.heap[gb254]? = some (.cells #[.slice none 0 0, .slice none 0 0, .int .i64 0] 26 (0, 0))) := ⟨h4_⟩
         have n5_ : Aside0 (w67.heap[gb269]? = some (.cells #[.slice Ao61 x270000_1.length co61, .slice Ao62 x270001_1.length co62, .int .i64 x270002_1] 26 (0, 0))) := ⟨h5_⟩
         have n6_ : Aside0 (w67.heap[gb296]? = some (.cells #[.slice none 0 0, .slice none 0 0, .int .i64 0] 26 (0, 0))) := ⟨h6_⟩
         have n7_ : Aside0 (w.heap.size ≤ gb296) := ⟨h7_⟩
         have n8_ : Aside0 (w0.heap.size ≤ gb296) := ⟨h8_⟩
         have n9_ : Aside0 (g ≠ gb296) := ⟨h9_⟩
         have n10_ : Aside0 (gb296 ≠ g) := ⟨h10_⟩
         have n11_ : Aside0 (gb254 ≠ gb296) := ⟨h11_⟩
         have n12_ : Aside0 (gb296 ≠ gb254) := ⟨h12_⟩
         have n13_ : Aside0 (gb269 ≠ gb296) := ⟨h13_⟩
         have n14_ : Aside0 (gb296 ≠ gb269) := ⟨h14_⟩
         have n15_ : Aside0 (IsS85 w0 w67 g s0_0 t286 t287) := ⟨h15_⟩
         have n16_ : Aside0 (KeepBut w w67 g none) := ⟨h16_⟩
         have n17_ : Aside0 (Below w0.heap.size w0 w67) := ⟨h17_⟩
         clear HO_270000
         clear HO_270001
         clear BK254
         clear BK269
         clear HI0
         clear HK
         clear HB
         clear h0_ h1_ h2_ h3_ h4_ h5_ h6_ h7_ h8_ h9_ h10_ h11_ h12_ h13_ h14_ h15_ h16_ h17_
         have HO290 := n0_
         have HO293 := n1_
         have HO_270000 := n2_
         have HO_270001 := n3_
         have BK254 := n4_
         have BK269 := n5_
         have BK296 := n6_
         have GW296 := n7_
         have GE296 := n8_
         have NB0_296 := n9_
         have NB296_0 := n10_
         have NB254_296 := n11_
         have NB296_254 := n12_
         have NB269_296 := n13_
         have NB296_269 := n14_
         have HI0 := n15_
         have HK := n16_
         have HB := n17_
         clear n0_ n1_ n2_ n3_ n4_ n5_ n6_ n7_ n8_ n9_ n10_ n11_ n12_ n13_ n14_ n15_ n16_ n17_
         have hHeld : w67.cell? ⟨gb269, 0, none⟩ = some (.slice Ao61 x270000_1.length co61) ∧ w67.cell? ⟨gb269, 1, none⟩ = some (.slice Ao62 x270001_1.length co62) ∧ w67.cell? ⟨gb269, 2, none⟩ = some (.int .i64 x270002_1) := hS_
         obtain ⟨Ao68, co68, eo68⟩ := Kd.R_slice HO290.out
         (first | subst eo68 | (injection eo68 with f1_ f2_ f3_; have f4_ := f1_.symm; have f5_ := f3_.symm; clear f1_ f2_ f3_; subst f4_; subst f5_))
         obtain ⟨Ao70, co70, eo70⟩ := Kd.R_slice HO293.out
         (first | subst eo70 | (injection eo70 with f1_ f2_ f3_; have f4_ := f1_.symm; have f5_ := f3_.symm; clear f1_ f2_ f3_; subst f4_; subst f5_))
         refine norm_ (a' := ?_) ?_ ?_
         rotate_left
         ·simp only [putAll, Act.put, List.setIfInBounds_toArray, List.set_cons_zero, List.set_cons_succ]
          rfl
         refine one_ (i := 8) (N := none) #[true, true, true, true, true, true, true, true, true, false] rfl rfl (one_of HT_.out (by kernel_rfl)) (by decide) (fun K hK => ?_)
         have hs69 : w67.cell? ⟨gb296, 0, none⟩ = some (.slice none 0 0) := (blk_cell BK296.out 0).trans rfl
         have hfs69 := blk_frozen BK296.out 0
         have hns69_0 := NB254_296.out
         have hns69_1 := NB269_296.out
         have hms69_0 := NB296_254.out
         have hms69_1 := NB296_269.out
         have hs71 : w67.cell? ⟨gb296, 1, none⟩ = some (.slice none 0 0) := (blk_cell BK296.out 1).trans rfl
         have hfs71 := blk_frozen BK296.out 1
         have hns71_0 := NB254_296.out
         have hns71_1 := NB269_296.out
         have hms71_0 := NB296_254.out
         have hms71_1 := NB296_269.out
         have hs72 : w67.cell? ⟨gb296, 2, none⟩ = some (.int .i64 0) := (blk_cell BK296.out 2).trans rfl
         have hfs72 := blk_frozen BK296.out 2
         have hns72_0 := NB254_296.out
         have hns72_1 := NB269_296.out
         have hms72_0 := NB296_254.out
         have hms72_1 := NB296_269.out
         refine skip_ (w1 := ?_) (by rfl) rfl ?_ ?_
         rotate_left
         ·go_simp
          rfl
         refine hK.out _ _ ⟨((cell_far (p := ⟨gb296, _, none⟩) NB269_296.out _).trans (((cell_far (p := ⟨gb296, _, none⟩) NB269_296.out _).trans (((cell_far (p := ⟨gb296, _, none⟩) NB269_296.out _).trans (hHeld.1)))))), ((cell_far (p := ⟨gb296, _, none⟩) NB269_296.out _).trans (((cell_far (p := ⟨gb296, _, none⟩) NB269_296.out _).trans (((cell_far (p := ⟨gb296, _, none⟩) NB269_296.out _).trans (hHeld.2.1)))))), ((cell_far (p := ⟨gb296, _, none⟩) NB269_296.out _).trans (((cell_far (p := ⟨gb296, _, none⟩) NB269_296.out _).trans (((cell_far (p := ⟨gb296, _, none⟩) NB269_296.out _).trans (hHeld.2.2))))))⟩ (fun hHeld => ?_)
         clear hK K
         refine xP1 (i := 9) (N := some 9) #[true, true, true, true, true, true, true, true, true, true] (any_of HT_.out (by kernel_rfl)) (h := ?_)
         refine done_ (done_of HT_.out (by kernel_rfl)) ?_
         have hnb73 := NB296_254.out
         have hnc73 := NB254_296.out
         have hnb74 := NB296_269.out
         have hnc74 := NB269_296.out
         have hnb75 := NB296_0.out
         have hnc75 := NB0_296.out
         obtain ⟨hcz76_0, hcz76_1, hcz76_2, hfz76_0, hfz76_1, hfz76_2⟩ := xT3 (W := w67) BK296.out
         have hnb77 := NB269_254.out
         have hnc77 := NB254_269.out
         have hnb78 := NB269_0.out
         have hnc78 := NB0_269.out
         obtain ⟨hcz79_0, hcz79_1, hcz79_2, hfz79_0, hfz79_1, hfz79_2⟩ := xT3 (W := w67) BK269.out
         try go_wp2
         go_roundg kj52
         case measure => have := HK1.out; have := HJ52.out; omega
         case rel => exact ⟨(wrap64 (x5_1 + 1)), (t286), (t287), (t288), (t291), (t294), (.slice Ao68 t288.length co68), (.slice Ao70 t291.length co70), (xQ), H', ⟨by have := HK1.out; have := HJ52.out; omega⟩, ⟨Kd.R_mono (xR HO290.out) (fun _ hk => hk.1)⟩, ⟨Kd.R_mono (xR HO293.out) (fun _ hk => hk.1)⟩, ⟨xB BK254.out⟩, ⟨xP BK269.out⟩, ⟨xH85 HI0.out⟩, ⟨xK HK.out⟩, ⟨xWI HB.out (IsS85.ge HI0.out)⟩⟩
        ·replace c60 := Bool.eq_false_iff.mpr c60
         subst c60
         have H1 : (spec_l04Table.l0 kj52 (wrap64 (x5_1 + 1)) s0_0 t286 t287 x270000_1 x270001_1 x270002_1) = some (r1, r2, r3, r4, r5) := by rw [if_neg (show ¬ (false = true) by decide)] at H; exact H
         clear H
         have H := H1
         clear H1
         have H' := am H
         clear H
         obtain ⟨Ao80, co80, eo80⟩ := Kd.R_slice HO_270000.out
         subst eo80
         obtain ⟨Ao81, co81, eo81⟩ := Kd.R_slice HO_270001.out
         subst eo81
         try go_wp2
         replace HO_270000 := am (Kd.R_drew HO_270000.out)
         replace HO_270001 := am (Kd.R_drew HO_270001.out)
         replace BK254 := am (blk_drew BK254.out)
         replace BK269 := am (blk_drew BK269.out)
         replace HI0 := am (IsS85.drew HI0.out)
         replace HK := am (keep_drew HK.out)
         replace HB := am (below_drew1 HB.out)
         refine start_ (n := 10) (S := fun w' => w'.cell? ⟨gb269, 0, none⟩ = some (.slice Ao80 x270000_1.length co80) ∧ w'.cell? ⟨gb269, 1, none⟩ = some (.slice Ao81 x270001_1.length co81) ∧ w'.cell? ⟨gb269, 2, none⟩ = some (.int .i64 x270002_1)) (ds := []) #[false, false, false, false, false, false, false, false, false, false] (by kernel_rfl) rfl rfl (xC3 BK269.out) (fun hHeld => ?_); refine with_tabW spec_l04Table.tab15 spec_l04Table.bits15 (fun HT_ HW_ => ?_)
         generalize wc.drew = w82 at HO_270000 HO_270001 BK254 BK269 HI0 HK HB hHeld ⊢
         refine xP1 (i := 1) (N := some 52) #[false, true, false, false, false, false, false, false, false, false] (any_of HT_.out (by kernel_rfl)) (h := ?_)
         refine take_ (i := 0) (N := some 51) (v := ?_) (a' := ?_) #[true, true, false, false, false, false, false, false, false, false] rfl rfl (take_ofW HT_.out HW_.out (by kernel_rfl)) (fun _ _ _ h => h) (Or.inl ⟨by rfl, ?_⟩) hHeld ?_ ?_
         rotate_left
         ·rintro w' ⟨s0, s1, s2⟩
          go_simp
          with_reducible rfl
         rotate_left
         ·simp only [Act.put, List.setIfInBounds_toArray, List.set_cons_zero, List.set_cons_succ, i64_w, i32_w]
          rfl
         refine join_ (σ := Value × Value × Nat) 2 #[true, true, true, true, true, true, true, true, false, false] (fun s_ => [(53, .string t285), (54, .tuple #[.agg #[s_.1, s_.2.1, .int .i64 t294], .bool false]), (8, .pointer (some ⟨s_.2.2, 0, none⟩)), (50, .tuple #[.agg #[s_.1, s_.2.1, .int .i64 t294], .bool false]), (55, .agg #[s_.1, s_.2.1, .int .i64 t294]), (56, .bool false)]) (fun s_ w' => (w'.cell? ⟨gb269, 0, none⟩ = some (.slice Ao80 x270000_1.length co80) ∧ w'.cell? ⟨gb269, 1, none⟩ = some (.slice Ao81 x270001_1.length co81) ∧ w'.cell? ⟨gb269, 2, none⟩ = some (.int .i64 x270002_1)) ∧ (Kd.R k57 57 w' w.heap.size (fun k_ => some k_ ≠ (s_.2.1 : Value).ownBlock ∧ some k_ ≠ (.slice Ao80 x270000_1.length co80 : Value).ownBlock ∧ some k_ ≠ (.slice Ao81 x270001_1.length co81 : Value).ownBlock) s_.1 t288) ∧ (Kd.R k57 57 w' w.heap.size (fun k_ => some k_ ≠ (s_.1 : Value).ownBlock ∧ some k_ ≠ (.slice Ao80 x270000_1.length co80 : Value).ownBlock ∧ some k_ ≠ (.slice Ao81 x270001_1.length co81 : Value).ownBlock) s_.2.1 t291) ∧ (Kd.R k57 57 w' w.heap.size (fun k_ => some k_ ≠ (s_.1 : Value).ownBlock ∧ some k_ ≠ (s_.2.1 : Value).ownBlock ∧ some k_ ≠ (.slice Ao81 x270001_1.length co81 : Value).ownBlock) (.slice Ao80 x270000_1.length co80) x270000_1) ∧ (Kd.R k57 57 w' w.heap.size (fun k_ => some k_ ≠ (s_.1 : Value).ownBlock ∧ some k_ ≠ (s_.2.1 : Value).ownBlock ∧ some k_ ≠ (.slice Ao80 x270000_1.length co80 : Value).ownBlock) (.slice Ao81 x270001_1.length co81) x270001_1) ∧ (w'.heap[gb254]? = some (.cells #[.slice none 0 0, .slice none 0 0, .int .i64 0] 26 (0, 0))) ∧ (w'.heap[gb269]? = some (.cells #[.slice Ao80 x270000_1.length co80, .slice Ao81 x270001_1.length co81, .int .i64 x270002_1] 26 (0, 0))) ∧ (w'.heap[s_.2.2]? = some (.cells #[.slice none 0 0, .slice none 0 0, .int .i64 0] 26 (0, 0))) ∧ (w.heap.size ≤ s_.2.2) ∧ (w0.heap.size ≤ s_.2.2) ∧ (g ≠ s_.2.2) ∧ (s_.2.2 ≠ g) ∧ (gb254 ≠ s_.2.2) ∧ (s_.2.2 ≠ gb254) ∧ (gb269 ≠ s_.2.2) ∧ (s_.2.2 ≠ gb269) ∧ (IsS85 w0 w' g s0_0 t286 t287) ∧ (KeepBut w w' g none) ∧ (Below w0.heap.size w0 w')) ?_ ?_
         rotate_left
         ·intro hCont
          refine two_ (i := 2) (j := 7) (Ni := some 53) (Nj := some 8) #[true, true, true, false, false, false, false, false, false, false] #[true, true, false, false, false, false, false, true, false, false] rfl rfl rfl rfl (two_of HT_.out (by kernel_rfl)) (by decide) (by decide) (fun K hK => ?_) (fun K hK => ?_)
          ·skip
           refine xG1 46 Try.func46 #[.pointer (some ⟨g, 0, none⟩)] (h := ?_)
           with_reducible refine (spec_l03Key.calls g s0_0 t274 t275 t285 t286 t287 w0 _ ?side1 ?side2 A58.out).mono ?_
           (case side1 => exact xH85 HI0.out)
           (case side2 => exact xWI HB.out (IsS85.ge HI0.out))
           rintro e w83 ⟨rfl, hi, hb, hk⟩
           refine ⟨_, rfl, ?_⟩
           replace HO_270000 := am (Kd.R_mono (Kd.R_keep (IsS85.apart (show IsS85 w0 _ g s0_0 t274 t275 from xH85 HI0.out) (xR HO_270000.out) (by decide)) hk (fun _ h => h.2)) (fun _ h => h.1))
           replace HO_270001 := am (Kd.R_mono (Kd.R_keep (IsS85.apart (show IsS85 w0 _ g s0_0 t274 t275 from xH85 HI0.out) (xR HO_270001.out) (by decide)) hk (fun _ h => h.2)) (fun _ h => h.1))
           replace BK254 := am (KeepBut.blk hk (g' := gb254) (o := .cells #[.slice none 0 0, .slice none 0 0, .int .i64 0] 26 (0, 0)) (xB BK254.out) NB254_0.out (by simp))
           replace BK269 := am (KeepBut.blk hk (g' := gb269) (o := .cells #[.slice Ao80 x270000_1.length co80, .slice Ao81 x270001_1.length co81, .int .i64 x270002_1] 26 (0, 0)) (xB BK269.out) NB269_0.out (by simp))
           replace HK := am (KeepBut.trans (xK HK.out) hk (.inl rfl))
           replace HB := am (hb)
           replace HI0 := am (hi)
           (try clear hb)
           (try clear hk)
           (try clear hi)
           refine hK.out _ _ (xC3 BK269.out) (fun hHeld => ?_)
           clear hK K
           refine xN1 (h := ?_)
           refine two_ (i := 3) (j := 7) (Ni := some 54) (Nj := some 8) #[true, true, true, true, false, false, false, false, false, false] #[true, true, true, false, false, false, false, true, false, false] rfl rfl rfl rfl (two_of HT_.out (by kernel_rfl)) (by decide) (by decide) (fun K hK => ?_) (fun K hK => ?_)
           ·skip
            refine xG1 33 Try.func33 #[.agg #[.slice Ao80 x270000_1.length co80, .slice Ao81 x270001_1.length co81, .int .i64 x270002_1], .string t285] (h := ?_)
            with_reducible refine (spec_TakeKey.calls kj52 _ _ x270000_1 _ _ x270001_1 x270002_1 t285 t288 t291 t294 false _ ?side1 ?side2 ?side3 ?side4 A59.out).mono ?_
            (case side1 => exact xC ((Kd.R_reads' HO_270000.out).2.2))
            (case side2 => exact (Kd.R_reads' HO_270000.out).2.1)
            (case side3 => exact xC ((Kd.R_reads' HO_270001.out).2.2))
            (case side4 => exact (Kd.R_reads' HO_270001.out).2.1)
            rintro e w84 ⟨v289, v292, rfl, ho0, ho1, hb⟩
            refine ⟨_, rfl, ?_⟩
            have HO290 := am (Kd.R_lower (Kd.R_new' (Kd.R_new' ho0 (Kd.R_lt (xR HO_270000.out))) (Kd.R_lt (xR HO_270001.out))) (xKZ HK.out))
            have HO293 := am (Kd.R_lower (Kd.R_new' (Kd.R_new' ho1 (Kd.R_lt (xR HO_270000.out))) (Kd.R_lt (xR HO_270001.out))) (xKZ HK.out))
            replace HO_270000 := am (Kd.R_mono (Kd.R_told (Kd.R_told (Kd.R_old (xR HO_270000.out) hb) (Kd.R_base ho0)) (Kd.R_base ho1)) (fun _ h_ => h_.1))
            replace HO_270001 := am (Kd.R_mono (Kd.R_told (Kd.R_told (Kd.R_old (xR HO_270001.out) hb) (Kd.R_base ho0)) (Kd.R_base ho1)) (fun _ h_ => h_.1))
            replace BK254 := am (blk_below (xB BK254.out) hb)
            replace BK269 := am (blk_below (xB BK269.out) hb)
            replace HK := am (xKB HK.out hb)
            replace HB := am (below_step (xWI HB.out (IsS85.ge HI0.out)) hb)
            replace HI0 := am (IsS85.below (xH85 HI0.out) hb)
            (try clear hb)
            (try clear ho0)
            (try clear ho1)
            refine hK.out _ _ (xC3 BK269.out) (fun hHeld => ?_)
            clear hK K
            refine xN1 (h := ?_)
            refine xP1 (i := 4) (N := some 50) #[true, true, true, true, true, false, false, false, false, false] (any_of HT_.out (by kernel_rfl)) (h := ?_)
            refine xP1 (i := 5) (N := some 55) #[true, true, true, true, true, true, false, false, false, false] (any_of HT_.out (by kernel_rfl)) (h := ?_)
            refine xP1 (i := 6) (N := some 56) #[true, true, true, true, true, true, true, false, false, false] (any_of HT_.out (by kernel_rfl)) (h := ?_)
            refine one_ (i := 7) (N := some 8) #[true, true, true, true, true, true, true, true, false, false] rfl rfl (one_of HT_.out (by kernel_rfl)) (by decide) (fun K hK => ?_)
            refine xE1 (N := 8) (cs := #[.slice none 0 0, .slice none 0 0, .int .i64 0]) (t := 26) (h := ?_)
            intro gb296 hg w85 hbox hb
            replace HO_270000 := am (Kd.R_below (xR HO_270000.out) hb)
            replace HO_270001 := am (Kd.R_below (xR HO_270001.out) hb)
            replace HO290 := am (Kd.R_below (xR HO290.out) hb)
            replace HO293 := am (Kd.R_below (xR HO293.out) hb)
            replace HB := am (below_step (xWI HB.out (IsS85.ge HI0.out)) hb)
            have BK296 := am (hbox)
            have GW296 := am ((xKS hg HK.out))
            have GE296 := am ((Nat.le_trans HW0.out (xKS hg HK.out)))
            replace HK := am (xKB HK.out hb)
            have NB254_296 := am (xN hg BK254.out)
            have NB296_254 := am (xM hg BK254.out)
            replace BK254 := am (blk_below (xB BK254.out) hb)
            have NB269_296 := am (xN hg BK269.out)
            have NB296_269 := am (xM hg BK269.out)
            replace BK269 := am (blk_below (xB BK269.out) hb)
            have NB0_296 := am ((xL hg (IsS85.lt (show IsS85 w0 _ g s0_0 t286 t287 from xH85 HI0.out))))
            have NB296_0 := am ((xLM hg (IsS85.lt (show IsS85 w0 _ g s0_0 t286 t287 from xH85 HI0.out))))
            replace HI0 := am (IsS85.below (xH85 HI0.out) hb)
            clear hb hbox hg
            refine hK.out _ _ (xC3 BK269.out) (fun hHeld => ?_)
            clear hK K
            refine xN1 (h := ?_)
            exact xN2 (hCont (v289, v292, gb296) _ ⟨hHeld, (Kd.R_mono (xR HO290.out) (fun _ hk => ⟨hk.1.1, ⟨hk.1.2, hk.2⟩⟩)), (Kd.R_mono (xR HO293.out) (fun _ hk => ⟨hk.1.1, ⟨hk.1.2, hk.2⟩⟩)), (Kd.R_mono (xR HO_270000.out) (fun _ hk => ⟨hk.1.2, ⟨hk.2, hk.1.1⟩⟩)), (Kd.R_mono (xR HO_270001.out) (fun _ hk => ⟨hk.1.2, ⟨hk.2, hk.1.1⟩⟩)), (xB BK254.out), (xB BK269.out), (xB BK296.out), GW296.out, GE296.out, NB0_296.out, NB296_0.out, NB254_296.out, NB296_254.out, NB269_296.out, NB296_269.out, (xH85 HI0.out), (xK HK.out), (xWI HB.out (IsS85.ge HI0.out))⟩)
           ·skip
            refine xE1 (N := 8) (cs := #[.slice none 0 0, .slice none 0 0, .int .i64 0]) (t := 26) (h := ?_)
            intro gb296 hg w84 hbox hb
            replace HO_270000 := am (Kd.R_below (xR HO_270000.out) hb)
            replace HO_270001 := am (Kd.R_below (xR HO_270001.out) hb)
            replace HB := am (below_step (xWI HB.out (IsS85.ge HI0.out)) hb)
            have BK296 := am (hbox)
            have GW296 := am ((xKS hg HK.out))
            have GE296 := am ((Nat.le_trans HW0.out (xKS hg HK.out)))
            replace HK := am (xKB HK.out hb)
            have NB254_296 := am (xN hg BK254.out)
            have NB296_254 := am (xM hg BK254.out)
            replace BK254 := am (blk_below (xB BK254.out) hb)
            have NB269_296 := am (xN hg BK269.out)
            have NB296_269 := am (xM hg BK269.out)
            replace BK269 := am (blk_below (xB BK269.out) hb)
            have NB0_296 := am ((xL hg (IsS85.lt (show IsS85 w0 _ g s0_0 t286 t287 from xH85 HI0.out))))
            have NB296_0 := am ((xLM hg (IsS85.lt (show IsS85 w0 _ g s0_0 t286 t287 from xH85 HI0.out))))
            replace HI0 := am (IsS85.below (xH85 HI0.out) hb)
            clear hb hbox hg
            refine hK.out _ _ (xC3 BK269.out) (fun hHeld => ?_)
            clear hK K
            refine xN1 (h := ?_)
            refine one_ (i := 3) (N := some 54) #[true, true, true, true, false, false, false, true, false, false] rfl rfl (one_of HT_.out (by kernel_rfl)) (by decide) (fun K hK => ?_)
            refine xG1 33 Try.func33 #[.agg #[.slice Ao80 x270000_1.length co80, .slice Ao81 x270001_1.length co81, .int .i64 x270002_1], .string t285] (h := ?_)
            with_reducible refine (spec_TakeKey.calls kj52 _ _ x270000_1 _ _ x270001_1 x270002_1 t285 t288 t291 t294 false _ ?side1 ?side2 ?side3 ?side4 A59.out).mono ?_
            (case side1 => exact xC ((Kd.R_reads' HO_270000.out).2.2))
            (case side2 => exact (Kd.R_reads' HO_270000.out).2.1)
            (case side3 => exact xC ((Kd.R_reads' HO_270001.out).2.2))
            (case side4 => exact (Kd.R_reads' HO_270001.out).2.1)
            rintro e w85 ⟨v289, v292, rfl, ho0, ho1, hb⟩
            refine ⟨_, rfl, ?_⟩
            have HO290 := am (Kd.R_lower (Kd.R_new' (Kd.R_new' ho0 (Kd.R_lt (xR HO_270000.out))) (Kd.R_lt (xR HO_270001.out))) (xKZ HK.out))
            have HO293 := am (Kd.R_lower (Kd.R_new' (Kd.R_new' ho1 (Kd.R_lt (xR HO_270000.out))) (Kd.R_lt (xR HO_270001.out))) (xKZ HK.out))
            replace HO_270000 := am (Kd.R_mono (Kd.R_told (Kd.R_told (Kd.R_old (xR HO_270000.out) hb) (Kd.R_base ho0)) (Kd.R_base ho1)) (fun _ h_ => h_.1))
            replace HO_270001 := am (Kd.R_mono (Kd.R_told (Kd.R_told (Kd.R_old (xR HO_270001.out) hb) (Kd.R_base ho0)) (Kd.R_base ho1)) (fun _ h_ => h_.1))
            replace BK254 := am (blk_below (xB BK254.out) hb)
            replace BK269 := am (blk_below (xB BK269.out) hb)
            replace BK296 := am (blk_below (xB BK296.out) hb)
            replace HK := am (xKB HK.out hb)
            replace HB := am (below_step (xWI HB.out (IsS85.ge HI0.out)) hb)
            replace HI0 := am (IsS85.below (xH85 HI0.out) hb)
            (try clear hb)
            (try clear ho0)
            (try clear ho1)
            refine hK.out _ _ (xC3 BK269.out) (fun hHeld => ?_)
            clear hK K
            refine xN1 (h := ?_)
            refine xP1 (i := 4) (N := some 50) #[true, true, true, true, true, false, false, true, false, false] (any_of HT_.out (by kernel_rfl)) (h := ?_)
            refine xP1 (i := 5) (N := some 55) #[true, true, true, true, true, true, false, true, false, false] (any_of HT_.out (by kernel_rfl)) (h := ?_)
            refine xP1 (i := 6) (N := some 56) #[true, true, true, true, true, true, true, true, false, false] (any_of HT_.out (by kernel_rfl)) (h := ?_)
            exact xN2 (hCont (v289, v292, gb296) _ ⟨hHeld, (Kd.R_mono (xR HO290.out) (fun _ hk => ⟨hk.1.1, ⟨hk.1.2, hk.2⟩⟩)), (Kd.R_mono (xR HO293.out) (fun _ hk => ⟨hk.1.1, ⟨hk.1.2, hk.2⟩⟩)), (Kd.R_mono (xR HO_270000.out) (fun _ hk => ⟨hk.1.2, ⟨hk.2, hk.1.1⟩⟩)), (Kd.R_mono (xR HO_270001.out) (fun _ hk => ⟨hk.1.2, ⟨hk.2, hk.1.1⟩⟩)), (xB BK254.out), (xB BK269.out), (xB BK296.out), GW296.out, GE296.out, NB0_296.out, NB296_0.out, NB254_296.out, NB296_254.out, NB269_296.out, NB296_269.out, (xH85 HI0.out), (xK HK.out), (xWI HB.out (IsS85.ge HI0.out))⟩)
          ·skip
           refine xE1 (N := 8) (cs := #[.slice none 0 0, .slice none 0 0, .int .i64 0]) (t := 26) (h := ?_)
           intro gb296 hg w83 hbox hb
           replace HO_270000 := am (Kd.R_below (xR HO_270000.out) hb)
           replace HO_270001 := am (Kd.R_below (xR HO_270001.out) hb)
           replace HB := am (below_step (xWI HB.out (IsS85.ge HI0.out)) hb)
           have BK296 := am (hbox)
           have GW296 := am ((xKS hg HK.out))
           have GE296 := am ((Nat.le_trans HW0.out (xKS hg HK.out)))
           replace HK := am (xKB HK.out hb)
           have NB254_296 := am (xN hg BK254.out)
           have NB296_254 := am (xM hg BK254.out)
           replace BK254 := am (blk_below (xB BK254.out) hb)
           have NB269_296 := am (xN hg BK269.out)
           have NB296_269 := am (xM hg BK269.out)
           replace BK269 := am (blk_below (xB BK269.out) hb)
           have NB0_296 := am ((xL hg (IsS85.lt (show IsS85 w0 _ g s0_0 t274 t275 from xH85 HI0.out))))
           have NB296_0 := am ((xLM hg (IsS85.lt (show IsS85 w0 _ g s0_0 t274 t275 from xH85 HI0.out))))
           replace HI0 := am (IsS85.below (xH85 HI0.out) hb)
           clear hb hbox hg
           refine hK.out _ _ (xC3 BK269.out) (fun hHeld => ?_)
           clear hK K
           refine xN1 (h := ?_)
           refine one_ (i := 2) (N := some 53) #[true, true, true, false, false, false, false, true, false, false] rfl rfl (one_of HT_.out (by kernel_rfl)) (by decide) (fun K hK => ?_)
           refine xG1 46 Try.func46 #[.pointer (some ⟨g, 0, none⟩)] (h := ?_)
           with_reducible refine (spec_l03Key.calls g s0_0 t274 t275 t285 t286 t287 w0 _ ?side1 ?side2 A58.out).mono ?_
           (case side1 => exact xH85 HI0.out)
           (case side2 => exact xWI HB.out (IsS85.ge HI0.out))
           rintro e w84 ⟨rfl, hi, hb, hk⟩
           refine ⟨_, rfl, ?_⟩
           replace HO_270000 := am (Kd.R_mono (Kd.R_keep (IsS85.apart (show IsS85 w0 _ g s0_0 t274 t275 from xH85 HI0.out) (xR HO_270000.out) (by decide)) hk (fun _ h => h.2)) (fun _ h => h.1))
           replace HO_270001 := am (Kd.R_mono (Kd.R_keep (IsS85.apart (show IsS85 w0 _ g s0_0 t274 t275 from xH85 HI0.out) (xR HO_270001.out) (by decide)) hk (fun _ h => h.2)) (fun _ h => h.1))
           replace BK254 := am (KeepBut.blk hk (g' := gb254) (o := .cells #[.slice none 0 0, .slice none 0 0, .int .i64 0] 26 (0, 0)) (xB BK254.out) NB254_0.out (by simp))
           replace BK269 := am (KeepBut.blk hk (g' := gb269) (o := .cells #[.slice Ao80 x270000_1.length co80, .slice Ao81 x270001_1.length co81, .int .i64 x270002_1] 26 (0, 0)) (xB BK269.out) NB269_0.out (by simp))
           replace BK296 := am (KeepBut.blk hk (g' := gb296) (o := .cells #[.slice none 0 0, .slice none 0 0, .int .i64 0] 26 (0, 0)) (xB BK296.out) NB296_0.out (by simp))
           replace HK := am (KeepBut.trans (xK HK.out) hk (.inl rfl))
           replace HB := am (hb)
           replace HI0 := am (hi)
           (try clear hb)
           (try clear hk)
           (try clear hi)
           refine hK.out _ _ (xC3 BK269.out) (fun hHeld => ?_)
           clear hK K
           refine xN1 (h := ?_)
           refine one_ (i := 3) (N := some 54) #[true, true, true, true, false, false, false, true, false, false] rfl rfl (one_of HT_.out (by kernel_rfl)) (by decide) (fun K hK => ?_)
           refine xG1 33 Try.func33 #[.agg #[.slice Ao80 x270000_1.length co80, .slice Ao81 x270001_1.length co81, .int .i64 x270002_1], .string t285] (h := ?_)
           with_reducible refine (spec_TakeKey.calls kj52 _ _ x270000_1 _ _ x270001_1 x270002_1 t285 t288 t291 t294 false _ ?side1 ?side2 ?side3 ?side4 A59.out).mono ?_
           (case side1 => exact xC ((Kd.R_reads' HO_270000.out).2.2))
           (case side2 => exact (Kd.R_reads' HO_270000.out).2.1)
           (case side3 => exact xC ((Kd.R_reads' HO_270001.out).2.2))
           (case side4 => exact (Kd.R_reads' HO_270001.out).2.1)
           rintro e w85 ⟨v289, v292, rfl, ho0, ho1, hb⟩
           refine ⟨_, rfl, ?_⟩
           have HO290 := am (Kd.R_lower (Kd.R_new' (Kd.R_new' ho0 (Kd.R_lt (xR HO_270000.out))) (Kd.R_lt (xR HO_270001.out))) (xKZ HK.out))
           have HO293 := am (Kd.R_lower (Kd.R_new' (Kd.R_new' ho1 (Kd.R_lt (xR HO_270000.out))) (Kd.R_lt (xR HO_270001.out))) (xKZ HK.out))
           replace HO_270000 := am (Kd.R_mono (Kd.R_told (Kd.R_told (Kd.R_old (xR HO_270000.out) hb) (Kd.R_base ho0)) (Kd.R_base ho1)) (fun _ h_ => h_.1))
           replace HO_270001 := am (Kd.R_mono (Kd.R_told (Kd.R_told (Kd.R_old (xR HO_270001.out) hb) (Kd.R_base ho0)) (Kd.R_base ho1)) (fun _ h_ => h_.1))
           replace BK254 := am (blk_below (xB BK254.out) hb)
           replace BK269 := am (blk_below (xB BK269.out) hb)
           replace BK296 := am (blk_below (xB BK296.out) hb)
           replace HK := am (xKB HK.out hb)
           replace HB := am (below_step (xWI HB.out (IsS85.ge HI0.out)) hb)
           replace HI0 := am (IsS85.below (xH85 HI0.out) hb)
           (try clear hb)
           (try clear ho0)
           (try clear ho1)
           refine hK.out _ _ (xC3 BK269.out) (fun hHeld => ?_)
           clear hK K
           refine xN1 (h := ?_)
           refine xP1 (i := 4) (N := some 50) #[true, true, true, true, true, false, false, true, false, false] (any_of HT_.out (by kernel_rfl)) (h := ?_)
           refine xP1 (i := 5) (N := some 55) #[true, true, true, true, true, true, false, true, false, false] (any_of HT_.out (by kernel_rfl)) (h := ?_)
           refine xP1 (i := 6) (N := some 56) #[true, true, true, true, true, true, true, true, false, false] (any_of HT_.out (by kernel_rfl)) (h := ?_)
           exact xN2 (hCont (v289, v292, gb296) _ ⟨hHeld, (Kd.R_mono (xR HO290.out) (fun _ hk => ⟨hk.1.1, ⟨hk.1.2, hk.2⟩⟩)), (Kd.R_mono (xR HO293.out) (fun _ hk => ⟨hk.1.1, ⟨hk.1.2, hk.2⟩⟩)), (Kd.R_mono (xR HO_270000.out) (fun _ hk => ⟨hk.1.2, ⟨hk.2, hk.1.1⟩⟩)), (Kd.R_mono (xR HO_270001.out) (fun _ hk => ⟨hk.1.2, ⟨hk.2, hk.1.1⟩⟩)), (xB BK254.out), (xB BK269.out), (xB BK296.out), GW296.out, GE296.out, NB0_296.out, NB296_0.out, NB254_296.out, NB296_254.out, NB269_296.out, NB296_269.out, (xH85 HI0.out), (xK HK.out), (xWI HB.out (IsS85.ge HI0.out))⟩)
         rintro ⟨v289, v292, gb296⟩ w86 ⟨hS_, h0_, h1_, h2_, h3_, h4_, h5_, h6_, h7_, h8_, h9_, h10_, h11_, h12_, h13_, h14_, h15_, h16_, h17_⟩
         have n0_ : Aside0 (Kd.R k57 57 w86 w.heap.size (fun k_ => some k_ ≠ (v292 : Value).ownBlock ∧ some k_ ≠ (.slice Ao80 x270000_1.length co80 : Value).ownBlock ∧ some k_ ≠ (.slice Ao81 x270001_1.length co81 : Value).ownBlock) v289 t288) := ⟨h0_⟩
         have n1_ : Aside0 (Kd.R k57 57 w86 w.heap.size (fun k_ => some k_ ≠ (v289 : Value).ownBlock ∧ some k_ ≠ (.slice Ao80 x270000_1.length co80 : Value).ownBlock ∧ some k_ ≠ (.slice Ao81 x270001_1.length co81 : Value).ownBlock) v292 t291) := ⟨h1_⟩
         have n2_ : Aside0 (Kd.R k57 57 w86 w.heap.size (fun k_ => some k_ ≠ (v289 : Value).ownBlock ∧ some k_ ≠ (v292 : Value).ownBlock ∧ some k_ ≠ (.slice Ao81 x270001_1.length co81 : Value).ownBlock) (.slice Ao80 x270000_1.length co80) x270000_1) := ⟨h2_⟩
         have n3_ : Aside0 (Kd.R k57 57 w86 w.heap.size (fun k_ => some k_ ≠ (v289 : Value).ownBlock ∧ some k_ ≠ (v292 : Value).ownBlock ∧ some k_ ≠ (.slice Ao80 x270000_1.length co80 : Value).ownBlock) (.slice Ao81 x270001_1.length co81) x270001_1) := ⟨h3_⟩
         have n4_ : Aside0 (w86.heap[gb254]? = some (.cells #[.slice none 0 0, .slice none 0 0, .int .i64 0] 26 (0, 0))) := ⟨h4_⟩
         have n5_ : Aside0 (w86.heap[gb269]? = some (.cells #[.slice Ao80 x270000_1.length co80, .slice Ao81 x270001_1.length co81, .int .i64 x270002_1] 26 (0, 0))) := ⟨h5_⟩
         have n6_ : Aside0 (w86.heap[gb296]? = some (.cells #[.slice none 0 0, .slice none 0 0, .int .i64 0] 26 (0, 0))) := ⟨h6_⟩
         have n7_ : Aside0 (w.heap.size ≤ gb296) := ⟨h7_⟩
         have n8_ : Aside0 (w0.heap.size ≤ gb296) := ⟨h8_⟩
         have n9_ : Aside0 (g ≠ gb296) := ⟨h9_⟩
         have n10_ : Aside0 (gb296 ≠ g) := ⟨h10_⟩
         have n11_ : Aside0 (gb254 ≠ gb296) := ⟨h11_⟩
         have n12_ : Aside0 (gb296 ≠ gb254) := ⟨h12_⟩
         have n13_ : Aside0 (gb269 ≠ gb296) := ⟨h13_⟩
         have n14_ : Aside0 (gb296 ≠ gb269) := ⟨h14_⟩
         have n15_ : Aside0 (IsS85 w0 w86 g s0_0 t286 t287) := ⟨h15_⟩
         have n16_ : Aside0 (KeepBut w w86 g none) := ⟨h16_⟩
         have n17_ : Aside0 (Below w0.heap.size w0 w86) := ⟨h17_⟩
         clear HO_270000
         clear HO_270001
         clear BK254
         clear BK269
         clear HI0
         clear HK
         clear HB
         clear h0_ h1_ h2_ h3_ h4_ h5_ h6_ h7_ h8_ h9_ h10_ h11_ h12_ h13_ h14_ h15_ h16_ h17_
         have HO290 := n0_
         have HO293 := n1_
         have HO_270000 := n2_
         have HO_270001 := n3_
         have BK254 := n4_
         have BK269 := n5_
         have BK296 := n6_
         have GW296 := n7_
         have GE296 := n8_
         have NB0_296 := n9_
         have NB296_0 := n10_
         have NB254_296 := n11_
         have NB296_254 := n12_
         have NB269_296 := n13_
         have NB296_269 := n14_
         have HI0 := n15_
         have HK := n16_
         have HB := n17_
         clear n0_ n1_ n2_ n3_ n4_ n5_ n6_ n7_ n8_ n9_ n10_ n11_ n12_ n13_ n14_ n15_ n16_ n17_
         have hHeld : w86.cell? ⟨gb269, 0, none⟩ = some (.slice Ao80 x270000_1.length co80) ∧ w86.cell? ⟨gb269, 1, none⟩ = some (.slice Ao81 x270001_1.length co81) ∧ w86.cell? ⟨gb269, 2, none⟩ = some (.int .i64 x270002_1) := hS_
         obtain ⟨Ao87, co87, eo87⟩ := Kd.R_slice HO290.out
         (first | subst eo87 | (injection eo87 with f1_ f2_ f3_; have f4_ := f1_.symm; have f5_ := f3_.symm; clear f1_ f2_ f3_; subst f4_; subst f5_))
         obtain ⟨Ao89, co89, eo89⟩ := Kd.R_slice HO293.out
         (first | subst eo89 | (injection eo89 with f1_ f2_ f3_; have f4_ := f1_.symm; have f5_ := f3_.symm; clear f1_ f2_ f3_; subst f4_; subst f5_))
         refine norm_ (a' := ?_) ?_ ?_
         rotate_left
         ·simp only [putAll, Act.put, List.setIfInBounds_toArray, List.set_cons_zero, List.set_cons_succ]
          rfl
         refine one_ (i := 8) (N := none) #[true, true, true, true, true, true, true, true, true, false] rfl rfl (one_of HT_.out (by kernel_rfl)) (by decide) (fun K hK => ?_)
         have hs88 : w86.cell? ⟨gb296, 0, none⟩ = some (.slice none 0 0) := (blk_cell BK296.out 0).trans rfl
         have hfs88 := blk_frozen BK296.out 0
         have hns88_0 := NB254_296.out
         have hns88_1 := NB269_296.out
         have hms88_0 := NB296_254.out
         have hms88_1 := NB296_269.out
         have hs90 : w86.cell? ⟨gb296, 1, none⟩ = some (.slice none 0 0) := (blk_cell BK296.out 1).trans rfl
         have hfs90 := blk_frozen BK296.out 1
         have hns90_0 := NB254_296.out
         have hns90_1 := NB269_296.out
         have hms90_0 := NB296_254.out
         have hms90_1 := NB296_269.out
         have hs91 : w86.cell? ⟨gb296, 2, none⟩ = some (.int .i64 0) := (blk_cell BK296.out 2).trans rfl
         have hfs91 := blk_frozen BK296.out 2
         have hns91_0 := NB254_296.out
         have hns91_1 := NB269_296.out
         have hms91_0 := NB296_254.out
         have hms91_1 := NB296_269.out
         refine skip_ (w1 := ?_) (by rfl) rfl ?_ ?_
         rotate_left
         ·go_simp
          rfl
         refine hK.out _ _ ⟨((cell_far (p := ⟨gb296, _, none⟩) NB269_296.out _).trans (((cell_far (p := ⟨gb296, _, none⟩) NB269_296.out _).trans (((cell_far (p := ⟨gb296, _, none⟩) NB269_296.out _).trans (hHeld.1)))))), ((cell_far (p := ⟨gb296, _, none⟩) NB269_296.out _).trans (((cell_far (p := ⟨gb296, _, none⟩) NB269_296.out _).trans (((cell_far (p := ⟨gb296, _, none⟩) NB269_296.out _).trans (hHeld.2.1)))))), ((cell_far (p := ⟨gb296, _, none⟩) NB269_296.out _).trans (((cell_far (p := ⟨gb296, _, none⟩) NB269_296.out _).trans (((cell_far (p := ⟨gb296, _, none⟩) NB269_296.out _).trans (hHeld.2.2))))))⟩ (fun hHeld => ?_)
         clear hK K
         refine xP1 (i := 9) (N := some 9) #[true, true, true, true, true, true, true, true, true, true] (any_of HT_.out (by kernel_rfl)) (h := ?_)
         refine done_ (done_of HT_.out (by kernel_rfl)) ?_
         try go_wp2
         go_roundg kj52
         case measure => have := HK1.out; have := HJ52.out; omega
         case rel => exact ⟨(wrap64 (x5_1 + 1)), (t286), (t287), (x270000_1), (x270001_1), (x270002_1), (.slice Ao80 x270000_1.length co80), (.slice Ao81 x270001_1.length co81), (xQ), H', ⟨by have := HK1.out; have := HJ52.out; omega⟩, ⟨Kd.R_mono (xR HO_270000.out) (fun _ hk => hk.2.2)⟩, ⟨Kd.R_mono (xR HO_270001.out) (fun _ hk => hk.2.2)⟩, ⟨xB BK254.out⟩, ⟨xB BK269.out⟩, ⟨xH85 HI0.out⟩, ⟨xK HK.out⟩, ⟨xWI HB.out (IsS85.ge HI0.out)⟩⟩
       ·replace c57 := Bool.eq_false_iff.mpr c57
        subst c57
        have H1 : (if t273 = 3 then ((spec_l01Below.f s0_0 t274 t275 4).bind fun bt297 => ((spec_MoveSome.f kj52 x270000_1 x270001_1 x270002_1 bt297.1).bind fun bt300 => (spec_l04Table.l0 kj52 (wrap64 (x5_1 + 1)) s0_0 bt297.2.1 bt297.2.2 bt300.1 bt300.2.1 bt300.2.2))) else ((spec_l03Key.f s0_0 t274 t275).bind fun bt307 => ((spec_l01Below.f s0_0 bt307.2.1 bt307.2.2 50).bind fun bt310 => ((spec_PutKey.f kj52 x270000_1 x270001_1 x270002_1 bt307.1 bt310.1).bind fun bt313 => (if bt313.2.2.2 = true then (spec_l04Table.l0 kj52 (wrap64 (x5_1 + 1)) s0_0 bt310.2.1 bt310.2.2 bt313.1 bt313.2.1 bt313.2.2.1) else (spec_l04Table.l0 kj52 (wrap64 (x5_1 + 1)) s0_0 bt310.2.1 bt310.2.2 x270000_1 x270001_1 x270002_1)))))) = some (r1, r2, r3, r4, r5) := by rw [if_neg (show ¬ (false = true) by decide)] at H; exact H
        clear H
        have H := H1
        clear H1
        by_cases c92 : t273 = 3
        ·rw [if_pos c92] at H
         have c92b0 : (t273 == 3) = true := beq_iff_eq.mpr c92
         have c92b1 : (t273 != 3) = false := bne_eq_false_iff_eq.mpr c92
         clear c92
         replace H := Option.bind_eq_some_iff.mp H
         obtain ⟨⟨t297, t298, t299⟩, A930, H⟩ := H
         try dsimp only at H
         have A93 := am A930
         clear A930
         replace H := Option.bind_eq_some_iff.mp H
         obtain ⟨⟨t300, t303, t306⟩, A940, H⟩ := H
         try dsimp only at H
         have A94 := am A940
         clear A940
         have H' := am H
         clear H
         try go_wp2
         replace HO_270000 := am (Kd.R_drew HO_270000.out)
         replace HO_270001 := am (Kd.R_drew HO_270001.out)
         replace BK254 := am (blk_drew BK254.out)
         replace BK269 := am (blk_drew BK269.out)
         replace HI0 := am (IsS85.drew HI0.out)
         replace HK := am (keep_drew HK.out)
         replace HB := am (below_drew1 HB.out)
         refine start_ (n := 5) (S := fun w' => w'.cell? ⟨gb269, 0, none⟩ = some (u270000) ∧ w'.cell? ⟨gb269, 1, none⟩ = some (u270001) ∧ w'.cell? ⟨gb269, 2, none⟩ = some (.int .i64 x270002_1)) (ds := [4]) #[false, false, false, false, false] (by kernel_rfl) rfl rfl (xC3 BK269.out) (fun hHeld => ?_)
         generalize wc.drew = w95 at HO_270000 HO_270001 BK254 BK269 HI0 HK HB hHeld ⊢
         refine pure_ (i := 1) (N := some 62) (v := ?_) (a' := ?_) #[false, true, false, false, false] rfl rfl (by kernel_rfl) (fun _ _ _ h => h) (Or.inl ⟨by rfl, ?_⟩) ?_ ?_
         rotate_left
         ·intro w'
          go_simp
          with_reducible rfl
         rotate_left
         ·simp only [Act.put, List.setIfInBounds_toArray, List.set_cons_zero, List.set_cons_succ, i64_w, i32_w]
          rfl
         refine take_ (i := 0) (N := some 61) (v := ?_) (a' := ?_) #[true, true, false, false, false] rfl rfl (by kernel_rfl) (fun _ _ _ h => h) (Or.inl ⟨by rfl, ?_⟩) hHeld ?_ ?_
         rotate_left
         ·rintro w' ⟨s0, s1, s2⟩
          go_simp
          with_reducible rfl
         rotate_left
         ·simp only [Act.put, List.setIfInBounds_toArray, List.set_cons_zero, List.set_cons_succ, i64_w, i32_w]
          rfl
         refine one_ (i := 2) (N := some 63) #[true, true, true, false, false] rfl rfl (by kernel_rfl) (by decide) (fun K hK => ?_)
         refine xG1 57 Try.func57 #[.pointer (some ⟨g, 0, none⟩), .int .i64 4] (h := ?_)
         with_reducible refine (spec_l01Below.calls g s0_0 t274 t275 4 t297 t298 t299 w0 _ ?side1 ?side2 A93.out).mono ?_
         (case side1 => exact xH85 HI0.out)
         (case side2 => exact xWI HB.out (IsS85.ge HI0.out))
         rintro e w96 ⟨rfl, hi, hb, hk⟩
         refine ⟨_, rfl, ?_⟩
         replace HO_270000 := am (Kd.R_mono (Kd.R_keep (IsS85.apart (show IsS85 w0 _ g s0_0 t274 t275 from xH85 HI0.out) (xR HO_270000.out) (by decide)) hk (fun _ h => h.2)) (fun _ h => h.1))
         replace HO_270001 := am (Kd.R_mono (Kd.R_keep (IsS85.apart (show IsS85 w0 _ g s0_0 t274 t275 from xH85 HI0.out) (xR HO_270001.out) (by decide)) hk (fun _ h => h.2)) (fun _ h => h.1))
         replace BK254 := am (KeepBut.blk hk (g' := gb254) (o := .cells #[.slice none 0 0, .slice none 0 0, .int .i64 0] 26 (0, 0)) (xB BK254.out) NB254_0.out (by simp))
         replace BK269 := am (KeepBut.blk hk (g' := gb269) (o := .cells #[u270000, u270001, .int .i64 x270002_1] 26 (0, 0)) (xB BK269.out) NB269_0.out (by simp))
         replace HK := am (KeepBut.trans (xK HK.out) hk (.inl rfl))
         replace HB := am (hb)
         replace HI0 := am (hi)
         (try clear hb)
         (try clear hk)
         (try clear hi)
         obtain ⟨Ao97, co97, eo97⟩ := Kd.R_slice HO_270000.out
         (first | subst eo97 | (injection eo97 with f1_ f2_ f3_; have f4_ := f1_.symm; have f5_ := f3_.symm; clear f1_ f2_ f3_; subst f4_; subst f5_))
         obtain ⟨Ao98, co98, eo98⟩ := Kd.R_slice HO_270001.out
         (first | subst eo98 | (injection eo98 with f1_ f2_ f3_; have f4_ := f1_.symm; have f5_ := f3_.symm; clear f1_ f2_ f3_; subst f4_; subst f5_))
         refine hK.out _ _ (xC3 BK269.out) (fun hHeld => ?_)
         clear hK K
         refine xN1 (h := ?_)
         refine one_ (i := 3) (N := some 64) #[true, true, true, true, false] rfl rfl (by kernel_rfl) (by decide) (fun K hK => ?_)
         refine xG1 78 Try.func78 #[.agg #[.slice Ao97 x270000_1.length co97, .slice Ao98 x270001_1.length co98, .int .i64 x270002_1], .int .i64 t297] (h := ?_)
         with_reducible refine (spec_MoveSome.calls kj52 _ _ x270000_1 _ _ x270001_1 x270002_1 t297 t300 t303 t306 _ ?side1 ?side2 ?side3 ?side4 A94.out).mono ?_
         (case side1 => exact xC ((Kd.R_reads' HO_270000.out).2.2))
         (case side2 => exact (Kd.R_reads' HO_270000.out).2.1)
         (case side3 => exact xC ((Kd.R_reads' HO_270001.out).2.2))
         (case side4 => exact (Kd.R_reads' HO_270001.out).2.1)
         rintro e w99 ⟨v301, v304, rfl, ho0, ho1, hb⟩
         refine ⟨_, rfl, ?_⟩
         have HO302 := am (Kd.R_lower (Kd.R_new' (Kd.R_new' ho0 (Kd.R_lt (xR HO_270000.out))) (Kd.R_lt (xR HO_270001.out))) (xKZ HK.out))
         have HO305 := am (Kd.R_lower (Kd.R_new' (Kd.R_new' ho1 (Kd.R_lt (xR HO_270000.out))) (Kd.R_lt (xR HO_270001.out))) (xKZ HK.out))
         replace HO_270000 := am (Kd.R_mono (Kd.R_told (Kd.R_told (Kd.R_old (xR HO_270000.out) hb) (Kd.R_base ho0)) (Kd.R_base ho1)) (fun _ h_ => h_.1))
         replace HO_270001 := am (Kd.R_mono (Kd.R_told (Kd.R_told (Kd.R_old (xR HO_270001.out) hb) (Kd.R_base ho0)) (Kd.R_base ho1)) (fun _ h_ => h_.1))
         replace BK254 := am (blk_below (xB BK254.out) hb)
         replace BK269 := am (blk_below (xB BK269.out) hb)
         replace HK := am (xKB HK.out hb)
         replace HB := am (below_step (xWI HB.out (IsS85.ge HI0.out)) hb)
         replace HI0 := am (IsS85.below (xH85 HI0.out) hb)
         (try clear hb)
         (try clear ho0)
         (try clear ho1)
         obtain ⟨Ao100, co100, eo100⟩ := Kd.R_slice HO302.out
         (first | subst eo100 | (injection eo100 with f1_ f2_ f3_; have f4_ := f1_.symm; have f5_ := f3_.symm; clear f1_ f2_ f3_; subst f4_; subst f5_))
         obtain ⟨Ao102, co102, eo102⟩ := Kd.R_slice HO305.out
         (first | subst eo102 | (injection eo102 with f1_ f2_ f3_; have f4_ := f1_.symm; have f5_ := f3_.symm; clear f1_ f2_ f3_; subst f4_; subst f5_))
         refine hK.out _ _ (xC3 BK269.out) (fun hHeld => ?_)
         clear hK K
         refine xN1 (h := ?_)
         refine last_ (i := 4) (N := none) #[true, true, true, true, true] rfl rfl (by kernel_rfl) (by decide) (fun K hK => ?_)
         have hs101 : w99.cell? ⟨gb269, 0, none⟩ = some (.slice Ao97 x270000_1.length co97) := (blk_cell BK269.out 0).trans rfl
         have hfs101 := blk_frozen BK269.out 0
         have hns101_0 := NB254_269.out
         have hms101_0 := NB269_254.out
         have hs103 : w99.cell? ⟨gb269, 1, none⟩ = some (.slice Ao98 x270001_1.length co98) := (blk_cell BK269.out 1).trans rfl
         have hfs103 := blk_frozen BK269.out 1
         have hns103_0 := NB254_269.out
         have hms103_0 := NB269_254.out
         have hs104 : w99.cell? ⟨gb269, 2, none⟩ = some (.int .i64 x270002_1) := (blk_cell BK269.out 2).trans rfl
         have hfs104 := blk_frozen BK269.out 2
         have hns104_0 := NB254_269.out
         have hms104_0 := NB269_254.out
         refine skip_ (w1 := ?_) (by rfl) rfl ?_ ?_
         rotate_left
         ·go_simp
          rfl
         refine hK.out _ _ ?_
         clear hK K
         refine done_ (by kernel_rfl) ?_
         try go_wp2
         go_roundg kj52
         case measure => have := HK1.out; have := HJ52.out; omega
         case rel => exact ⟨(wrap64 (x5_1 + 1)), (t298), (t299), (t300), (t303), (t306), (.slice Ao100 t300.length co100), (.slice Ao102 t303.length co102), (xQ), H', ⟨by have := HK1.out; have := HJ52.out; omega⟩, ⟨Kd.R_mono (xR HO302.out) (fun _ hk => hk.1.1)⟩, ⟨Kd.R_mono (xR HO305.out) (fun _ hk => hk.1.1)⟩, ⟨xB BK254.out⟩, ⟨xP BK269.out⟩, ⟨xH85 HI0.out⟩, ⟨xK HK.out⟩, ⟨xWI HB.out (IsS85.ge HI0.out)⟩⟩
        ·rw [if_neg c92] at H
         have c92b0 : (t273 == 3) = false := beq_eq_false_iff_ne.mpr c92
         have c92b1 : (t273 != 3) = true := bne_iff_ne.mpr c92
         replace H := Option.bind_eq_some_iff.mp H
         obtain ⟨⟨t307, t308, t309⟩, A1050, H⟩ := H
         try dsimp only at H
         have A105 := am A1050
         clear A1050
         replace H := Option.bind_eq_some_iff.mp H
         obtain ⟨⟨t310, t311, t312⟩, A1060, H⟩ := H
         try dsimp only at H
         have A106 := am A1060
         clear A1060
         replace H := Option.bind_eq_some_iff.mp H
         obtain ⟨⟨t313, t316, t319, t320⟩, A1070, H⟩ := H
         try dsimp only at H
         have A107 := am A1070
         clear A1070
         by_cases c108 : t320 = true
         ·subst c108
          have H1 : (spec_l04Table.l0 kj52 (wrap64 (x5_1 + 1)) s0_0 t311 t312 t313 t316 t319) = some (r1, r2, r3, r4, r5) := by rw [if_pos rfl] at H; exact H
          clear H
          have H := H1
          clear H1
          have H' := am H
          clear H
          obtain ⟨Ao109, co109, eo109⟩ := Kd.R_slice HO_270000.out
          subst eo109
          obtain ⟨Ao110, co110, eo110⟩ := Kd.R_slice HO_270001.out
          subst eo110
          try go_wp2
          replace HO_270000 := am (Kd.R_drew HO_270000.out)
          replace HO_270001 := am (Kd.R_drew HO_270001.out)
          replace BK254 := am (blk_drew BK254.out)
          replace BK269 := am (blk_drew BK269.out)
          replace HI0 := am (IsS85.drew HI0.out)
          replace HK := am (keep_drew HK.out)
          replace HB := am (below_drew1 HB.out)
          refine start_ (n := 12) (S := fun w' => w'.cell? ⟨gb269, 0, none⟩ = some (.slice Ao109 x270000_1.length co109) ∧ w'.cell? ⟨gb269, 1, none⟩ = some (.slice Ao110 x270001_1.length co110) ∧ w'.cell? ⟨gb269, 2, none⟩ = some (.int .i64 x270002_1)) (ds := []) #[false, false, false, false, false, false, false, false, false, false, false, false] (by kernel_rfl) rfl rfl (xC3 BK269.out) (fun hHeld => ?_); refine with_tabW spec_l04Table.tab6 spec_l04Table.bits6 (fun HT_ HW_ => ?_)
          generalize wc.drew = w111 at HO_270000 HO_270001 BK254 BK269 HI0 HK HB hHeld ⊢
          refine xP1 (i := 1) (N := some 29) #[false, true, false, false, false, false, false, false, false, false, false, false] (any_of HT_.out (by kernel_rfl)) (h := ?_)
          refine xP1 (i := 3) (N := some 31) #[false, true, false, true, false, false, false, false, false, false, false, false] (any_of HT_.out (by kernel_rfl)) (h := ?_)
          refine take_ (i := 0) (N := some 28) (v := ?_) (a' := ?_) #[true, true, false, true, false, false, false, false, false, false, false, false] rfl rfl (take_ofW HT_.out HW_.out (by kernel_rfl)) (fun _ _ _ h => h) (Or.inl ⟨by rfl, ?_⟩) hHeld ?_ ?_
          rotate_left
          ·rintro w' ⟨s0, s1, s2⟩
           go_simp
           with_reducible rfl
          rotate_left
          ·simp only [Act.put, List.setIfInBounds_toArray, List.set_cons_zero, List.set_cons_succ, i64_w, i32_w]
           rfl
          refine join_ (σ := Value × Value × Nat) 2 #[true, true, true, true, true, true, true, true, true, true, false, false] (fun s_ => [(30, .string t307), (32, .int .i64 t310), (33, .tuple #[.agg #[s_.1, s_.2.1, .int .i64 t319], .bool true]), (10, .pointer (some ⟨s_.2.2, 0, none⟩)), (27, .tuple #[.agg #[s_.1, s_.2.1, .int .i64 t319], .bool true]), (34, .agg #[s_.1, s_.2.1, .int .i64 t319]), (35, .bool true)]) (fun s_ w' => (w'.cell? ⟨gb269, 0, none⟩ = some (.slice Ao109 x270000_1.length co109) ∧ w'.cell? ⟨gb269, 1, none⟩ = some (.slice Ao110 x270001_1.length co110) ∧ w'.cell? ⟨gb269, 2, none⟩ = some (.int .i64 x270002_1)) ∧ (Kd.R k57 57 w' w.heap.size (fun k_ => some k_ ≠ (s_.2.1 : Value).ownBlock ∧ some k_ ≠ (.slice Ao109 x270000_1.length co109 : Value).ownBlock ∧ some k_ ≠ (.slice Ao110 x270001_1.length co110 : Value).ownBlock) s_.1 t313) ∧ (Kd.R k57 57 w' w.heap.size (fun k_ => some k_ ≠ (s_.1 : Value).ownBlock ∧ some k_ ≠ (.slice Ao109 x270000_1.length co109 : Value).ownBlock ∧ some k_ ≠ (.slice Ao110 x270001_1.length co110 : Value).ownBlock) s_.2.1 t316) ∧ (Kd.R k57 57 w' w.heap.size (fun k_ => some k_ ≠ (s_.1 : Value).ownBlock ∧ some k_ ≠ (s_.2.1 : Value).ownBlock ∧ some k_ ≠ (.slice Ao110 x270001_1.length co110 : Value).ownBlock) (.slice Ao109 x270000_1.length co109) x270000_1) ∧ (Kd.R k57 57 w' w.heap.size (fun k_ => some k_ ≠ (s_.1 : Value).ownBlock ∧ some k_ ≠ (s_.2.1 : Value).ownBlock ∧ some k_ ≠ (.slice Ao109 x270000_1.length co109 : Value).ownBlock) (.slice Ao110 x270001_1.length co110) x270001_1) ∧ (w'.heap[gb254]? = some (.cells #[.slice none 0 0, .slice none 0 0, .int .i64 0] 26 (0, 0))) ∧ (w'.heap[gb269]? = some (.cells #[.slice Ao109 x270000_1.length co109, .slice Ao110 x270001_1.length co110, .int .i64 x270002_1] 26 (0, 0))) ∧ (w'.heap[s_.2.2]? = some (.cells #[.slice none 0 0, .slice none 0 0, .int .i64 0] 26 (0, 0))) ∧ (w.heap.size ≤ s_.2.2) ∧ (w0.heap.size ≤ s_.2.2) ∧ (g ≠ s_.2.2) ∧ (s_.2.2 ≠ g) ∧ (gb254 ≠ s_.2.2) ∧ (s_.2.2 ≠ gb254) ∧ (gb269 ≠ s_.2.2) ∧ (s_.2.2 ≠ gb269) ∧ (IsS85 w0 w' g s0_0 t311 t312) ∧ (KeepBut w w' g none) ∧ (Below w0.heap.size w0 w')) ?_ ?_
          rotate_left
          ·intro hCont
           refine two_ (i := 2) (j := 9) (Ni := some 30) (Nj := some 10) #[true, true, true, true, false, false, false, false, false, false, false, false] #[true, true, false, true, false, false, false, false, false, true, false, false] rfl rfl rfl rfl (two_of HT_.out (by kernel_rfl)) (by decide) (by decide) (fun K hK => ?_) (fun K hK => ?_)
           ·skip
            refine xG1 46 Try.func46 #[.pointer (some ⟨g, 0, none⟩)] (h := ?_)
            with_reducible refine (spec_l03Key.calls g s0_0 t274 t275 t307 t308 t309 w0 _ ?side1 ?side2 A105.out).mono ?_
            (case side1 => exact xH85 HI0.out)
            (case side2 => exact xWI HB.out (IsS85.ge HI0.out))
            rintro e w112 ⟨rfl, hi, hb, hk⟩
            refine ⟨_, rfl, ?_⟩
            replace HO_270000 := am (Kd.R_mono (Kd.R_keep (IsS85.apart (show IsS85 w0 _ g s0_0 t274 t275 from xH85 HI0.out) (xR HO_270000.out) (by decide)) hk (fun _ h => h.2)) (fun _ h => h.1))
            replace HO_270001 := am (Kd.R_mono (Kd.R_keep (IsS85.apart (show IsS85 w0 _ g s0_0 t274 t275 from xH85 HI0.out) (xR HO_270001.out) (by decide)) hk (fun _ h => h.2)) (fun _ h => h.1))
            replace BK254 := am (KeepBut.blk hk (g' := gb254) (o := .cells #[.slice none 0 0, .slice none 0 0, .int .i64 0] 26 (0, 0)) (xB BK254.out) NB254_0.out (by simp))
            replace BK269 := am (KeepBut.blk hk (g' := gb269) (o := .cells #[.slice Ao109 x270000_1.length co109, .slice Ao110 x270001_1.length co110, .int .i64 x270002_1] 26 (0, 0)) (xB BK269.out) NB269_0.out (by simp))
            replace HK := am (KeepBut.trans (xK HK.out) hk (.inl rfl))
            replace HB := am (hb)
            replace HI0 := am (hi)
            (try clear hb)
            (try clear hk)
            (try clear hi)
            refine hK.out _ _ (xC3 BK269.out) (fun hHeld => ?_)
            clear hK K
            refine xN1 (h := ?_)
            refine two_ (i := 4) (j := 9) (Ni := some 32) (Nj := some 10) #[true, true, true, true, true, false, false, false, false, false, false, false] #[true, true, true, true, false, false, false, false, false, true, false, false] rfl rfl rfl rfl (two_of HT_.out (by kernel_rfl)) (by decide) (by decide) (fun K hK => ?_) (fun K hK => ?_)
            ·skip
             refine xG1 57 Try.func57 #[.pointer (some ⟨g, 0, none⟩), .int .i64 50] (h := ?_)
             with_reducible refine (spec_l01Below.calls g s0_0 t308 t309 50 t310 t311 t312 w0 _ ?side1 ?side2 A106.out).mono ?_
             (case side1 => exact xH85 HI0.out)
             (case side2 => exact xWI HB.out (IsS85.ge HI0.out))
             rintro e w113 ⟨rfl, hi, hb, hk⟩
             refine ⟨_, rfl, ?_⟩
             replace HO_270000 := am (Kd.R_mono (Kd.R_keep (IsS85.apart (show IsS85 w0 _ g s0_0 t308 t309 from xH85 HI0.out) (xR HO_270000.out) (by decide)) hk (fun _ h => h.2)) (fun _ h => h.1))
             replace HO_270001 := am (Kd.R_mono (Kd.R_keep (IsS85.apart (show IsS85 w0 _ g s0_0 t308 t309 from xH85 HI0.out) (xR HO_270001.out) (by decide)) hk (fun _ h => h.2)) (fun _ h => h.1))
             replace BK254 := am (KeepBut.blk hk (g' := gb254) (o := .cells #[.slice none 0 0, .slice none 0 0, .int .i64 0] 26 (0, 0)) (xB BK254.out) NB254_0.out (by simp))
             replace BK269 := am (KeepBut.blk hk (g' := gb269) (o := .cells #[.slice Ao109 x270000_1.length co109, .slice Ao110 x270001_1.length co110, .int .i64 x270002_1] 26 (0, 0)) (xB BK269.out) NB269_0.out (by simp))
             replace HK := am (KeepBut.trans (xK HK.out) hk (.inl rfl))
             replace HB := am (hb)
             replace HI0 := am (hi)
             (try clear hb)
             (try clear hk)
             (try clear hi)
             refine hK.out _ _ (xC3 BK269.out) (fun hHeld => ?_)
             clear hK K
             refine xN1 (h := ?_)
             refine two_ (i := 5) (j := 9) (Ni := some 33) (Nj := some 10) #[true, true, true, true, true, true, false, false, false, false, false, false] #[true, true, true, true, true, false, false, false, false, true, false, false] rfl rfl rfl rfl (two_of HT_.out (by kernel_rfl)) (by decide) (by decide) (fun K hK => ?_) (fun K hK => ?_)
             ·skip
              refine xG1 37 Try.func37 #[.agg #[.slice Ao109 x270000_1.length co109, .slice Ao110 x270001_1.length co110, .int .i64 x270002_1], .string t307, .int .i64 t310] (h := ?_)
              with_reducible refine (spec_PutKey.calls kj52 _ _ x270000_1 _ _ x270001_1 x270002_1 t307 t310 t313 t316 t319 true _ ?side1 ?side2 ?side3 ?side4 A107.out).mono ?_
              (case side1 => exact xC ((Kd.R_reads' HO_270000.out).2.2))
              (case side2 => exact (Kd.R_reads' HO_270000.out).2.1)
              (case side3 => exact xC ((Kd.R_reads' HO_270001.out).2.2))
              (case side4 => exact (Kd.R_reads' HO_270001.out).2.1)
              rintro e w114 ⟨v314, v317, rfl, ho0, ho1, hb⟩
              refine ⟨_, rfl, ?_⟩
              have HO315 := am (Kd.R_lower (Kd.R_new' (Kd.R_new' ho0 (Kd.R_lt (xR HO_270000.out))) (Kd.R_lt (xR HO_270001.out))) (xKZ HK.out))
              have HO318 := am (Kd.R_lower (Kd.R_new' (Kd.R_new' ho1 (Kd.R_lt (xR HO_270000.out))) (Kd.R_lt (xR HO_270001.out))) (xKZ HK.out))
              replace HO_270000 := am (Kd.R_mono (Kd.R_told (Kd.R_told (Kd.R_old (xR HO_270000.out) hb) (Kd.R_base ho0)) (Kd.R_base ho1)) (fun _ h_ => h_.1))
              replace HO_270001 := am (Kd.R_mono (Kd.R_told (Kd.R_told (Kd.R_old (xR HO_270001.out) hb) (Kd.R_base ho0)) (Kd.R_base ho1)) (fun _ h_ => h_.1))
              replace BK254 := am (blk_below (xB BK254.out) hb)
              replace BK269 := am (blk_below (xB BK269.out) hb)
              replace HK := am (xKB HK.out hb)
              replace HB := am (below_step (xWI HB.out (IsS85.ge HI0.out)) hb)
              replace HI0 := am (IsS85.below (xH85 HI0.out) hb)
              (try clear hb)
              (try clear ho0)
              (try clear ho1)
              refine hK.out _ _ (xC3 BK269.out) (fun hHeld => ?_)
              clear hK K
              refine xN1 (h := ?_)
              refine xP1 (i := 6) (N := some 27) #[true, true, true, true, true, true, true, false, false, false, false, false] (any_of HT_.out (by kernel_rfl)) (h := ?_)
              refine xP1 (i := 7) (N := some 34) #[true, true, true, true, true, true, true, true, false, false, false, false] (any_of HT_.out (by kernel_rfl)) (h := ?_)
              refine xP1 (i := 8) (N := some 35) #[true, true, true, true, true, true, true, true, true, false, false, false] (any_of HT_.out (by kernel_rfl)) (h := ?_)
              refine one_ (i := 9) (N := some 10) #[true, true, true, true, true, true, true, true, true, true, false, false] rfl rfl (one_of HT_.out (by kernel_rfl)) (by decide) (fun K hK => ?_)
              refine xE1 (N := 10) (cs := #[.slice none 0 0, .slice none 0 0, .int .i64 0]) (t := 26) (h := ?_)
              intro gb321 hg w115 hbox hb
              replace HO_270000 := am (Kd.R_below (xR HO_270000.out) hb)
              replace HO_270001 := am (Kd.R_below (xR HO_270001.out) hb)
              replace HO315 := am (Kd.R_below (xR HO315.out) hb)
              replace HO318 := am (Kd.R_below (xR HO318.out) hb)
              replace HB := am (below_step (xWI HB.out (IsS85.ge HI0.out)) hb)
              have BK321 := am (hbox)
              have GW321 := am ((xKS hg HK.out))
              have GE321 := am ((Nat.le_trans HW0.out (xKS hg HK.out)))
              replace HK := am (xKB HK.out hb)
              have NB254_321 := am (xN hg BK254.out)
              have NB321_254 := am (xM hg BK254.out)
              replace BK254 := am (blk_below (xB BK254.out) hb)
              have NB269_321 := am (xN hg BK269.out)
              have NB321_269 := am (xM hg BK269.out)
              replace BK269 := am (blk_below (xB BK269.out) hb)
              have NB0_321 := am ((xL hg (IsS85.lt (show IsS85 w0 _ g s0_0 t311 t312 from xH85 HI0.out))))
              have NB321_0 := am ((xLM hg (IsS85.lt (show IsS85 w0 _ g s0_0 t311 t312 from xH85 HI0.out))))
              replace HI0 := am (IsS85.below (xH85 HI0.out) hb)
              clear hb hbox hg
              refine hK.out _ _ (xC3 BK269.out) (fun hHeld => ?_)
              clear hK K
              refine xN1 (h := ?_)
              exact xN2 (hCont (v314, v317, gb321) _ ⟨hHeld, (Kd.R_mono (xR HO315.out) (fun _ hk => ⟨hk.1.1, ⟨hk.1.2, hk.2⟩⟩)), (Kd.R_mono (xR HO318.out) (fun _ hk => ⟨hk.1.1, ⟨hk.1.2, hk.2⟩⟩)), (Kd.R_mono (xR HO_270000.out) (fun _ hk => ⟨hk.1.2, ⟨hk.2, hk.1.1⟩⟩)), (Kd.R_mono (xR HO_270001.out) (fun _ hk => ⟨hk.1.2, ⟨hk.2, hk.1.1⟩⟩)), (xB BK254.out), (xB BK269.out), (xB BK321.out), GW321.out, GE321.out, NB0_321.out, NB321_0.out, NB254_321.out, NB321_254.out, NB269_321.out, NB321_269.out, (xH85 HI0.out), (xK HK.out), (xWI HB.out (IsS85.ge HI0.out))⟩)
             ·skip
              refine xE1 (N := 10) (cs := #[.slice none 0 0, .slice none 0 0, .int .i64 0]) (t := 26) (h := ?_)
              intro gb321 hg w114 hbox hb
              replace HO_270000 := am (Kd.R_below (xR HO_270000.out) hb)
              replace HO_270001 := am (Kd.R_below (xR HO_270001.out) hb)
              replace HB := am (below_step (xWI HB.out (IsS85.ge HI0.out)) hb)
              have BK321 := am (hbox)
              have GW321 := am ((xKS hg HK.out))
              have GE321 := am ((Nat.le_trans HW0.out (xKS hg HK.out)))
              replace HK := am (xKB HK.out hb)
              have NB254_321 := am (xN hg BK254.out)
              have NB321_254 := am (xM hg BK254.out)
              replace BK254 := am (blk_below (xB BK254.out) hb)
              have NB269_321 := am (xN hg BK269.out)
              have NB321_269 := am (xM hg BK269.out)
              replace BK269 := am (blk_below (xB BK269.out) hb)
              have NB0_321 := am ((xL hg (IsS85.lt (show IsS85 w0 _ g s0_0 t311 t312 from xH85 HI0.out))))
              have NB321_0 := am ((xLM hg (IsS85.lt (show IsS85 w0 _ g s0_0 t311 t312 from xH85 HI0.out))))
              replace HI0 := am (IsS85.below (xH85 HI0.out) hb)
              clear hb hbox hg
              refine hK.out _ _ (xC3 BK269.out) (fun hHeld => ?_)
              clear hK K
              refine xN1 (h := ?_)
              refine one_ (i := 5) (N := some 33) #[true, true, true, true, true, true, false, false, false, true, false, false] rfl rfl (one_of HT_.out (by kernel_rfl)) (by decide) (fun K hK => ?_)
              refine xG1 37 Try.func37 #[.agg #[.slice Ao109 x270000_1.length co109, .slice Ao110 x270001_1.length co110, .int .i64 x270002_1], .string t307, .int .i64 t310] (h := ?_)
              with_reducible refine (spec_PutKey.calls kj52 _ _ x270000_1 _ _ x270001_1 x270002_1 t307 t310 t313 t316 t319 true _ ?side1 ?side2 ?side3 ?side4 A107.out).mono ?_
              (case side1 => exact xC ((Kd.R_reads' HO_270000.out).2.2))
              (case side2 => exact (Kd.R_reads' HO_270000.out).2.1)
              (case side3 => exact xC ((Kd.R_reads' HO_270001.out).2.2))
              (case side4 => exact (Kd.R_reads' HO_270001.out).2.1)
              rintro e w115 ⟨v314, v317, rfl, ho0, ho1, hb⟩
              refine ⟨_, rfl, ?_⟩
              have HO315 := am (Kd.R_lower (Kd.R_new' (Kd.R_new' ho0 (Kd.R_lt (xR HO_270000.out))) (Kd.R_lt (xR HO_270001.out))) (xKZ HK.out))
              have HO318 := am (Kd.R_lower (Kd.R_new' (Kd.R_new' ho1 (Kd.R_lt (xR HO_270000.out))) (Kd.R_lt (xR HO_270001.out))) (xKZ HK.out))
              replace HO_270000 := am (Kd.R_mono (Kd.R_told (Kd.R_told (Kd.R_old (xR HO_270000.out) hb) (Kd.R_base ho0)) (Kd.R_base ho1)) (fun _ h_ => h_.1))
              replace HO_270001 := am (Kd.R_mono (Kd.R_told (Kd.R_told (Kd.R_old (xR HO_270001.out) hb) (Kd.R_base ho0)) (Kd.R_base ho1)) (fun _ h_ => h_.1))
              replace BK254 := am (blk_below (xB BK254.out) hb)
              replace BK269 := am (blk_below (xB BK269.out) hb)
              replace BK321 := am (blk_below (xB BK321.out) hb)
              replace HK := am (xKB HK.out hb)
              replace HB := am (below_step (xWI HB.out (IsS85.ge HI0.out)) hb)
              replace HI0 := am (IsS85.below (xH85 HI0.out) hb)
              (try clear hb)
              (try clear ho0)
              (try clear ho1)
              refine hK.out _ _ (xC3 BK269.out) (fun hHeld => ?_)
              clear hK K
              refine xN1 (h := ?_)
              refine xP1 (i := 6) (N := some 27) #[true, true, true, true, true, true, true, false, false, true, false, false] (any_of HT_.out (by kernel_rfl)) (h := ?_)
              refine xP1 (i := 7) (N := some 34) #[true, true, true, true, true, true, true, true, false, true, false, false] (any_of HT_.out (by kernel_rfl)) (h := ?_)
              refine xP1 (i := 8) (N := some 35) #[true, true, true, true, true, true, true, true, true, true, false, false] (any_of HT_.out (by kernel_rfl)) (h := ?_)
              exact xN2 (hCont (v314, v317, gb321) _ ⟨hHeld, (Kd.R_mono (xR HO315.out) (fun _ hk => ⟨hk.1.1, ⟨hk.1.2, hk.2⟩⟩)), (Kd.R_mono (xR HO318.out) (fun _ hk => ⟨hk.1.1, ⟨hk.1.2, hk.2⟩⟩)), (Kd.R_mono (xR HO_270000.out) (fun _ hk => ⟨hk.1.2, ⟨hk.2, hk.1.1⟩⟩)), (Kd.R_mono (xR HO_270001.out) (fun _ hk => ⟨hk.1.2, ⟨hk.2, hk.1.1⟩⟩)), (xB BK254.out), (xB BK269.out), (xB BK321.out), GW321.out, GE321.out, NB0_321.out, NB321_0.out, NB254_321.out, NB321_254.out, NB269_321.out, NB321_269.out, (xH85 HI0.out), (xK HK.out), (xWI HB.out (IsS85.ge HI0.out))⟩)
            ·skip
             refine xE1 (N := 10) (cs := #[.slice none 0 0, .slice none 0 0, .int .i64 0]) (t := 26) (h := ?_)
             intro gb321 hg w113 hbox hb
             replace HO_270000 := am (Kd.R_below (xR HO_270000.out) hb)
             replace HO_270001 := am (Kd.R_below (xR HO_270001.out) hb)
             replace HB := am (below_step (xWI HB.out (IsS85.ge HI0.out)) hb)
             have BK321 := am (hbox)
             have GW321 := am ((xKS hg HK.out))
             have GE321 := am ((Nat.le_trans HW0.out (xKS hg HK.out)))
             replace HK := am (xKB HK.out hb)
             have NB254_321 := am (xN hg BK254.out)
             have NB321_254 := am (xM hg BK254.out)
             replace BK254 := am (blk_below (xB BK254.out) hb)
             have NB269_321 := am (xN hg BK269.out)
             have NB321_269 := am (xM hg BK269.out)
             replace BK269 := am (blk_below (xB BK269.out) hb)
             have NB0_321 := am ((xL hg (IsS85.lt (show IsS85 w0 _ g s0_0 t308 t309 from xH85 HI0.out))))
             have NB321_0 := am ((xLM hg (IsS85.lt (show IsS85 w0 _ g s0_0 t308 t309 from xH85 HI0.out))))
             replace HI0 := am (IsS85.below (xH85 HI0.out) hb)
             clear hb hbox hg
             refine hK.out _ _ (xC3 BK269.out) (fun hHeld => ?_)
             clear hK K
             refine xN1 (h := ?_)
             refine one_ (i := 4) (N := some 32) #[true, true, true, true, true, false, false, false, false, true, false, false] rfl rfl (one_of HT_.out (by kernel_rfl)) (by decide) (fun K hK => ?_)
             refine xG1 57 Try.func57 #[.pointer (some ⟨g, 0, none⟩), .int .i64 50] (h := ?_)
             with_reducible refine (spec_l01Below.calls g s0_0 t308 t309 50 t310 t311 t312 w0 _ ?side1 ?side2 A106.out).mono ?_
             (case side1 => exact xH85 HI0.out)
             (case side2 => exact xWI HB.out (IsS85.ge HI0.out))
             rintro e w114 ⟨rfl, hi, hb, hk⟩
             refine ⟨_, rfl, ?_⟩
             replace HO_270000 := am (Kd.R_mono (Kd.R_keep (IsS85.apart (show IsS85 w0 _ g s0_0 t308 t309 from xH85 HI0.out) (xR HO_270000.out) (by decide)) hk (fun _ h => h.2)) (fun _ h => h.1))
             replace HO_270001 := am (Kd.R_mono (Kd.R_keep (IsS85.apart (show IsS85 w0 _ g s0_0 t308 t309 from xH85 HI0.out) (xR HO_270001.out) (by decide)) hk (fun _ h => h.2)) (fun _ h => h.1))
             replace BK254 := am (KeepBut.blk hk (g' := gb254) (o := .cells #[.slice none 0 0, .slice none 0 0, .int .i64 0] 26 (0, 0)) (xB BK254.out) NB254_0.out (by simp))
             replace BK269 := am (KeepBut.blk hk (g' := gb269) (o := .cells #[.slice Ao109 x270000_1.length co109, .slice Ao110 x270001_1.length co110, .int .i64 x270002_1] 26 (0, 0)) (xB BK269.out) NB269_0.out (by simp))
             replace BK321 := am (KeepBut.blk hk (g' := gb321) (o := .cells #[.slice none 0 0, .slice none 0 0, .int .i64 0] 26 (0, 0)) (xB BK321.out) NB321_0.out (by simp))
             replace HK := am (KeepBut.trans (xK HK.out) hk (.inl rfl))
             replace HB := am (hb)
             replace HI0 := am (hi)
             (try clear hb)
             (try clear hk)
             (try clear hi)
             refine hK.out _ _ (xC3 BK269.out) (fun hHeld => ?_)
             clear hK K
             refine xN1 (h := ?_)
             refine one_ (i := 5) (N := some 33) #[true, true, true, true, true, true, false, false, false, true, false, false] rfl rfl (one_of HT_.out (by kernel_rfl)) (by decide) (fun K hK => ?_)
             refine xG1 37 Try.func37 #[.agg #[.slice Ao109 x270000_1.length co109, .slice Ao110 x270001_1.length co110, .int .i64 x270002_1], .string t307, .int .i64 t310] (h := ?_)
             with_reducible refine (spec_PutKey.calls kj52 _ _ x270000_1 _ _ x270001_1 x270002_1 t307 t310 t313 t316 t319 true _ ?side1 ?side2 ?side3 ?side4 A107.out).mono ?_
             (case side1 => exact xC ((Kd.R_reads' HO_270000.out).2.2))
             (case side2 => exact (Kd.R_reads' HO_270000.out).2.1)
             (case side3 => exact xC ((Kd.R_reads' HO_270001.out).2.2))
             (case side4 => exact (Kd.R_reads' HO_270001.out).2.1)
             rintro e w115 ⟨v314, v317, rfl, ho0, ho1, hb⟩
             refine ⟨_, rfl, ?_⟩
             have HO315 := am (Kd.R_lower (Kd.R_new' (Kd.R_new' ho0 (Kd.R_lt (xR HO_270000.out))) (Kd.R_lt (xR HO_270001.out))) (xKZ HK.out))
             have HO318 := am (Kd.R_lower (Kd.R_new' (Kd.R_new' ho1 (Kd.R_lt (xR HO_270000.out))) (Kd.R_lt (xR HO_270001.out))) (xKZ HK.out))
             replace HO_270000 := am (Kd.R_mono (Kd.R_told (Kd.R_told (Kd.R_old (xR HO_270000.out) hb) (Kd.R_base ho0)) (Kd.R_base ho1)) (fun _ h_ => h_.1))
             replace HO_270001 := am (Kd.R_mono (Kd.R_told (Kd.R_told (Kd.R_old (xR HO_270001.out) hb) (Kd.R_base ho0)) (Kd.R_base ho1)) (fun _ h_ => h_.1))
             replace BK254 := am (blk_below (xB BK254.out) hb)
             replace BK269 := am (blk_below (xB BK269.out) hb)
             replace BK321 := am (blk_below (xB BK321.out) hb)
             replace HK := am (xKB HK.out hb)
             replace HB := am (below_step (xWI HB.out (IsS85.ge HI0.out)) hb)
             replace HI0 := am (IsS85.below (xH85 HI0.out) hb)
             (try clear hb)
             (try clear ho0)
             (try clear ho1)
             refine hK.out _ _ (xC3 BK269.out) (fun hHeld => ?_)
             clear hK K
             refine xN1 (h := ?_)
             refine xP1 (i := 6) (N := some 27) #[true, true, true, true, true, true, true, false, false, true, false, false] (any_of HT_.out (by kernel_rfl)) (h := ?_)
             refine xP1 (i := 7) (N := some 34) #[true, true, true, true, true, true, true, true, false, true, false, false] (any_of HT_.out (by kernel_rfl)) (h := ?_)
             refine xP1 (i := 8) (N := some 35) #[true, true, true, true, true, true, true, true, true, true, false, false] (any_of HT_.out (by kernel_rfl)) (h := ?_)
             exact xN2 (hCont (v314, v317, gb321) _ ⟨hHeld, (Kd.R_mono (xR HO315.out) (fun _ hk => ⟨hk.1.1, ⟨hk.1.2, hk.2⟩⟩)), (Kd.R_mono (xR HO318.out) (fun _ hk => ⟨hk.1.1, ⟨hk.1.2, hk.2⟩⟩)), (Kd.R_mono (xR HO_270000.out) (fun _ hk => ⟨hk.1.2, ⟨hk.2, hk.1.1⟩⟩)), (Kd.R_mono (xR HO_270001.out) (fun _ hk => ⟨hk.1.2, ⟨hk.2, hk.1.1⟩⟩)), (xB BK254.out), (xB BK269.out), (xB BK321.out), GW321.out, GE321.out, NB0_321.out, NB321_0.out, NB254_321.out, NB321_254.out, NB269_321.out, NB321_269.out, (xH85 HI0.out), (xK HK.out), (xWI HB.out (IsS85.ge HI0.out))⟩)
           ·skip
            refine xE1 (N := 10) (cs := #[.slice none 0 0, .slice none 0 0, .int .i64 0]) (t := 26) (h := ?_)
            intro gb321 hg w112 hbox hb
            replace HO_270000 := am (Kd.R_below (xR HO_270000.out) hb)
            replace HO_270001 := am (Kd.R_below (xR HO_270001.out) hb)
            replace HB := am (below_step (xWI HB.out (IsS85.ge HI0.out)) hb)
            have BK321 := am (hbox)
            have GW321 := am ((xKS hg HK.out))
            have GE321 := am ((Nat.le_trans HW0.out (xKS hg HK.out)))
            replace HK := am (xKB HK.out hb)
            have NB254_321 := am (xN hg BK254.out)
            have NB321_254 := am (xM hg BK254.out)
            replace BK254 := am (blk_below (xB BK254.out) hb)
            have NB269_321 := am (xN hg BK269.out)
            have NB321_269 := am (xM hg BK269.out)
            replace BK269 := am (blk_below (xB BK269.out) hb)
            have NB0_321 := am ((xL hg (IsS85.lt (show IsS85 w0 _ g s0_0 t274 t275 from xH85 HI0.out))))
            have NB321_0 := am ((xLM hg (IsS85.lt (show IsS85 w0 _ g s0_0 t274 t275 from xH85 HI0.out))))
            replace HI0 := am (IsS85.below (xH85 HI0.out) hb)
            clear hb hbox hg
            refine hK.out _ _ (xC3 BK269.out) (fun hHeld => ?_)
            clear hK K
            refine xN1 (h := ?_)
            refine one_ (i := 2) (N := some 30) #[true, true, true, true, false, false, false, false, false, true, false, false] rfl rfl (one_of HT_.out (by kernel_rfl)) (by decide) (fun K hK => ?_)
            refine xG1 46 Try.func46 #[.pointer (some ⟨g, 0, none⟩)] (h := ?_)
            with_reducible refine (spec_l03Key.calls g s0_0 t274 t275 t307 t308 t309 w0 _ ?side1 ?side2 A105.out).mono ?_
            (case side1 => exact xH85 HI0.out)
            (case side2 => exact xWI HB.out (IsS85.ge HI0.out))
            rintro e w113 ⟨rfl, hi, hb, hk⟩
            refine ⟨_, rfl, ?_⟩
            replace HO_270000 := am (Kd.R_mono (Kd.R_keep (IsS85.apart (show IsS85 w0 _ g s0_0 t274 t275 from xH85 HI0.out) (xR HO_270000.out) (by decide)) hk (fun _ h => h.2)) (fun _ h => h.1))
            replace HO_270001 := am (Kd.R_mono (Kd.R_keep (IsS85.apart (show IsS85 w0 _ g s0_0 t274 t275 from xH85 HI0.out) (xR HO_270001.out) (by decide)) hk (fun _ h => h.2)) (fun _ h => h.1))
            replace BK254 := am (KeepBut.blk hk (g' := gb254) (o := .cells #[.slice none 0 0, .slice none 0 0, .int .i64 0] 26 (0, 0)) (xB BK254.out) NB254_0.out (by simp))
            replace BK269 := am (KeepBut.blk hk (g' := gb269) (o := .cells #[.slice Ao109 x270000_1.length co109, .slice Ao110 x270001_1.length co110, .int .i64 x270002_1] 26 (0, 0)) (xB BK269.out) NB269_0.out (by simp))
            replace BK321 := am (KeepBut.blk hk (g' := gb321) (o := .cells #[.slice none 0 0, .slice none 0 0, .int .i64 0] 26 (0, 0)) (xB BK321.out) NB321_0.out (by simp))
            replace HK := am (KeepBut.trans (xK HK.out) hk (.inl rfl))
            replace HB := am (hb)
            replace HI0 := am (hi)
            (try clear hb)
            (try clear hk)
            (try clear hi)
            refine hK.out _ _ (xC3 BK269.out) (fun hHeld => ?_)
            clear hK K
            refine xN1 (h := ?_)
            refine one_ (i := 4) (N := some 32) #[true, true, true, true, true, false, false, false, false, true, false, false] rfl rfl (one_of HT_.out (by kernel_rfl)) (by decide) (fun K hK => ?_)
            refine xG1 57 Try.func57 #[.pointer (some ⟨g, 0, none⟩), .int .i64 50] (h := ?_)
            with_reducible refine (spec_l01Below.calls g s0_0 t308 t309 50 t310 t311 t312 w0 _ ?side1 ?side2 A106.out).mono ?_
            (case side1 => exact xH85 HI0.out)
            (case side2 => exact xWI HB.out (IsS85.ge HI0.out))
            rintro e w114 ⟨rfl, hi, hb, hk⟩
            refine ⟨_, rfl, ?_⟩
            replace HO_270000 := am (Kd.R_mono (Kd.R_keep (IsS85.apart (show IsS85 w0 _ g s0_0 t308 t309 from xH85 HI0.out) (xR HO_270000.out) (by decide)) hk (fun _ h => h.2)) (fun _ h => h.1))
            replace HO_270001 := am (Kd.R_mono (Kd.R_keep (IsS85.apart (show IsS85 w0 _ g s0_0 t308 t309 from xH85 HI0.out) (xR HO_270001.out) (by decide)) hk (fun _ h => h.2)) (fun _ h => h.1))
            replace BK254 := am (KeepBut.blk hk (g' := gb254) (o := .cells #[.slice none 0 0, .slice none 0 0, .int .i64 0] 26 (0, 0)) (xB BK254.out) NB254_0.out (by simp))
            replace BK269 := am (KeepBut.blk hk (g' := gb269) (o := .cells #[.slice Ao109 x270000_1.length co109, .slice Ao110 x270001_1.length co110, .int .i64 x270002_1] 26 (0, 0)) (xB BK269.out) NB269_0.out (by simp))
            replace BK321 := am (KeepBut.blk hk (g' := gb321) (o := .cells #[.slice none 0 0, .slice none 0 0, .int .i64 0] 26 (0, 0)) (xB BK321.out) NB321_0.out (by simp))
            replace HK := am (KeepBut.trans (xK HK.out) hk (.inl rfl))
            replace HB := am (hb)
            replace HI0 := am (hi)
            (try clear hb)
            (try clear hk)
            (try clear hi)
            refine hK.out _ _ (xC3 BK269.out) (fun hHeld => ?_)
            clear hK K
            refine xN1 (h := ?_)
            refine one_ (i := 5) (N := some 33) #[true, true, true, true, true, true, false, false, false, true, false, false] rfl rfl (one_of HT_.out (by kernel_rfl)) (by decide) (fun K hK => ?_)
            refine xG1 37 Try.func37 #[.agg #[.slice Ao109 x270000_1.length co109, .slice Ao110 x270001_1.length co110, .int .i64 x270002_1], .string t307, .int .i64 t310] (h := ?_)
            with_reducible refine (spec_PutKey.calls kj52 _ _ x270000_1 _ _ x270001_1 x270002_1 t307 t310 t313 t316 t319 true _ ?side1 ?side2 ?side3 ?side4 A107.out).mono ?_
            (case side1 => exact xC ((Kd.R_reads' HO_270000.out).2.2))
            (case side2 => exact (Kd.R_reads' HO_270000.out).2.1)
            (case side3 => exact xC ((Kd.R_reads' HO_270001.out).2.2))
            (case side4 => exact (Kd.R_reads' HO_270001.out).2.1)
            rintro e w115 ⟨v314, v317, rfl, ho0, ho1, hb⟩
            refine ⟨_, rfl, ?_⟩
            have HO315 := am (Kd.R_lower (Kd.R_new' (Kd.R_new' ho0 (Kd.R_lt (xR HO_270000.out))) (Kd.R_lt (xR HO_270001.out))) (xKZ HK.out))
            have HO318 := am (Kd.R_lower (Kd.R_new' (Kd.R_new' ho1 (Kd.R_lt (xR HO_270000.out))) (Kd.R_lt (xR HO_270001.out))) (xKZ HK.out))
            replace HO_270000 := am (Kd.R_mono (Kd.R_told (Kd.R_told (Kd.R_old (xR HO_270000.out) hb) (Kd.R_base ho0)) (Kd.R_base ho1)) (fun _ h_ => h_.1))
            replace HO_270001 := am (Kd.R_mono (Kd.R_told (Kd.R_told (Kd.R_old (xR HO_270001.out) hb) (Kd.R_base ho0)) (Kd.R_base ho1)) (fun _ h_ => h_.1))
            replace BK254 := am (blk_below (xB BK254.out) hb)
            replace BK269 := am (blk_below (xB BK269.out) hb)
            replace BK321 := am (blk_below (xB BK321.out) hb)
            replace HK := am (xKB HK.out hb)
            replace HB := am (below_step (xWI HB.out (IsS85.ge HI0.out)) hb)
            replace HI0 := am (IsS85.below (xH85 HI0.out) hb)
            (try clear hb)
            (try clear ho0)
            (try clear ho1)
            refine hK.out _ _ (xC3 BK269.out) (fun hHeld => ?_)
            clear hK K
            refine xN1 (h := ?_)
            refine xP1 (i := 6) (N := some 27) #[true, true, true, true, true, true, true, false, false, true, false, false] (any_of HT_.out (by kernel_rfl)) (h := ?_)
            refine xP1 (i := 7) (N := some 34) #[true, true, true, true, true, true, true, true, false, true, false, false] (any_of HT_.out (by kernel_rfl)) (h := ?_)
            refine xP1 (i := 8) (N := some 35) #[true, true, true, true, true, true, true, true, true, true, false, false] (any_of HT_.out (by kernel_rfl)) (h := ?_)
            exact xN2 (hCont (v314, v317, gb321) _ ⟨hHeld, (Kd.R_mono (xR HO315.out) (fun _ hk => ⟨hk.1.1, ⟨hk.1.2, hk.2⟩⟩)), (Kd.R_mono (xR HO318.out) (fun _ hk => ⟨hk.1.1, ⟨hk.1.2, hk.2⟩⟩)), (Kd.R_mono (xR HO_270000.out) (fun _ hk => ⟨hk.1.2, ⟨hk.2, hk.1.1⟩⟩)), (Kd.R_mono (xR HO_270001.out) (fun _ hk => ⟨hk.1.2, ⟨hk.2, hk.1.1⟩⟩)), (xB BK254.out), (xB BK269.out), (xB BK321.out), GW321.out, GE321.out, NB0_321.out, NB321_0.out, NB254_321.out, NB321_254.out, NB269_321.out, NB321_269.out, (xH85 HI0.out), (xK HK.out), (xWI HB.out (IsS85.ge HI0.out))⟩)
          rintro ⟨v314, v317, gb321⟩ w116 ⟨hS_, h0_, h1_, h2_, h3_, h4_, h5_, h6_, h7_, h8_, h9_, h10_, h11_, h12_, h13_, h14_, h15_, h16_, h17_⟩
          have n0_ : Aside0 (Kd.R k57 57 w116 w.heap.size (fun k_ => some k_ ≠ (v317 : Value).ownBlock ∧ some k_ ≠ (.slice Ao109 x270000_1.length co109 : Value).ownBlock ∧ some k_ ≠ (.slice Ao110 x270001_1.length co110 : Value).ownBlock) v314 t313) := ⟨h0_⟩
          have n1_ : Aside0 (Kd.R k57 57 w116 w.heap.size (fun k_ => some k_ ≠ (v314 : Value).ownBlock ∧ some k_ ≠ (.slice Ao109 x270000_1.length co109 : Value).ownBlock ∧ some k_ ≠ (.slice Ao110 x270001_1.length co110 : Value).ownBlock) v317 t316) := ⟨h1_⟩
          have n2_ : Aside0 (Kd.R k57 57 w116 w.heap.size (fun k_ => some k_ ≠ (v314 : Value).ownBlock ∧ some k_ ≠ (v317 : Value).ownBlock ∧ some k_ ≠ (.slice Ao110 x270001_1.length co110 : Value).ownBlock) (.slice Ao109 x270000_1.length co109) x270000_1) := ⟨h2_⟩
          have n3_ : Aside0 (Kd.R k57 57 w116 w.heap.size (fun k_ => some k_ ≠ (v314 : Value).ownBlock ∧ some k_ ≠ (v317 : Value).ownBlock ∧ some k_ ≠ (.slice Ao109 x270000_1.length co109 : Value).ownBlock) (.slice Ao110 x270001_1.length co110) x270001_1) := ⟨h3_⟩
          have n4_ : Aside0 (w116.heap[gb254]? = some (.cells #[.slice none 0 0, .slice none 0 0, .int .i64 0] 26 (0, 0))) := ⟨h4_⟩
          have n5_ : Aside0 (w116.heap[gb269]? = some (.cells #[.slice Ao109 x270000_1.length co109, .slice Ao110 x270001_1.length co110, .int .i64 x270002_1] 26 (0, 0))) := ⟨h5_⟩
          have n6_ : Aside0 (w116.heap[gb321]? = some (.cells #[.slice none 0 0, .slice none 0 0, .int .i64 0] 26 (0, 0))) := ⟨h6_⟩
          have n7_ : Aside0 (w.heap.size ≤ gb321) := ⟨h7_⟩
          have n8_ : Aside0 (w0.heap.size ≤ gb321) := ⟨h8_⟩
          have n9_ : Aside0 (g ≠ gb321) := ⟨h9_⟩
          have n10_ : Aside0 (gb321 ≠ g) := ⟨h10_⟩
          have n11_ : Aside0 (gb254 ≠ gb321) := ⟨h11_⟩
          have n12_ : Aside0 (gb321 ≠ gb254) := ⟨h12_⟩
          have n13_ : Aside0 (gb269 ≠ gb321) := ⟨h13_⟩
          have n14_ : Aside0 (gb321 ≠ gb269) := ⟨h14_⟩
          have n15_ : Aside0 (IsS85 w0 w116 g s0_0 t311 t312) := ⟨h15_⟩
          have n16_ : Aside0 (KeepBut w w116 g none) := ⟨h16_⟩
          have n17_ : Aside0 (Below w0.heap.size w0 w116) := ⟨h17_⟩
          clear HO_270000
          clear HO_270001
          clear BK254
          clear BK269
          clear HI0
          clear HK
          clear HB
          clear h0_ h1_ h2_ h3_ h4_ h5_ h6_ h7_ h8_ h9_ h10_ h11_ h12_ h13_ h14_ h15_ h16_ h17_
          have HO315 := n0_
          have HO318 := n1_
          have HO_270000 := n2_
          have HO_270001 := n3_
          have BK254 := n4_
          have BK269 := n5_
          have BK321 := n6_
          have GW321 := n7_
          have GE321 := n8_
          have NB0_321 := n9_
          have NB321_0 := n10_
          have NB254_321 := n11_
          have NB321_254 := n12_
          have NB269_321 := n13_
          have NB321_269 := n14_
          have HI0 := n15_
          have HK := n16_
          have HB := n17_
          clear n0_ n1_ n2_ n3_ n4_ n5_ n6_ n7_ n8_ n9_ n10_ n11_ n12_ n13_ n14_ n15_ n16_ n17_
          have hHeld : w116.cell? ⟨gb269, 0, none⟩ = some (.slice Ao109 x270000_1.length co109) ∧ w116.cell? ⟨gb269, 1, none⟩ = some (.slice Ao110 x270001_1.length co110) ∧ w116.cell? ⟨gb269, 2, none⟩ = some (.int .i64 x270002_1) := hS_
          obtain ⟨Ao117, co117, eo117⟩ := Kd.R_slice HO315.out
          (first | subst eo117 | (injection eo117 with f1_ f2_ f3_; have f4_ := f1_.symm; have f5_ := f3_.symm; clear f1_ f2_ f3_; subst f4_; subst f5_))
          obtain ⟨Ao119, co119, eo119⟩ := Kd.R_slice HO318.out
          (first | subst eo119 | (injection eo119 with f1_ f2_ f3_; have f4_ := f1_.symm; have f5_ := f3_.symm; clear f1_ f2_ f3_; subst f4_; subst f5_))
          refine norm_ (a' := ?_) ?_ ?_
          rotate_left
          ·simp only [putAll, Act.put, List.setIfInBounds_toArray, List.set_cons_zero, List.set_cons_succ]
           rfl
          refine one_ (i := 10) (N := none) #[true, true, true, true, true, true, true, true, true, true, true, false] rfl rfl (one_of HT_.out (by kernel_rfl)) (by decide) (fun K hK => ?_)
          have hs118 : w116.cell? ⟨gb321, 0, none⟩ = some (.slice none 0 0) := (blk_cell BK321.out 0).trans rfl
          have hfs118 := blk_frozen BK321.out 0
          have hns118_0 := NB254_321.out
          have hns118_1 := NB269_321.out
          have hms118_0 := NB321_254.out
          have hms118_1 := NB321_269.out
          have hs120 : w116.cell? ⟨gb321, 1, none⟩ = some (.slice none 0 0) := (blk_cell BK321.out 1).trans rfl
          have hfs120 := blk_frozen BK321.out 1
          have hns120_0 := NB254_321.out
          have hns120_1 := NB269_321.out
          have hms120_0 := NB321_254.out
          have hms120_1 := NB321_269.out
          have hs121 : w116.cell? ⟨gb321, 2, none⟩ = some (.int .i64 0) := (blk_cell BK321.out 2).trans rfl
          have hfs121 := blk_frozen BK321.out 2
          have hns121_0 := NB254_321.out
          have hns121_1 := NB269_321.out
          have hms121_0 := NB321_254.out
          have hms121_1 := NB321_269.out
          refine skip_ (w1 := ?_) (by rfl) rfl ?_ ?_
          rotate_left
          ·go_simp
           rfl
          refine hK.out _ _ ⟨((cell_far (p := ⟨gb321, _, none⟩) NB269_321.out _).trans (((cell_far (p := ⟨gb321, _, none⟩) NB269_321.out _).trans (((cell_far (p := ⟨gb321, _, none⟩) NB269_321.out _).trans (hHeld.1)))))), ((cell_far (p := ⟨gb321, _, none⟩) NB269_321.out _).trans (((cell_far (p := ⟨gb321, _, none⟩) NB269_321.out _).trans (((cell_far (p := ⟨gb321, _, none⟩) NB269_321.out _).trans (hHeld.2.1)))))), ((cell_far (p := ⟨gb321, _, none⟩) NB269_321.out _).trans (((cell_far (p := ⟨gb321, _, none⟩) NB269_321.out _).trans (((cell_far (p := ⟨gb321, _, none⟩) NB269_321.out _).trans (hHeld.2.2))))))⟩ (fun hHeld => ?_)
          clear hK K
          refine xP1 (i := 11) (N := some 11) #[true, true, true, true, true, true, true, true, true, true, true, true] (any_of HT_.out (by kernel_rfl)) (h := ?_)
          refine done_ (done_of HT_.out (by kernel_rfl)) ?_
          have hnb122 := NB321_254.out
          have hnc122 := NB254_321.out
          have hnb123 := NB321_269.out
          have hnc123 := NB269_321.out
          have hnb124 := NB321_0.out
          have hnc124 := NB0_321.out
          obtain ⟨hcz125_0, hcz125_1, hcz125_2, hfz125_0, hfz125_1, hfz125_2⟩ := xT3 (W := w116) BK321.out
          have hnb126 := NB269_254.out
          have hnc126 := NB254_269.out
          have hnb127 := NB269_0.out
          have hnc127 := NB0_269.out
          obtain ⟨hcz128_0, hcz128_1, hcz128_2, hfz128_0, hfz128_1, hfz128_2⟩ := xT3 (W := w116) BK269.out
          try go_wp2
          go_roundg kj52
          case measure => have := HK1.out; have := HJ52.out; omega
          case rel => exact ⟨(wrap64 (x5_1 + 1)), (t311), (t312), (t313), (t316), (t319), (.slice Ao117 t313.length co117), (.slice Ao119 t316.length co119), (xQ), H', ⟨by have := HK1.out; have := HJ52.out; omega⟩, ⟨Kd.R_mono (xR HO315.out) (fun _ hk => hk.1)⟩, ⟨Kd.R_mono (xR HO318.out) (fun _ hk => hk.1)⟩, ⟨xB BK254.out⟩, ⟨xP BK269.out⟩, ⟨xH85 HI0.out⟩, ⟨xK HK.out⟩, ⟨xWI HB.out (IsS85.ge HI0.out)⟩⟩
         ·replace c108 := Bool.eq_false_iff.mpr c108
          subst c108
          have H1 : (spec_l04Table.l0 kj52 (wrap64 (x5_1 + 1)) s0_0 t311 t312 x270000_1 x270001_1 x270002_1) = some (r1, r2, r3, r4, r5) := by rw [if_neg (show ¬ (false = true) by decide)] at H; exact H
          clear H
          have H := H1
          clear H1
          have H' := am H
          clear H
          obtain ⟨Ao129, co129, eo129⟩ := Kd.R_slice HO_270000.out
          subst eo129
          obtain ⟨Ao130, co130, eo130⟩ := Kd.R_slice HO_270001.out
          subst eo130
          try go_wp2
          replace HO_270000 := am (Kd.R_drew HO_270000.out)
          replace HO_270001 := am (Kd.R_drew HO_270001.out)
          replace BK254 := am (blk_drew BK254.out)
          replace BK269 := am (blk_drew BK269.out)
          replace HI0 := am (IsS85.drew HI0.out)
          replace HK := am (keep_drew HK.out)
          replace HB := am (below_drew1 HB.out)
          refine start_ (n := 12) (S := fun w' => w'.cell? ⟨gb269, 0, none⟩ = some (.slice Ao129 x270000_1.length co129) ∧ w'.cell? ⟨gb269, 1, none⟩ = some (.slice Ao130 x270001_1.length co130) ∧ w'.cell? ⟨gb269, 2, none⟩ = some (.int .i64 x270002_1)) (ds := []) #[false, false, false, false, false, false, false, false, false, false, false, false] (by kernel_rfl) rfl rfl (xC3 BK269.out) (fun hHeld => ?_); refine with_tabW spec_l04Table.tab6 spec_l04Table.bits6 (fun HT_ HW_ => ?_)
          generalize wc.drew = w131 at HO_270000 HO_270001 BK254 BK269 HI0 HK HB hHeld ⊢
          refine xP1 (i := 1) (N := some 29) #[false, true, false, false, false, false, false, false, false, false, false, false] (any_of HT_.out (by kernel_rfl)) (h := ?_)
          refine xP1 (i := 3) (N := some 31) #[false, true, false, true, false, false, false, false, false, false, false, false] (any_of HT_.out (by kernel_rfl)) (h := ?_)
          refine take_ (i := 0) (N := some 28) (v := ?_) (a' := ?_) #[true, true, false, true, false, false, false, false, false, false, false, false] rfl rfl (take_ofW HT_.out HW_.out (by kernel_rfl)) (fun _ _ _ h => h) (Or.inl ⟨by rfl, ?_⟩) hHeld ?_ ?_
          rotate_left
          ·rintro w' ⟨s0, s1, s2⟩
           go_simp
           with_reducible rfl
          rotate_left
          ·simp only [Act.put, List.setIfInBounds_toArray, List.set_cons_zero, List.set_cons_succ, i64_w, i32_w]
           rfl
          refine join_ (σ := Value × Value × Nat) 2 #[true, true, true, true, true, true, true, true, true, true, false, false] (fun s_ => [(30, .string t307), (32, .int .i64 t310), (33, .tuple #[.agg #[s_.1, s_.2.1, .int .i64 t319], .bool false]), (10, .pointer (some ⟨s_.2.2, 0, none⟩)), (27, .tuple #[.agg #[s_.1, s_.2.1, .int .i64 t319], .bool false]), (34, .agg #[s_.1, s_.2.1, .int .i64 t319]), (35, .bool false)]) (fun s_ w' => (w'.cell? ⟨gb269, 0, none⟩ = some (.slice Ao129 x270000_1.length co129) ∧ w'.cell? ⟨gb269, 1, none⟩ = some (.slice Ao130 x270001_1.length co130) ∧ w'.cell? ⟨gb269, 2, none⟩ = some (.int .i64 x270002_1)) ∧ (Kd.R k57 57 w' w.heap.size (fun k_ => some k_ ≠ (s_.2.1 : Value).ownBlock ∧ some k_ ≠ (.slice Ao129 x270000_1.length co129 : Value).ownBlock ∧ some k_ ≠ (.slice Ao130 x270001_1.length co130 : Value).ownBlock) s_.1 t313) ∧ (Kd.R k57 57 w' w.heap.size (fun k_ => some k_ ≠ (s_.1 : Value).ownBlock ∧ some k_ ≠ (.slice Ao129 x270000_1.length co129 : Value).ownBlock ∧ some k_ ≠ (.slice Ao130 x270001_1.length co130 : Value).ownBlock) s_.2.1 t316) ∧ (Kd.R k57 57 w' w.heap.size (fun k_ => some k_ ≠ (s_.1 : Value).ownBlock ∧ some k_ ≠ (s_.2.1 : Value).ownBlock ∧ some k_ ≠ (.slice Ao130 x270001_1.length co130 : Value).ownBlock) (.slice Ao129 x270000_1.length co129) x270000_1) ∧ (Kd.R k57 57 w' w.heap.size (fun k_ => some k_ ≠ (s_.1 : Value).ownBlock ∧ some k_ ≠ (s_.2.1 : Value).ownBlock ∧ some k_ ≠ (.slice Ao129 x270000_1.length co129 : Value).ownBlock) (.slice Ao130 x270001_1.length co130) x270001_1) ∧ (w'.heap[gb254]? = some (.cells #[.slice none 0 0, .slice none 0 0, .int .i64 0] 26 (0, 0))) ∧ (w'.heap[gb269]? = some (.cells #[.slice Ao129 x270000_1.length co129, .slice Ao130 x270001_1.length co130, .int .i64 x270002_1] 26 (0, 0))) ∧ (w'.heap[s_.2.2]? = some (.cells #[.slice none 0 0, .slice none 0 0, .int .i64 0] 26 (0, 0))) ∧ (w.heap.size ≤ s_.2.2) ∧ (w0.heap.size ≤ s_.2.2) ∧ (g ≠ s_.2.2) ∧ (s_.2.2 ≠ g) ∧ (gb254 ≠ s_.2.2) ∧ (s_.2.2 ≠ gb254) ∧ (gb269 ≠ s_.2.2) ∧ (s_.2.2 ≠ gb269) ∧ (IsS85 w0 w' g s0_0 t311 t312) ∧ (KeepBut w w' g none) ∧ (Below w0.heap.size w0 w')) ?_ ?_
          rotate_left
          ·intro hCont
           refine two_ (i := 2) (j := 9) (Ni := some 30) (Nj := some 10) #[true, true, true, true, false, false, false, false, false, false, false, false] #[true, true, false, true, false, false, false, false, false, true, false, false] rfl rfl rfl rfl (two_of HT_.out (by kernel_rfl)) (by decide) (by decide) (fun K hK => ?_) (fun K hK => ?_)
           ·skip
            refine xG1 46 Try.func46 #[.pointer (some ⟨g, 0, none⟩)] (h := ?_)
            with_reducible refine (spec_l03Key.calls g s0_0 t274 t275 t307 t308 t309 w0 _ ?side1 ?side2 A105.out).mono ?_
            (case side1 => exact xH85 HI0.out)
            (case side2 => exact xWI HB.out (IsS85.ge HI0.out))
            rintro e w132 ⟨rfl, hi, hb, hk⟩
            refine ⟨_, rfl, ?_⟩
            replace HO_270000 := am (Kd.R_mono (Kd.R_keep (IsS85.apart (show IsS85 w0 _ g s0_0 t274 t275 from xH85 HI0.out) (xR HO_270000.out) (by decide)) hk (fun _ h => h.2)) (fun _ h => h.1))
            replace HO_270001 := am (Kd.R_mono (Kd.R_keep (IsS85.apart (show IsS85 w0 _ g s0_0 t274 t275 from xH85 HI0.out) (xR HO_270001.out) (by decide)) hk (fun _ h => h.2)) (fun _ h => h.1))
            replace BK254 := am (KeepBut.blk hk (g' := gb254) (o := .cells #[.slice none 0 0, .slice none 0 0, .int .i64 0] 26 (0, 0)) (xB BK254.out) NB254_0.out (by simp))
            replace BK269 := am (KeepBut.blk hk (g' := gb269) (o := .cells #[.slice Ao129 x270000_1.length co129, .slice Ao130 x270001_1.length co130, .int .i64 x270002_1] 26 (0, 0)) (xB BK269.out) NB269_0.out (by simp))
            replace HK := am (KeepBut.trans (xK HK.out) hk (.inl rfl))
            replace HB := am (hb)
            replace HI0 := am (hi)
            (try clear hb)
            (try clear hk)
            (try clear hi)
            refine hK.out _ _ (xC3 BK269.out) (fun hHeld => ?_)
            clear hK K
            refine xN1 (h := ?_)
            refine two_ (i := 4) (j := 9) (Ni := some 32) (Nj := some 10) #[true, true, true, true, true, false, false, false, false, false, false, false] #[true, true, true, true, false, false, false, false, false, true, false, false] rfl rfl rfl rfl (two_of HT_.out (by kernel_rfl)) (by decide) (by decide) (fun K hK => ?_) (fun K hK => ?_)
            ·skip
             refine xG1 57 Try.func57 #[.pointer (some ⟨g, 0, none⟩), .int .i64 50] (h := ?_)
             with_reducible refine (spec_l01Below.calls g s0_0 t308 t309 50 t310 t311 t312 w0 _ ?side1 ?side2 A106.out).mono ?_
             (case side1 => exact xH85 HI0.out)
             (case side2 => exact xWI HB.out (IsS85.ge HI0.out))
             rintro e w133 ⟨rfl, hi, hb, hk⟩
             refine ⟨_, rfl, ?_⟩
             replace HO_270000 := am (Kd.R_mono (Kd.R_keep (IsS85.apart (show IsS85 w0 _ g s0_0 t308 t309 from xH85 HI0.out) (xR HO_270000.out) (by decide)) hk (fun _ h => h.2)) (fun _ h => h.1))
             replace HO_270001 := am (Kd.R_mono (Kd.R_keep (IsS85.apart (show IsS85 w0 _ g s0_0 t308 t309 from xH85 HI0.out) (xR HO_270001.out) (by decide)) hk (fun _ h => h.2)) (fun _ h => h.1))
             replace BK254 := am (KeepBut.blk hk (g' := gb254) (o := .cells #[.slice none 0 0, .slice none 0 0, .int .i64 0] 26 (0, 0)) (xB BK254.out) NB254_0.out (by simp))
             replace BK269 := am (KeepBut.blk hk (g' := gb269) (o := .cells #[.slice Ao129 x270000_1.length co129, .slice Ao130 x270001_1.length co130, .int .i64 x270002_1] 26 (0, 0)) (xB BK269.out) NB269_0.out (by simp))
             replace HK := am (KeepBut.trans (xK HK.out) hk (.inl rfl))
             replace HB := am (hb)
             replace HI0 := am (hi)
             (try clear hb)
             (try clear hk)
             (try clear hi)
             refine hK.out _ _ (xC3 BK269.out) (fun hHeld => ?_)
             clear hK K
             refine xN1 (h := ?_)
             refine two_ (i := 5) (j := 9) (Ni := some 33) (Nj := some 10) #[true, true, true, true, true, true, false, false, false, false, false, false] #[true, true, true, true, true, false, false, false, false, true, false, false] rfl rfl rfl rfl (two_of HT_.out (by kernel_rfl)) (by decide) (by decide) (fun K hK => ?_) (fun K hK => ?_)
             ·skip
              refine xG1 37 Try.func37 #[.agg #[.slice Ao129 x270000_1.length co129, .slice Ao130 x270001_1.length co130, .int .i64 x270002_1], .string t307, .int .i64 t310] (h := ?_)
              with_reducible refine (spec_PutKey.calls kj52 _ _ x270000_1 _ _ x270001_1 x270002_1 t307 t310 t313 t316 t319 false _ ?side1 ?side2 ?side3 ?side4 A107.out).mono ?_
              (case side1 => exact xC ((Kd.R_reads' HO_270000.out).2.2))
              (case side2 => exact (Kd.R_reads' HO_270000.out).2.1)
              (case side3 => exact xC ((Kd.R_reads' HO_270001.out).2.2))
              (case side4 => exact (Kd.R_reads' HO_270001.out).2.1)
              rintro e w134 ⟨v314, v317, rfl, ho0, ho1, hb⟩
              refine ⟨_, rfl, ?_⟩
              have HO315 := am (Kd.R_lower (Kd.R_new' (Kd.R_new' ho0 (Kd.R_lt (xR HO_270000.out))) (Kd.R_lt (xR HO_270001.out))) (xKZ HK.out))
              have HO318 := am (Kd.R_lower (Kd.R_new' (Kd.R_new' ho1 (Kd.R_lt (xR HO_270000.out))) (Kd.R_lt (xR HO_270001.out))) (xKZ HK.out))
              replace HO_270000 := am (Kd.R_mono (Kd.R_told (Kd.R_told (Kd.R_old (xR HO_270000.out) hb) (Kd.R_base ho0)) (Kd.R_base ho1)) (fun _ h_ => h_.1))
              replace HO_270001 := am (Kd.R_mono (Kd.R_told (Kd.R_told (Kd.R_old (xR HO_270001.out) hb) (Kd.R_base ho0)) (Kd.R_base ho1)) (fun _ h_ => h_.1))
              replace BK254 := am (blk_below (xB BK254.out) hb)
              replace BK269 := am (blk_below (xB BK269.out) hb)
              replace HK := am (xKB HK.out hb)
              replace HB := am (below_step (xWI HB.out (IsS85.ge HI0.out)) hb)
              replace HI0 := am (IsS85.below (xH85 HI0.out) hb)
              (try clear hb)
              (try clear ho0)
              (try clear ho1)
              refine hK.out _ _ (xC3 BK269.out) (fun hHeld => ?_)
              clear hK K
              refine xN1 (h := ?_)
              refine xP1 (i := 6) (N := some 27) #[true, true, true, true, true, true, true, false, false, false, false, false] (any_of HT_.out (by kernel_rfl)) (h := ?_)
              refine xP1 (i := 7) (N := some 34) #[true, true, true, true, true, true, true, true, false, false, false, false] (any_of HT_.out (by kernel_rfl)) (h := ?_)
              refine xP1 (i := 8) (N := some 35) #[true, true, true, true, true, true, true, true, true, false, false, false] (any_of HT_.out (by kernel_rfl)) (h := ?_)
              refine one_ (i := 9) (N := some 10) #[true, true, true, true, true, true, true, true, true, true, false, false] rfl rfl (one_of HT_.out (by kernel_rfl)) (by decide) (fun K hK => ?_)
              refine xE1 (N := 10) (cs := #[.slice none 0 0, .slice none 0 0, .int .i64 0]) (t := 26) (h := ?_)
              intro gb321 hg w135 hbox hb
              replace HO_270000 := am (Kd.R_below (xR HO_270000.out) hb)
              replace HO_270001 := am (Kd.R_below (xR HO_270001.out) hb)
              replace HO315 := am (Kd.R_below (xR HO315.out) hb)
              replace HO318 := am (Kd.R_below (xR HO318.out) hb)
              replace HB := am (below_step (xWI HB.out (IsS85.ge HI0.out)) hb)
              have BK321 := am (hbox)
              have GW321 := am ((xKS hg HK.out))
              have GE321 := am ((Nat.le_trans HW0.out (xKS hg HK.out)))
              replace HK := am (xKB HK.out hb)
              have NB254_321 := am (xN hg BK254.out)
              have NB321_254 := am (xM hg BK254.out)
              replace BK254 := am (blk_below (xB BK254.out) hb)
              have NB269_321 := am (xN hg BK269.out)
              have NB321_269 := am (xM hg BK269.out)
              replace BK269 := am (blk_below (xB BK269.out) hb)
              have NB0_321 := am ((xL hg (IsS85.lt (show IsS85 w0 _ g s0_0 t311 t312 from xH85 HI0.out))))
              have NB321_0 := am ((xLM hg (IsS85.lt (show IsS85 w0 _ g s0_0 t311 t312 from xH85 HI0.out))))
              replace HI0 := am (IsS85.below (xH85 HI0.out) hb)
              clear hb hbox hg
              refine hK.out _ _ (xC3 BK269.out) (fun hHeld => ?_)
              clear hK K
              refine xN1 (h := ?_)
              exact xN2 (hCont (v314, v317, gb321) _ ⟨hHeld, (Kd.R_mono (xR HO315.out) (fun _ hk => ⟨hk.1.1, ⟨hk.1.2, hk.2⟩⟩)), (Kd.R_mono (xR HO318.out) (fun _ hk => ⟨hk.1.1, ⟨hk.1.2, hk.2⟩⟩)), (Kd.R_mono (xR HO_270000.out) (fun _ hk => ⟨hk.1.2, ⟨hk.2, hk.1.1⟩⟩)), (Kd.R_mono (xR HO_270001.out) (fun _ hk => ⟨hk.1.2, ⟨hk.2, hk.1.1⟩⟩)), (xB BK254.out), (xB BK269.out), (xB BK321.out), GW321.out, GE321.out, NB0_321.out, NB321_0.out, NB254_321.out, NB321_254.out, NB269_321.out, NB321_269.out, (xH85 HI0.out), (xK HK.out), (xWI HB.out (IsS85.ge HI0.out))⟩)
             ·skip
              refine xE1 (N := 10) (cs := #[.slice none 0 0, .slice none 0 0, .int .i64 0]) (t := 26) (h := ?_)
              intro gb321 hg w134 hbox hb
              replace HO_270000 := am (Kd.R_below (xR HO_270000.out) hb)
              replace HO_270001 := am (Kd.R_below (xR HO_270001.out) hb)
              replace HB := am (below_step (xWI HB.out (IsS85.ge HI0.out)) hb)
              have BK321 := am (hbox)
              have GW321 := am ((xKS hg HK.out))
              have GE321 := am ((Nat.le_trans HW0.out (xKS hg HK.out)))
              replace HK := am (xKB HK.out hb)
              have NB254_321 := am (xN hg BK254.out)
              have NB321_254 := am (xM hg BK254.out)
              replace BK254 := am (blk_below (xB BK254.out) hb)
              have NB269_321 := am (xN hg BK269.out)
              have NB321_269 := am (xM hg BK269.out)
              replace BK269 := am (blk_below (xB BK269.out) hb)
              have NB0_321 := am ((xL hg (IsS85.lt (show IsS85 w0 _ g s0_0 t311 t312 from xH85 HI0.out))))
              have NB321_0 := am ((xLM hg (IsS85.lt (show IsS85 w0 _ g s0_0 t311 t312 from xH85 HI0.out))))
              replace HI0 := am (IsS85.below (xH85 HI0.out) hb)
              clear hb hbox hg
              refine hK.out _ _ (xC3 BK269.out) (fun hHeld => ?_)
              clear hK K
              refine xN1 (h := ?_)
              refine one_ (i := 5) (N := some 33) #[true, true, true, true, true, true, false, false, false, true, false, false] rfl rfl (one_of HT_.out (by kernel_rfl)) (by decide) (fun K hK => ?_)
              refine xG1 37 Try.func37 #[.agg #[.slice Ao129 x270000_1.length co129, .slice Ao130 x270001_1.length co130, .int .i64 x270002_1], .string t307, .int .i64 t310] (h := ?_)
              with_reducible refine (spec_PutKey.calls kj52 _ _ x270000_1 _ _ x270001_1 x270002_1 t307 t310 t313 t316 t319 false _ ?side1 ?side2 ?side3 ?side4 A107.out).mono ?_
              (case side1 => exact xC ((Kd.R_reads' HO_270000.out).2.2))
              (case side2 => exact (Kd.R_reads' HO_270000.out).2.1)
              (case side3 => exact xC ((Kd.R_reads' HO_270001.out).2.2))
              (case side4 => exact (Kd.R_reads' HO_270001.out).2.1)
              rintro e w135 ⟨v314, v317, rfl, ho0, ho1, hb⟩
              refine ⟨_, rfl, ?_⟩
              have HO315 := am (Kd.R_lower (Kd.R_new' (Kd.R_new' ho0 (Kd.R_lt (xR HO_270000.out))) (Kd.R_lt (xR HO_270001.out))) (xKZ HK.out))
              have HO318 := am (Kd.R_lower (Kd.R_new' (Kd.R_new' ho1 (Kd.R_lt (xR HO_270000.out))) (Kd.R_lt (xR HO_270001.out))) (xKZ HK.out))
              replace HO_270000 := am (Kd.R_mono (Kd.R_told (Kd.R_told (Kd.R_old (xR HO_270000.out) hb) (Kd.R_base ho0)) (Kd.R_base ho1)) (fun _ h_ => h_.1))
              replace HO_270001 := am (Kd.R_mono (Kd.R_told (Kd.R_told (Kd.R_old (xR HO_270001.out) hb) (Kd.R_base ho0)) (Kd.R_base ho1)) (fun _ h_ => h_.1))
              replace BK254 := am (blk_below (xB BK254.out) hb)
              replace BK269 := am (blk_below (xB BK269.out) hb)
              replace BK321 := am (blk_below (xB BK321.out) hb)
              replace HK := am (xKB HK.out hb)
              replace HB := am (below_step (xWI HB.out (IsS85.ge HI0.out)) hb)
              replace HI0 := am (IsS85.below (xH85 HI0.out) hb)
              (try clear hb)
              (try clear ho0)
              (try clear ho1)
              refine hK.out _ _ (xC3 BK269.out) (fun hHeld => ?_)
              clear hK K
              refine xN1 (h := ?_)
              refine xP1 (i := 6) (N := some 27) #[true, true, true, true, true, true, true, false, false, true, false, false] (any_of HT_.out (by kernel_rfl)) (h := ?_)
              refine xP1 (i := 7) (N := some 34) #[true, true, true, true, true, true, true, true, false, true, false, false] (any_of HT_.out (by kernel_rfl)) (h := ?_)
              refine xP1 (i := 8) (N := some 35) #[true, true, true, true, true, true, true, true, true, true, false, false] (any_of HT_.out (by kernel_rfl)) (h := ?_)
              exact xN2 (hCont (v314, v317, gb321) _ ⟨hHeld, (Kd.R_mono (xR HO315.out) (fun _ hk => ⟨hk.1.1, ⟨hk.1.2, hk.2⟩⟩)), (Kd.R_mono (xR HO318.out) (fun _ hk => ⟨hk.1.1, ⟨hk.1.2, hk.2⟩⟩)), (Kd.R_mono (xR HO_270000.out) (fun _ hk => ⟨hk.1.2, ⟨hk.2, hk.1.1⟩⟩)), (Kd.R_mono (xR HO_270001.out) (fun _ hk => ⟨hk.1.2, ⟨hk.2, hk.1.1⟩⟩)), (xB BK254.out), (xB BK269.out), (xB BK321.out), GW321.out, GE321.out, NB0_321.out, NB321_0.out, NB254_321.out, NB321_254.out, NB269_321.out, NB321_269.out, (xH85 HI0.out), (xK HK.out), (xWI HB.out (IsS85.ge HI0.out))⟩)
            ·skip
             refine xE1 (N := 10) (cs := #[.slice none 0 0, .slice none 0 0, .int .i64 0]) (t := 26) (h := ?_)
             intro gb321 hg w133 hbox hb
             replace HO_270000 := am (Kd.R_below (xR HO_270000.out) hb)
             replace HO_270001 := am (Kd.R_below (xR HO_270001.out) hb)
             replace HB := am (below_step (xWI HB.out (IsS85.ge HI0.out)) hb)
             have BK321 := am (hbox)
             have GW321 := am ((xKS hg HK.out))
             have GE321 := am ((Nat.le_trans HW0.out (xKS hg HK.out)))
             replace HK := am (xKB HK.out hb)
             have NB254_321 := am (xN hg BK254.out)
             have NB321_254 := am (xM hg BK254.out)
             replace BK254 := am (blk_below (xB BK254.out) hb)
             have NB269_321 := am (xN hg BK269.out)
             have NB321_269 := am (xM hg BK269.out)
             replace BK269 := am (blk_below (xB BK269.out) hb)
             have NB0_321 := am ((xL hg (IsS85.lt (show IsS85 w0 _ g s0_0 t308 t309 from xH85 HI0.out))))
             have NB321_0 := am ((xLM hg (IsS85.lt (show IsS85 w0 _ g s0_0 t308 t309 from xH85 HI0.out))))
             replace HI0 := am (IsS85.below (xH85 HI0.out) hb)
             clear hb hbox hg
             refine hK.out _ _ (xC3 BK269.out) (fun hHeld => ?_)
             clear hK K
             refine xN1 (h := ?_)
             refine one_ (i := 4) (N := some 32) #[true, true, true, true, true, false, false, false, false, true, false, false] rfl rfl (one_of HT_.out (by kernel_rfl)) (by decide) (fun K hK => ?_)
             refine xG1 57 Try.func57 #[.pointer (some ⟨g, 0, none⟩), .int .i64 50] (h := ?_)
             with_reducible refine (spec_l01Below.calls g s0_0 t308 t309 50 t310 t311 t312 w0 _ ?side1 ?side2 A106.out).mono ?_
             (case side1 => exact xH85 HI0.out)
             (case side2 => exact xWI HB.out (IsS85.ge HI0.out))
             rintro e w134 ⟨rfl, hi, hb, hk⟩
             refine ⟨_, rfl, ?_⟩
             replace HO_270000 := am (Kd.R_mono (Kd.R_keep (IsS85.apart (show IsS85 w0 _ g s0_0 t308 t309 from xH85 HI0.out) (xR HO_270000.out) (by decide)) hk (fun _ h => h.2)) (fun _ h => h.1))
             replace HO_270001 := am (Kd.R_mono (Kd.R_keep (IsS85.apart (show IsS85 w0 _ g s0_0 t308 t309 from xH85 HI0.out) (xR HO_270001.out) (by decide)) hk (fun _ h => h.2)) (fun _ h => h.1))
             replace BK254 := am (KeepBut.blk hk (g' := gb254) (o := .cells #[.slice none 0 0, .slice none 0 0, .int .i64 0] 26 (0, 0)) (xB BK254.out) NB254_0.out (by simp))
             replace BK269 := am (KeepBut.blk hk (g' := gb269) (o := .cells #[.slice Ao129 x270000_1.length co129, .slice Ao130 x270001_1.length co130, .int .i64 x270002_1] 26 (0, 0)) (xB BK269.out) NB269_0.out (by simp))
             replace BK321 := am (KeepBut.blk hk (g' := gb321) (o := .cells #[.slice none 0 0, .slice none 0 0, .int .i64 0] 26 (0, 0)) (xB BK321.out) NB321_0.out (by simp))
             replace HK := am (KeepBut.trans (xK HK.out) hk (.inl rfl))
             replace HB := am (hb)
             replace HI0 := am (hi)
             (try clear hb)
             (try clear hk)
             (try clear hi)
             refine hK.out _ _ (xC3 BK269.out) (fun hHeld => ?_)
             clear hK K
             refine xN1 (h := ?_)
             refine one_ (i := 5) (N := some 33) #[true, true, true, true, true, true, false, false, false, true, false, false] rfl rfl (one_of HT_.out (by kernel_rfl)) (by decide) (fun K hK => ?_)
             refine xG1 37 Try.func37 #[.agg #[.slice Ao129 x270000_1.length co129, .slice Ao130 x270001_1.length co130, .int .i64 x270002_1], .string t307, .int .i64 t310] (h := ?_)
             with_reducible refine (spec_PutKey.calls kj52 _ _ x270000_1 _ _ x270001_1 x270002_1 t307 t310 t313 t316 t319 false _ ?side1 ?side2 ?side3 ?side4 A107.out).mono ?_
             (case side1 => exact xC ((Kd.R_reads' HO_270000.out).2.2))
             (case side2 => exact (Kd.R_reads' HO_270000.out).2.1)
             (case side3 => exact xC ((Kd.R_reads' HO_270001.out).2.2))
             (case side4 => exact (Kd.R_reads' HO_270001.out).2.1)
             rintro e w135 ⟨v314, v317, rfl, ho0, ho1, hb⟩
             refine ⟨_, rfl, ?_⟩
             have HO315 := am (Kd.R_lower (Kd.R_new' (Kd.R_new' ho0 (Kd.R_lt (xR HO_270000.out))) (Kd.R_lt (xR HO_270001.out))) (xKZ HK.out))
             have HO318 := am (Kd.R_lower (Kd.R_new' (Kd.R_new' ho1 (Kd.R_lt (xR HO_270000.out))) (Kd.R_lt (xR HO_270001.out))) (xKZ HK.out))
             replace HO_270000 := am (Kd.R_mono (Kd.R_told (Kd.R_told (Kd.R_old (xR HO_270000.out) hb) (Kd.R_base ho0)) (Kd.R_base ho1)) (fun _ h_ => h_.1))
             replace HO_270001 := am (Kd.R_mono (Kd.R_told (Kd.R_told (Kd.R_old (xR HO_270001.out) hb) (Kd.R_base ho0)) (Kd.R_base ho1)) (fun _ h_ => h_.1))
             replace BK254 := am (blk_below (xB BK254.out) hb)
             replace BK269 := am (blk_below (xB BK269.out) hb)
             replace BK321 := am (blk_below (xB BK321.out) hb)
             replace HK := am (xKB HK.out hb)
             replace HB := am (below_step (xWI HB.out (IsS85.ge HI0.out)) hb)
             replace HI0 := am (IsS85.below (xH85 HI0.out) hb)
             (try clear hb)
             (try clear ho0)
             (try clear ho1)
             refine hK.out _ _ (xC3 BK269.out) (fun hHeld => ?_)
             clear hK K
             refine xN1 (h := ?_)
             refine xP1 (i := 6) (N := some 27) #[true, true, true, true, true, true, true, false, false, true, false, false] (any_of HT_.out (by kernel_rfl)) (h := ?_)
             refine xP1 (i := 7) (N := some 34) #[true, true, true, true, true, true, true, true, false, true, false, false] (any_of HT_.out (by kernel_rfl)) (h := ?_)
             refine xP1 (i := 8) (N := some 35) #[true, true, true, true, true, true, true, true, true, true, false, false] (any_of HT_.out (by kernel_rfl)) (h := ?_)
             exact xN2 (hCont (v314, v317, gb321) _ ⟨hHeld, (Kd.R_mono (xR HO315.out) (fun _ hk => ⟨hk.1.1, ⟨hk.1.2, hk.2⟩⟩)), (Kd.R_mono (xR HO318.out) (fun _ hk => ⟨hk.1.1, ⟨hk.1.2, hk.2⟩⟩)), (Kd.R_mono (xR HO_270000.out) (fun _ hk => ⟨hk.1.2, ⟨hk.2, hk.1.1⟩⟩)), (Kd.R_mono (xR HO_270001.out) (fun _ hk => ⟨hk.1.2, ⟨hk.2, hk.1.1⟩⟩)), (xB BK254.out), (xB BK269.out), (xB BK321.out), GW321.out, GE321.out, NB0_321.out, NB321_0.out, NB254_321.out, NB321_254.out, NB269_321.out, NB321_269.out, (xH85 HI0.out), (xK HK.out), (xWI HB.out (IsS85.ge HI0.out))⟩)
           ·skip
            refine xE1 (N := 10) (cs := #[.slice none 0 0, .slice none 0 0, .int .i64 0]) (t := 26) (h := ?_)
            intro gb321 hg w132 hbox hb
            replace HO_270000 := am (Kd.R_below (xR HO_270000.out) hb)
            replace HO_270001 := am (Kd.R_below (xR HO_270001.out) hb)
            replace HB := am (below_step (xWI HB.out (IsS85.ge HI0.out)) hb)
            have BK321 := am (hbox)
            have GW321 := am ((xKS hg HK.out))
            have GE321 := am ((Nat.le_trans HW0.out (xKS hg HK.out)))
            replace HK := am (xKB HK.out hb)
            have NB254_321 := am (xN hg BK254.out)
            have NB321_254 := am (xM hg BK254.out)
            replace BK254 := am (blk_below (xB BK254.out) hb)
            have NB269_321 := am (xN hg BK269.out)
            have NB321_269 := am (xM hg BK269.out)
            replace BK269 := am (blk_below (xB BK269.out) hb)
            have NB0_321 := am ((xL hg (IsS85.lt (show IsS85 w0 _ g s0_0 t274 t275 from xH85 HI0.out))))
            have NB321_0 := am ((xLM hg (IsS85.lt (show IsS85 w0 _ g s0_0 t274 t275 from xH85 HI0.out))))
            replace HI0 := am (IsS85.below (xH85 HI0.out) hb)
            clear hb hbox hg
            refine hK.out _ _ (xC3 BK269.out) (fun hHeld => ?_)
            clear hK K
            refine xN1 (h := ?_)
            refine one_ (i := 2) (N := some 30) #[true, true, true, true, false, false, false, false, false, true, false, false] rfl rfl (one_of HT_.out (by kernel_rfl)) (by decide) (fun K hK => ?_)
            refine xG1 46 Try.func46 #[.pointer (some ⟨g, 0, none⟩)] (h := ?_)
            with_reducible refine (spec_l03Key.calls g s0_0 t274 t275 t307 t308 t309 w0 _ ?side1 ?side2 A105.out).mono ?_
            (case side1 => exact xH85 HI0.out)
            (case side2 => exact xWI HB.out (IsS85.ge HI0.out))
            rintro e w133 ⟨rfl, hi, hb, hk⟩
            refine ⟨_, rfl, ?_⟩
            replace HO_270000 := am (Kd.R_mono (Kd.R_keep (IsS85.apart (show IsS85 w0 _ g s0_0 t274 t275 from xH85 HI0.out) (xR HO_270000.out) (by decide)) hk (fun _ h => h.2)) (fun _ h => h.1))
            replace HO_270001 := am (Kd.R_mono (Kd.R_keep (IsS85.apart (show IsS85 w0 _ g s0_0 t274 t275 from xH85 HI0.out) (xR HO_270001.out) (by decide)) hk (fun _ h => h.2)) (fun _ h => h.1))
            replace BK254 := am (KeepBut.blk hk (g' := gb254) (o := .cells #[.slice none 0 0, .slice none 0 0, .int .i64 0] 26 (0, 0)) (xB BK254.out) NB254_0.out (by simp))
            replace BK269 := am (KeepBut.blk hk (g' := gb269) (o := .cells #[.slice Ao129 x270000_1.length co129, .slice Ao130 x270001_1.length co130, .int .i64 x270002_1] 26 (0, 0)) (xB BK269.out) NB269_0.out (by simp))
            replace BK321 := am (KeepBut.blk hk (g' := gb321) (o := .cells #[.slice none 0 0, .slice none 0 0, .int .i64 0] 26 (0, 0)) (xB BK321.out) NB321_0.out (by simp))
            replace HK := am (KeepBut.trans (xK HK.out) hk (.inl rfl))
            replace HB := am (hb)
            replace HI0 := am (hi)
            (try clear hb)
            (try clear hk)
            (try clear hi)
            refine hK.out _ _ (xC3 BK269.out) (fun hHeld => ?_)
            clear hK K
            refine xN1 (h := ?_)
            refine one_ (i := 4) (N := some 32) #[true, true, true, true, true, false, false, false, false, true, false, false] rfl rfl (one_of HT_.out (by kernel_rfl)) (by decide) (fun K hK => ?_)
            refine xG1 57 Try.func57 #[.pointer (some ⟨g, 0, none⟩), .int .i64 50] (h := ?_)
            with_reducible refine (spec_l01Below.calls g s0_0 t308 t309 50 t310 t311 t312 w0 _ ?side1 ?side2 A106.out).mono ?_
            (case side1 => exact xH85 HI0.out)
            (case side2 => exact xWI HB.out (IsS85.ge HI0.out))
            rintro e w134 ⟨rfl, hi, hb, hk⟩
            refine ⟨_, rfl, ?_⟩
            replace HO_270000 := am (Kd.R_mono (Kd.R_keep (IsS85.apart (show IsS85 w0 _ g s0_0 t308 t309 from xH85 HI0.out) (xR HO_270000.out) (by decide)) hk (fun _ h => h.2)) (fun _ h => h.1))
            replace HO_270001 := am (Kd.R_mono (Kd.R_keep (IsS85.apart (show IsS85 w0 _ g s0_0 t308 t309 from xH85 HI0.out) (xR HO_270001.out) (by decide)) hk (fun _ h => h.2)) (fun _ h => h.1))
            replace BK254 := am (KeepBut.blk hk (g' := gb254) (o := .cells #[.slice none 0 0, .slice none 0 0, .int .i64 0] 26 (0, 0)) (xB BK254.out) NB254_0.out (by simp))
            replace BK269 := am (KeepBut.blk hk (g' := gb269) (o := .cells #[.slice Ao129 x270000_1.length co129, .slice Ao130 x270001_1.length co130, .int .i64 x270002_1] 26 (0, 0)) (xB BK269.out) NB269_0.out (by simp))
            replace BK321 := am (KeepBut.blk hk (g' := gb321) (o := .cells #[.slice none 0 0, .slice none 0 0, .int .i64 0] 26 (0, 0)) (xB BK321.out) NB321_0.out (by simp))
            replace HK := am (KeepBut.trans (xK HK.out) hk (.inl rfl))
            replace HB := am (hb)
            replace HI0 := am (hi)
            (try clear hb)
            (try clear hk)
            (try clear hi)
            refine hK.out _ _ (xC3 BK269.out) (fun hHeld => ?_)
            clear hK K
            refine xN1 (h := ?_)
            refine one_ (i := 5) (N := some 33) #[true, true, true, true, true, true, false, false, false, true, false, false] rfl rfl (one_of HT_.out (by kernel_rfl)) (by decide) (fun K hK => ?_)
            refine xG1 37 Try.func37 #[.agg #[.slice Ao129 x270000_1.length co129, .slice Ao130 x270001_1.length co130, .int .i64 x270002_1], .string t307, .int .i64 t310] (h := ?_)
            with_reducible refine (spec_PutKey.calls kj52 _ _ x270000_1 _ _ x270001_1 x270002_1 t307 t310 t313 t316 t319 false _ ?side1 ?side2 ?side3 ?side4 A107.out).mono ?_
            (case side1 => exact xC ((Kd.R_reads' HO_270000.out).2.2))
            (case side2 => exact (Kd.R_reads' HO_270000.out).2.1)
            (case side3 => exact xC ((Kd.R_reads' HO_270001.out).2.2))
            (case side4 => exact (Kd.R_reads' HO_270001.out).2.1)
            rintro e w135 ⟨v314, v317, rfl, ho0, ho1, hb⟩
            refine ⟨_, rfl, ?_⟩
            have HO315 := am (Kd.R_lower (Kd.R_new' (Kd.R_new' ho0 (Kd.R_lt (xR HO_270000.out))) (Kd.R_lt (xR HO_270001.out))) (xKZ HK.out))
            have HO318 := am (Kd.R_lower (Kd.R_new' (Kd.R_new' ho1 (Kd.R_lt (xR HO_270000.out))) (Kd.R_lt (xR HO_270001.out))) (xKZ HK.out))
            replace HO_270000 := am (Kd.R_mono (Kd.R_told (Kd.R_told (Kd.R_old (xR HO_270000.out) hb) (Kd.R_base ho0)) (Kd.R_base ho1)) (fun _ h_ => h_.1))
            replace HO_270001 := am (Kd.R_mono (Kd.R_told (Kd.R_told (Kd.R_old (xR HO_270001.out) hb) (Kd.R_base ho0)) (Kd.R_base ho1)) (fun _ h_ => h_.1))
            replace BK254 := am (blk_below (xB BK254.out) hb)
            replace BK269 := am (blk_below (xB BK269.out) hb)
            replace BK321 := am (blk_below (xB BK321.out) hb)
            replace HK := am (xKB HK.out hb)
            replace HB := am (below_step (xWI HB.out (IsS85.ge HI0.out)) hb)
            replace HI0 := am (IsS85.below (xH85 HI0.out) hb)
            (try clear hb)
            (try clear ho0)
            (try clear ho1)
            refine hK.out _ _ (xC3 BK269.out) (fun hHeld => ?_)
            clear hK K
            refine xN1 (h := ?_)
            refine xP1 (i := 6) (N := some 27) #[true, true, true, true, true, true, true, false, false, true, false, false] (any_of HT_.out (by kernel_rfl)) (h := ?_)
            refine xP1 (i := 7) (N := some 34) #[true, true, true, true, true, true, true, true, false, true, false, false] (any_of HT_.out (by kernel_rfl)) (h := ?_)
            refine xP1 (i := 8) (N := some 35) #[true, true, true, true, true, true, true, true, true, true, false, false] (any_of HT_.out (by kernel_rfl)) (h := ?_)
            exact xN2 (hCont (v314, v317, gb321) _ ⟨hHeld, (Kd.R_mono (xR HO315.out) (fun _ hk => ⟨hk.1.1, ⟨hk.1.2, hk.2⟩⟩)), (Kd.R_mono (xR HO318.out) (fun _ hk => ⟨hk.1.1, ⟨hk.1.2, hk.2⟩⟩)), (Kd.R_mono (xR HO_270000.out) (fun _ hk => ⟨hk.1.2, ⟨hk.2, hk.1.1⟩⟩)), (Kd.R_mono (xR HO_270001.out) (fun _ hk => ⟨hk.1.2, ⟨hk.2, hk.1.1⟩⟩)), (xB BK254.out), (xB BK269.out), (xB BK321.out), GW321.out, GE321.out, NB0_321.out, NB321_0.out, NB254_321.out, NB321_254.out, NB269_321.out, NB321_269.out, (xH85 HI0.out), (xK HK.out), (xWI HB.out (IsS85.ge HI0.out))⟩)
          rintro ⟨v314, v317, gb321⟩ w136 ⟨hS_, h0_, h1_, h2_, h3_, h4_, h5_, h6_, h7_, h8_, h9_, h10_, h11_, h12_, h13_, h14_, h15_, h16_, h17_⟩
          have n0_ : Aside0 (Kd.R k57 57 w136 w.heap.size (fun k_ => some k_ ≠ (v317 : Value).ownBlock ∧ some k_ ≠ (.slice Ao129 x270000_1.length co129 : Value).ownBlock ∧ some k_ ≠ (.slice Ao130 x270001_1.length co130 : Value).ownBlock) v314 t313) := ⟨h0_⟩
          have n1_ : Aside0 (Kd.R k57 57 w136 w.heap.size (fun k_ => some k_ ≠ (v314 : Value).ownBlock ∧ some k_ ≠ (.slice Ao129 x270000_1.length co129 : Value).ownBlock ∧ some k_ ≠ (.slice Ao130 x270001_1.length co130 : Value).ownBlock) v317 t316) := ⟨h1_⟩
          have n2_ : Aside0 (Kd.R k57 57 w136 w.heap.size (fun k_ => some k_ ≠ (v314 : Value).ownBlock ∧ some k_ ≠ (v317 : Value).ownBlock ∧ some k_ ≠ (.slice Ao130 x270001_1.length co130 : Value).ownBlock) (.slice Ao129 x270000_1.length co129) x270000_1) := ⟨h2_⟩
          have n3_ : Aside0 (Kd.R k57 57 w136 w.heap.size (fun k_ => some k_ ≠ (v314 : Value).ownBlock ∧ some k_ ≠ (v317 : Value).ownBlock ∧ some k_ ≠ (.slice Ao129 x270000_1.length co129 : Value).ownBlock) (.slice Ao130 x270001_1.length co130) x270001_1) := ⟨h3_⟩
          have n4_ : Aside0 (w136.heap[gb254]? = some (.cells #[.slice none 0 0, .slice none 0 0, .int .i64 0] 26 (0, 0))) := ⟨h4_⟩
          have n5_ : Aside0 (w136.heap[gb269]? = some (.cells #[.slice Ao129 x270000_1.length co129, .slice Ao130 x270001_1.length co130, .int .i64 x270002_1] 26 (0, 0))) := ⟨h5_⟩
          have n6_ : Aside0 (w136.heap[gb321]? = some (.cells #[.slice none 0 0, .slice none 0 0, .int .i64 0] 26 (0, 0))) := ⟨h6_⟩
          have n7_ : Aside0 (w.heap.size ≤ gb321) := ⟨h7_⟩
          have n8_ : Aside0 (w0.heap.size ≤ gb321) := ⟨h8_⟩
          have n9_ : Aside0 (g ≠ gb321) := ⟨h9_⟩
          have n10_ : Aside0 (gb321 ≠ g) := ⟨h10_⟩
          have n11_ : Aside0 (gb254 ≠ gb321) := ⟨h11_⟩
          have n12_ : Aside0 (gb321 ≠ gb254) := ⟨h12_⟩
          have n13_ : Aside0 (gb269 ≠ gb321) := ⟨h13_⟩
          have n14_ : Aside0 (gb321 ≠ gb269) := ⟨h14_⟩
          have n15_ : Aside0 (IsS85 w0 w136 g s0_0 t311 t312) := ⟨h15_⟩
          have n16_ : Aside0 (KeepBut w w136 g none) := ⟨h16_⟩
          have n17_ : Aside0 (Below w0.heap.size w0 w136) := ⟨h17_⟩
          clear HO_270000
          clear HO_270001
          clear BK254
          clear BK269
          clear HI0
          clear HK
          clear HB
          clear h0_ h1_ h2_ h3_ h4_ h5_ h6_ h7_ h8_ h9_ h10_ h11_ h12_ h13_ h14_ h15_ h16_ h17_
          have HO315 := n0_
          have HO318 := n1_
          have HO_270000 := n2_
          have HO_270001 := n3_
          have BK254 := n4_
          have BK269 := n5_
          have BK321 := n6_
          have GW321 := n7_
          have GE321 := n8_
          have NB0_321 := n9_
          have NB321_0 := n10_
          have NB254_321 := n11_
          have NB321_254 := n12_
          have NB269_321 := n13_
          have NB321_269 := n14_
          have HI0 := n15_
          have HK := n16_
          have HB := n17_
          clear n0_ n1_ n2_ n3_ n4_ n5_ n6_ n7_ n8_ n9_ n10_ n11_ n12_ n13_ n14_ n15_ n16_ n17_
          have hHeld : w136.cell? ⟨gb269, 0, none⟩ = some (.slice Ao129 x270000_1.length co129) ∧ w136.cell? ⟨gb269, 1, none⟩ = some (.slice Ao130 x270001_1.length co130) ∧ w136.cell? ⟨gb269, 2, none⟩ = some (.int .i64 x270002_1) := hS_
          obtain ⟨Ao137, co137, eo137⟩ := Kd.R_slice HO315.out
          (first | subst eo137 | (injection eo137 with f1_ f2_ f3_; have f4_ := f1_.symm; have f5_ := f3_.symm; clear f1_ f2_ f3_; subst f4_; subst f5_))
          obtain ⟨Ao139, co139, eo139⟩ := Kd.R_slice HO318.out
          (first | subst eo139 | (injection eo139 with f1_ f2_ f3_; have f4_ := f1_.symm; have f5_ := f3_.symm; clear f1_ f2_ f3_; subst f4_; subst f5_))
          refine norm_ (a' := ?_) ?_ ?_
          rotate_left
          ·simp only [putAll, Act.put, List.setIfInBounds_toArray, List.set_cons_zero, List.set_cons_succ]
           rfl
          refine one_ (i := 10) (N := none) #[true, true, true, true, true, true, true, true, true, true, true, false] rfl rfl (one_of HT_.out (by kernel_rfl)) (by decide) (fun K hK => ?_)
          have hs138 : w136.cell? ⟨gb321, 0, none⟩ = some (.slice none 0 0) := (blk_cell BK321.out 0).trans rfl
          have hfs138 := blk_frozen BK321.out 0
          have hns138_0 := NB254_321.out
          have hns138_1 := NB269_321.out
          have hms138_0 := NB321_254.out
          have hms138_1 := NB321_269.out
          have hs140 : w136.cell? ⟨gb321, 1, none⟩ = some (.slice none 0 0) := (blk_cell BK321.out 1).trans rfl
          have hfs140 := blk_frozen BK321.out 1
          have hns140_0 := NB254_321.out
          have hns140_1 := NB269_321.out
          have hms140_0 := NB321_254.out
          have hms140_1 := NB321_269.out
          have hs141 : w136.cell? ⟨gb321, 2, none⟩ = some (.int .i64 0) := (blk_cell BK321.out 2).trans rfl
          have hfs141 := blk_frozen BK321.out 2
          have hns141_0 := NB254_321.out
          have hns141_1 := NB269_321.out
          have hms141_0 := NB321_254.out
          have hms141_1 := NB321_269.out
          refine skip_ (w1 := ?_) (by rfl) rfl ?_ ?_
          rotate_left
          ·go_simp
           rfl
          refine hK.out _ _ ⟨((cell_far (p := ⟨gb321, _, none⟩) NB269_321.out _).trans (((cell_far (p := ⟨gb321, _, none⟩) NB269_321.out _).trans (((cell_far (p := ⟨gb321, _, none⟩) NB269_321.out _).trans (hHeld.1)))))), ((cell_far (p := ⟨gb321, _, none⟩) NB269_321.out _).trans (((cell_far (p := ⟨gb321, _, none⟩) NB269_321.out _).trans (((cell_far (p := ⟨gb321, _, none⟩) NB269_321.out _).trans (hHeld.2.1)))))), ((cell_far (p := ⟨gb321, _, none⟩) NB269_321.out _).trans (((cell_far (p := ⟨gb321, _, none⟩) NB269_321.out _).trans (((cell_far (p := ⟨gb321, _, none⟩) NB269_321.out _).trans (hHeld.2.2))))))⟩ (fun hHeld => ?_)
          clear hK K
          refine xP1 (i := 11) (N := some 11) #[true, true, true, true, true, true, true, true, true, true, true, true] (any_of HT_.out (by kernel_rfl)) (h := ?_)
          refine done_ (done_of HT_.out (by kernel_rfl)) ?_
          try go_wp2
          go_roundg kj52
          case measure => have := HK1.out; have := HJ52.out; omega
          case rel => exact ⟨(wrap64 (x5_1 + 1)), (t311), (t312), (x270000_1), (x270001_1), (x270002_1), (.slice Ao129 x270000_1.length co129), (.slice Ao130 x270001_1.length co130), (xQ), H', ⟨by have := HK1.out; have := HJ52.out; omega⟩, ⟨Kd.R_mono (xR HO_270000.out) (fun _ hk => hk.2.2)⟩, ⟨Kd.R_mono (xR HO_270001.out) (fun _ hk => hk.2.2)⟩, ⟨xB BK254.out⟩, ⟨xB BK269.out⟩, ⟨xH85 HI0.out⟩, ⟨xK HK.out⟩, ⟨xWI HB.out (IsS85.ge HI0.out)⟩⟩
   ·rw [if_neg c17] at H
    have c17b0 : decide (x5_1 < t270) = false := decide_eq_false c17
    clear c17
    simp only [Option.some.injEq, Prod.mk.injEq] at H
    obtain ⟨rfl, rfl, rfl, rfl, rfl⟩ := H
    go_wp2_with (first | ((with_reducible refine gate_callee (f := 57) rfl ?_); refine xG (some 21) 57 Try.func57 #[.pointer (some ⟨g, 0, none⟩), .int .i64 24] (h := ?_); (with_reducible refine (spec_l01Below.calls g s0_0 x1001_1 x1002_1 24 t270 t271 t272 w0 _ ?side1 ?side2 A16.out).mono ?_); (case side1 => exact xH85 HI0.out); (case side2 => exact xWI HB.out (IsS85.ge HI0.out)); rintro e w142 ⟨rfl, hi, hb, hk⟩; refine ⟨_, rfl, ?_⟩; replace HO_270000 := am (Kd.R_mono (Kd.R_keep (IsS85.apart (show IsS85 w0 _ g s0_0 x1001_1 x1002_1 from xH85 HI0.out) (xR HO_270000.out) (by decide)) hk (fun _ h => h.2)) (fun _ h => h.1)); replace HO_270001 := am (Kd.R_mono (Kd.R_keep (IsS85.apart (show IsS85 w0 _ g s0_0 x1001_1 x1002_1 from xH85 HI0.out) (xR HO_270001.out) (by decide)) hk (fun _ h => h.2)) (fun _ h => h.1)); replace BK254 := am (KeepBut.blk hk (g' := gb254) (o := .cells #[.slice none 0 0, .slice none 0 0, .int .i64 0] 26 (0, 0)) (xB BK254.out) NB254_0.out (by simp)); replace BK269 := am (KeepBut.blk hk (g' := gb269) (o := .cells #[u270000, u270001, .int .i64 x270002_1] 26 (0, 0)) (xB BK269.out) NB269_0.out (by simp)); replace HK := am (KeepBut.trans (xK HK.out) hk (.inl rfl)); replace HB := am (hb); replace HI0 := am (hi); (try clear hb); (try clear hk); (try clear hi); have hnb143 := NB269_254.out; have hnc143 := NB254_269.out; have hnb144 := NB269_0.out; have hnc144 := NB0_269.out; obtain ⟨hcz145_0, hcz145_1, hcz145_2, hfz145_0, hfz145_1, hfz145_2⟩ := xT3 (W := w142) BK269.out; obtain ⟨Ao146, co146, eo146⟩ := Kd.R_slice HO_270000.out; subst eo146; have hnb147 := NB254_0.out; have hnc147 := NB0_254.out; obtain ⟨hcz148_0, hcz148_1, hcz148_2, hfz148_0, hfz148_1, hfz148_2⟩ := xT3 (W := w142) BK254.out; obtain ⟨Ao149, co149, eo149⟩ := Kd.R_slice HO_270001.out; subst eo149))
    refine bodyPost_ret (results_cell_row rfl _ _ gb254 26 #[.slice Ao146 x270000_1.length co146, .slice Ao149 x270001_1.length co149, .int .i64 x270002_1] (0, 0) _ rfl (xP BK254.out) Try.underlying26 rfl (by kernel_rfl)) rfl ?_
    exact ⟨_, _, xV, xR HO_270000.out, xR HO_270001.out, xH85 HI0.out, xWI HB.out (IsS85.ge HI0.out), xK HK.out⟩
end Go.Proofs.Ytmahoekbedgbcaa.HFnGrows
