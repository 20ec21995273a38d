/- What the row of the law needs of the printed and the plain texts. -/
import Derived.Test.YtmahoekbedgbcaaZeHX
import Derived.Test.YtmahoekbedgbcaaZeHFnCleansx0
import Derived.Test.YtmahoekbedgbcaaZeHFnCleansx4
import Derived.Test.YtmahoekbedgbcaaZeHFnCleansx5
import Derived.Test.YtmahoekbedgbcaaZeHFnCleansx6
import Derived.Test.YtmahoekbedgbcaaZeHFnCleansx13
import Derived.Test.YtmahoekbedgbcaaZeHFnCleansx14
namespace Go.Proofs.Ytmahoekbedgbcaa.HFnCleans
open Go.RowKit Go.Proofs.YtmahoekbedgbcaaW.PrintWords Go.Proofs.YtmahoekbedgbcaaW.PrintLast Go.Proofs.YtmahoekbedgbcaaW.PrintMore
attribute [local go_sem] max2_int min2_int max_two min_two max_three min_three max_four min_four
set_option linter.unusedVariables false
set_option linter.unusedSimpArgs false
def spec_CleanTable.l0 : Nat → List ByteArray → Int → List (S57) → List (S57) → Int → List (S57) → Int → Option ((List (S57)) × (List (S57)) × Int × Bool)
 | 0, _, _, _, _, _, _, _ => none
 | k + 1, x5, x6, x442000, x442001, x442002, x448000, x448002 => if x6 < (x5.length : Int) then (if 0 ≤ x6 then ((spec_SeekKey.f k x442000 x442001 x442002 (rdOf ByteArray.empty x5 x6)).bind fun bt452 => ((spec_l04Put.f k x448000 (rdOf ByteArray.empty x5 x6) bt452.1).bind fun bt455 => (if bt455.1 = true then (spec_CleanTable.l0 k x5 (wrap64 (x6 + 1)) x442000 x442001 x442002 bt455.2 x448002) else (some (([] : List (S57)), ([] : List (S57)), 0, false))))) else (none)) else (some (x448000, ([] : List (S57)), x448002, true))
def spec_CleanTable.f (k : Nat) (l0_0 : List (S57)) (l0_1 : List (S57)) (a0_2 : Int) : Option ((List (S57)) × (List (S57)) × Int × Bool) := (spec_TableOk.f k l0_0 l0_1 a0_2).bind fun t443 => (if t443 = true then ((spec_l04Cells.f k (l0_0.length : Int)).bind fun t444 => ((spec_KeysOf.f k l0_0 l0_1 a0_2).bind fun t448 => (spec_CleanTable.l0 k t448 0 l0_0 l0_1 a0_2 t444 0))) else (some (([] : List (S57)), ([] : List (S57)), 0, false)))
def spec_CleanTable.T8 : Bool × List (List Nat × List Nat) := (true, [([], []), ([], []), ([], []), ([1, 2], [1, 2]), ([3], [3]), ([0, 4], [0, 4]), ([5], [5]), ([6], [6]), ([6], [6]), ([7, 5, 0, 1, 2, 3, 4, 5, 6, 7], [7]), ([8, 9, 0, 1, 2, 3, 4, 5, 6, 7, 8, 9], [8])])
def spec_CleanTable.B8 : List Nat := [0, 0, 0, 6, 14, 31, 63, 127, 127, 255, 1023]
theorem spec_CleanTable.tab8 : rtab .any (opsOf Try.f42 8) = spec_CleanTable.T8 := by kernel_rfl
theorem spec_CleanTable.bits8 : waitsOk spec_CleanTable.T8.2 spec_CleanTable.B8 = true := by kernel_rfl
def spec_CleanTable.T9 : Bool × List (List Nat × List Nat) := (true, [([], []), ([0], [0]), ([], []), ([], []), ([2, 3], [2, 3]), ([4], [4]), ([], []), ([1, 5, 6], [1, 5, 6]), ([7], [7])])
def spec_CleanTable.B9 : List Nat := [0, 1, 0, 0, 12, 28, 0, 127, 255]
theorem spec_CleanTable.tab9 : rtab .any (opsOf Try.f42 9) = spec_CleanTable.T9 := by kernel_rfl
theorem spec_CleanTable.bits9 : waitsOk spec_CleanTable.T9.2 spec_CleanTable.B9 = true := by kernel_rfl
set_option maxHeartbeats 8000000 in
set_option maxRecDepth 100000 in
theorem spec_CleanTable.calls (k : Nat) (A0_0 : Option Addr) (c0_0 : Nat) (l0_0 : List (S57)) (A0_1 : Option Addr) (c0_1 : Nat) (l0_1 : List (S57)) (a0_2 : Int) (r1 : List (S57)) (r2 : List (S57)) (r3 : Int) (r4 : Bool) (w : World) (hr0_0 : Kd.C k57 w A0_0 l0_0.length l0_0) (hc0_0 : l0_0.length ≤ c0_0) (hr0_1 : Kd.C k57 w A0_1 l0_1.length l0_1) (hc0_1 : l0_1.length ≤ c0_1) (h : spec_CleanTable.f k l0_0 l0_1 a0_2 = some (r1, r2, r3, r4)) :
  Calls Try.prog 42 #[.agg #[.slice A0_0 l0_0.length c0_0, .slice A0_1 l0_1.length c0_1, .int .i64 a0_2]] w fun e w' => ∃ v0_ v1_ : Value, e = .returned (.tuple #[.agg #[v0_, v1_, .int .i64 r3], .bool r4]) ∧ Kd.R k57 57 w' w.heap.size (fun k_ => some k_ ≠ (v1_ : Value).ownBlock) v0_ r1 ∧ Kd.R k57 57 w' w.heap.size (fun k_ => some k_ ≠ (v0_ : Value).ownBlock) v1_ r2 ∧ Below w.heap.size w w' := by
 have hu26 := Try.underlying26
 have HR0_0 := am hr0_0
 have HC0_0 := am hc0_0
 clear hr0_0 hc0_0
 have HR0_1 := am hr0_1
 have HC0_1 := am hc0_1
 clear hr0_1 hc0_1
 have HB := am (Below.refl w.heap.size w)
 have H : ((spec_TableOk.f k l0_0 l0_1 a0_2).bind fun t443 => (if t443 = true then ((spec_l04Cells.f k (l0_0.length : Int)).bind fun t444 => ((spec_KeysOf.f k l0_0 l0_1 a0_2).bind fun t448 => (spec_CleanTable.l0 k t448 0 l0_0 l0_1 a0_2 t444 0))) else (some (([] : List (S57)), ([] : List (S57)), 0, false)))) = some (r1, r2, r3, r4) := h
 clear h
 replace H := Option.bind_eq_some_iff.mp H
 obtain ⟨t443, A20, H⟩ := H
 try dsimp only at H
 have A2 := am A20
 clear A20
 by_cases c3 : t443 = true
 ·subst c3
  have H1 : ((spec_l04Cells.f k (l0_0.length : Int)).bind fun t444 => ((spec_KeysOf.f k l0_0 l0_1 a0_2).bind fun t448 => (spec_CleanTable.l0 k t448 0 l0_0 l0_1 a0_2 t444 0))) = some (r1, r2, r3, r4) := by rw [if_pos rfl] at H; exact H
  clear H
  have H := H1
  clear H1
  replace H := Option.bind_eq_some_iff.mp H
  obtain ⟨t444, A40, H⟩ := H
  try dsimp only at H
  have A4 := am A40
  clear A40
  replace H := Option.bind_eq_some_iff.mp H
  obtain ⟨t448, A50, H⟩ := H
  try dsimp only at H
  have A5 := am A50
  clear A50
  have H' := am H
  clear H
  go_enter Try.func42, Try.ntmps42
  go_wp2_with (first | ((with_reducible refine gate_dst (N := 1) rfl ?_); refine xE (N := 1) (cs := #[.slice A0_0 l0_0.length c0_0, .slice A0_1 l0_1.length c0_1, .int .i64 a0_2]) (t := 26) (h := ?_); intro gb441 hg w6 hbox hb; have BK441 := am (hbox); have GW441 := am (xS hg HB.out); have GE441 := am (xS hg HB.out); replace HB := am (below_step (xW HB.out) hb); clear hb hbox hg) | ((with_reducible refine gate_dst (N := 2) rfl ?_); refine xE (N := 2) (cs := #[.slice none 0 0, .slice none 0 0, .int .i64 0]) (t := 26) (h := ?_); intro gb442 hg w7 hbox hb; have BK442 := am (hbox); have GW442 := am (xS hg HB.out); have GE442 := am (xS hg HB.out); replace HB := am (below_step (xW HB.out) hb); have NB441_442 := am (xN hg BK441.out); have NB442_441 := am (xM hg BK441.out); replace BK441 := am (blk_below (xB BK441.out) hb); clear hb hbox hg; have hnb8 := NB441_442.out; have hnc8 := NB442_441.out; obtain ⟨hcz9_0, hcz9_1, hcz9_2, hfz9_0, hfz9_1, hfz9_2⟩ := xT3 (W := w7) BK441.out) | ((with_reducible refine gate_callee (f := 25) rfl ?_); refine xG (some 10) 25 Try.func25 #[.agg #[.slice A0_0 l0_0.length c0_0, .slice A0_1 l0_1.length c0_1, .int .i64 a0_2]] (h := ?_); (with_reducible refine (spec_TableOk.calls k _ _ l0_0 _ _ l0_1 a0_2 true _ ?side1 ?side2 ?side3 ?side4 A2.out).mono ?_); (case side1 => exact xC (Kd.C_below HR0_0.out HB.out)); (case side2 => exact HC0_0.out); (case side3 => exact xC (Kd.C_below HR0_1.out HB.out)); (case side4 => exact HC0_1.out); rintro e w10 ⟨rfl, hb⟩; refine ⟨_, rfl, ?_⟩; replace BK441 := am (blk_below (xB BK441.out) hb); replace BK442 := am (blk_below (xB BK442.out) hb); replace HB := am (below_step (xW HB.out) hb); (try clear hb); obtain ⟨hcz11_0, hcz11_1, hcz11_2, hfz11_0, hfz11_1, hfz11_2⟩ := xT3 (W := w10) BK441.out) | ((with_reducible refine gate_callee (f := 72) rfl ?_); refine xG (some 16) 72 Try.func72 #[.int .i64 (l0_0.length : Int)] (h := ?_); (with_reducible refine (spec_l04Cells.calls k (l0_0.length : Int) t444 _ A4.out).mono ?_); rintro e w12 ⟨v445, rfl, ho0, hb⟩; refine ⟨_, rfl, ?_⟩; have HO446 := am (Kd.R_lower ho0 (below_size (xW HB.out))); replace BK441 := am (blk_below (xB BK441.out) hb); replace BK442 := am (blk_below (xB BK442.out) hb); replace HB := am (below_step (xW HB.out) hb); (try clear hb); (try clear ho0); obtain ⟨Ao13, co13, eo13⟩ := Kd.R_slice HO446.out; subst eo13) | ((with_reducible refine gate_dst (N := 4) rfl ?_); refine xE (N := 4) (cs := #[.slice none 0 0, .slice none 0 0, .int .i64 0]) (t := 26) (h := ?_); intro gb447 hg w14 hbox hb; replace HO446 := am (Kd.R_below (xR HO446.out) hb); have BK447 := am (hbox); have GW447 := am (xS hg HB.out); have GE447 := am (xS hg HB.out); replace HB := am (below_step (xW HB.out) hb); have NB441_447 := am (xN hg BK441.out); have NB447_441 := am (xM hg BK441.out); replace BK441 := am (blk_below (xB BK441.out) hb); have NB442_447 := am (xN hg BK442.out); have NB447_442 := am (xM hg BK442.out); replace BK442 := am (blk_below (xB BK442.out) hb); clear hb hbox hg; have hnb15 := NB447_441.out; have hnc15 := NB441_447.out; have hnb16 := NB447_442.out; have hnc16 := NB442_447.out; obtain ⟨hcz17_0, hcz17_1, hcz17_2, hfz17_0, hfz17_1, hfz17_2⟩ := xT3 (W := w14) BK447.out; obtain ⟨hcz18_0, hcz18_1, hcz18_2, hfz18_0, hfz18_1, hfz18_2⟩ := xT3 (W := w14) BK441.out) | ((with_reducible refine gate_callee (f := 28) rfl ?_); refine xG (some 19) 28 Try.func28 #[.agg #[.slice A0_0 l0_0.length c0_0, .slice A0_1 l0_1.length c0_1, .int .i64 a0_2]] (h := ?_); (with_reducible refine (spec_KeysOf.calls k _ _ l0_0 _ _ l0_1 a0_2 t448 _ ?side1 ?side2 ?side3 ?side4 A5.out).mono ?_); (case side1 => exact Kd.C_below HR0_0.out (xW HB.out)); (case side2 => exact HC0_0.out); (case side3 => exact Kd.C_below HR0_1.out (xW HB.out)); (case side4 => exact HC0_1.out); rintro e w19 ⟨v449, rfl, ho0, hb⟩; refine ⟨_, rfl, ?_⟩; replace HO446 := am (Kd.R_below (xR HO446.out) hb); have HO450 := am (Kd.R_lower ho0 (below_size (xW HB.out))); replace BK441 := am (blk_below (xB BK441.out) hb); replace BK442 := am (blk_below (xB BK442.out) hb); replace BK447 := am (blk_below (xP BK447.out) hb); replace HB := am (below_step (xW HB.out) hb); (try clear hb); (try clear ho0)))
  go_loopg [6] k (fun kq v6 w' => ∃ (x6_1 : Int) (x443002_1 : Int) (x448000_1 : List (S57)) (u448000 : Value), v6 = .int .i64 x6_1 ∧ Aside0 (spec_CleanTable.l0 kq t448 x6_1 l0_0 l0_1 a0_2 x448000_1 0 = some (r1, r2, r3, r4)) ∧ Aside0 (kq ≤ k) ∧ Aside0 (Kd.R Kd.string 9 w' w.heap.size (fun _ => True) v449 t448) ∧ Aside0 (Kd.R k57 57 w' w.heap.size (fun _ => True) u448000 x448000_1) ∧ Aside0 (w'.heap[gb441]? = some (.cells #[(.slice A0_0 l0_0.length c0_0), (.slice A0_1 l0_1.length c0_1), .int .i64 a0_2] 26 (0, 0))) ∧ Aside0 (w'.heap[gb442]? = some (.cells #[(.slice none 0 0), (.slice none 0 0), .int .i64 x443002_1] 26 (0, 0))) ∧ Aside0 (w'.heap[gb447]? = some (.cells #[u448000, (.slice none 0 0), .int .i64 0] 26 (0, 0))) ∧ Aside0 (Below w.heap.size w w'))
  case atStart => exact ⟨(0), (0), (t444), (.slice Ao13 t444.length co13), (xQ), H', ⟨Nat.le_refl _⟩, ⟨xR HO450.out⟩, ⟨xR HO446.out⟩, ⟨xB BK441.out⟩, ⟨xB BK442.out⟩, ⟨xB BK447.out⟩, ⟨xW HB.out⟩⟩
  case round =>
   clear H'
   try clear c1
   try clear c2
   try clear p2
   try clear c3
   try clear c4
   try clear c7
   try clear c8
   try clear c15
   try clear c16
   try clear hcz11_0
   try clear hcz11_1
   try clear hcz11_2
   try clear hcz17_0
   try clear hcz17_1
   try clear hcz17_2
   try clear hcz18_0
   try clear hcz18_1
   try clear hcz18_2
   try clear hcz9_0
   try clear hcz9_1
   try clear hcz9_2
   try clear hfz11_0
   try clear hfz11_1
   try clear hfz11_2
   try clear hfz17_0
   try clear hfz17_1
   try clear hfz17_2
   try clear hfz18_0
   try clear hfz18_1
   try clear hfz18_2
   try clear hfz9_0
   try clear hfz9_1
   try clear hfz9_2
   obtain ⟨x6_1, x443002_1, x448000_1, u448000, rfl, HA, HK1, HO_5, HO_448000, BK441, BK442, BK447, HB⟩ := hrel
   cases gk with
   | zero => exact absurd HA.out (by simp [spec_CleanTable.l0])
   | succ k1 =>
    have H := HA.out
    clear HA
    simp only [spec_CleanTable.l0] at H
    by_cases c20 : x6_1 < (t448.length : Int)
    ·rw [if_pos c20] at H
     have c20b0 : decide (x6_1 < (t448.length : Int)) = true := decide_eq_true c20
     clear c20
     by_cases c21 : 0 ≤ x6_1
     ·rw [if_pos c21] at H
      have c21b0 : decide (0 ≤ x6_1) = true := decide_eq_true c21
      clear c21
      replace H := Option.bind_eq_some_iff.mp H
      obtain ⟨⟨t452, t453⟩, A220, H⟩ := H
      try dsimp only at H
      have A22 := am A220
      clear A220
      replace H := Option.bind_eq_some_iff.mp H
      obtain ⟨⟨t455, t456⟩, A230, H⟩ := H
      try dsimp only at H
      have A23 := am A230
      clear A230
      by_cases c24 : t455 = true
      ·subst c24
       have H1 : (spec_CleanTable.l0 k1 t448 (wrap64 (x6_1 + 1)) l0_0 l0_1 a0_2 t456 0) = some (r1, r2, r3, r4) := by rw [if_pos rfl] at H; exact H
       clear H
       have H := H1
       clear H1
       have H' := am H
       clear H
       obtain ⟨Ao25, co25, eo25⟩ := Kd.R_slice HO_5.out
       subst eo25
       try go_wp2
       replace HO_5 := am (Kd.R_drew HO_5.out)
       replace HO_448000 := am (Kd.R_drew HO_448000.out)
       replace BK441 := am (blk_drew BK441.out)
       replace BK442 := am (blk_drew BK442.out)
       replace BK447 := am (blk_drew BK447.out)
       replace HB := am (below_drew1 HB.out)
       have p451 : 0 ≤ (x6_1 : Int) := of_decide_eq_true (by assumption)
       have q451 : x6_1 < (t448.length : Int) := of_decide_eq_true (by assumption)
       obtain ⟨ad451, e451, hx451_0⟩ := Kd.at_string (Kd.R_reads' HO_5.out).2.2 x6_1 p451 q451
       cases e451
       replace p451 := eq_true p451
       replace q451 := eq_true q451
       refine start_ (n := 11) (S := fun w' => w'.cell? ⟨gb441, 0, none⟩ = some (.slice A0_0 l0_0.length c0_0) ∧ w'.cell? ⟨gb441, 1, none⟩ = some (.slice A0_1 l0_1.length c0_1) ∧ w'.cell? ⟨gb441, 2, none⟩ = some (.int .i64 a0_2) ∧ w'.cell? (ad451.add (x6_1).toNat) = some (.string (rdOf ByteArray.empty t448 x6_1))) (ds := []) #[false, false, false, false, false, false, false, false, false, false, false] (by kernel_rfl) rfl rfl ⟨(blk_cell BK441.out 0).trans rfl, (blk_cell BK441.out 1).trans rfl, (blk_cell BK441.out 2).trans rfl, hx451_0⟩ (fun hHeld => ?_); refine with_tabW spec_CleanTable.tab8 spec_CleanTable.bits8 (fun HT_ HW_ => ?_)
       generalize wr.drew = w26 at HO_5 HO_448000 BK441 BK442 BK447 HB hx451_0 hHeld ⊢
       refine xP1 (i := 1) (N := some 28) #[false, true, false, false, false, false, false, false, false, false, false] (any_of HT_.out (by kernel_rfl)) (h := ?_)
       refine xP1 (i := 2) (N := some 29) #[false, true, true, false, false, false, false, false, false, false, false] (any_of HT_.out (by kernel_rfl)) (h := ?_)
       refine xP1 (i := 3) (N := some 30) #[false, true, true, true, false, false, false, false, false, false, false] (any_of HT_.out (by kernel_rfl)) (h := ?_)
       refine take_ (i := 0) (N := some 27) (v := ?_) (a' := ?_) #[true, true, true, true, false, false, false, false, false, false, false] rfl rfl (take_ofW HT_.out HW_.out (by kernel_rfl)) (fun _ _ _ h => h) (Or.inl ⟨by rfl, ?_⟩) hHeld ?_ ?_
       rotate_left
       ·rintro w' ⟨s0, s1, s2, s3⟩
        go_simp
        with_reducible rfl
       rotate_left
       ·simp only [Act.put, List.setIfInBounds_toArray, List.set_cons_zero, List.set_cons_succ, i64_w, i32_w]
        rfl
       refine take_ (i := 4) (N := some 31) (v := ?_) (a' := ?_) #[true, true, true, true, true, false, false, false, false, false, false] rfl rfl (take_ofW HT_.out HW_.out (by kernel_rfl)) (fun _ _ _ h => h) (Or.inl ⟨by rfl, ?_⟩) hHeld ?_ ?_
       rotate_left
       ·rintro w' ⟨s0, s1, s2, s3⟩
        go_simp
        with_reducible rfl
       rotate_left
       ·simp only [Act.put, List.setIfInBounds_toArray, List.set_cons_zero, List.set_cons_succ, i64_w, i32_w]
        rfl
       refine one_ (i := 5) (N := some 32) #[true, true, true, true, true, true, false, false, false, false, false] rfl rfl (one_of HT_.out (by kernel_rfl)) (by decide) (fun K hK => ?_)
       refine xG1 22 Try.func22 #[.agg #[.slice A0_0 l0_0.length c0_0, .slice A0_1 l0_1.length c0_1, .int .i64 a0_2], .string (rdOf ByteArray.empty t448 x6_1)] (h := ?_)
       with_reducible refine (spec_SeekKey.calls k1 _ _ l0_0 _ _ l0_1 a0_2 (rdOf ByteArray.empty t448 x6_1) t452 t453 _ ?side1 ?side2 ?side3 ?side4 A22.out).mono ?_
       (case side1 => exact xC (Kd.C_below HR0_0.out HB.out))
       (case side2 => exact HC0_0.out)
       (case side3 => exact xC (Kd.C_below HR0_1.out HB.out))
       (case side4 => exact HC0_1.out)
       rintro e w27 ⟨rfl, hb⟩
       have HS3_ := (hb.cell (World.block_lt_of_cell? _ _ (hHeld.2.2.2))).trans (hHeld.2.2.2)
       refine ⟨_, rfl, ?_⟩
       replace HO_5 := am (Kd.R_below (xR HO_5.out) hb)
       replace HO_448000 := am (Kd.R_below (xR HO_448000.out) hb)
       replace BK441 := am (blk_below (xB BK441.out) hb)
       replace BK442 := am (blk_below (xB BK442.out) hb)
       replace BK447 := am (blk_below (xB BK447.out) hb)
       replace HB := am (below_step (xW HB.out) hb)
       (try clear hb)
       refine hK.out _ _ ⟨(blk_cell BK441.out 0).trans rfl, (blk_cell BK441.out 1).trans rfl, (blk_cell BK441.out 2).trans rfl, HS3_⟩ (fun hHeld => ?_)
       clear hK K
       refine xN1 (h := ?_)
       refine xP1 (i := 6) (N := some 26) #[true, true, true, true, true, true, true, false, false, false, false] (any_of HT_.out (by kernel_rfl)) (h := ?_)
       refine xP1 (i := 7) (N := some 33) #[true, true, true, true, true, true, true, true, false, false, false] (any_of HT_.out (by kernel_rfl)) (h := ?_)
       refine xP1 (i := 8) (N := some 34) #[true, true, true, true, true, true, true, true, true, false, false] (any_of HT_.out (by kernel_rfl)) (h := ?_)
       refine xP1 (i := 9) (N := some 7) #[true, true, true, true, true, true, true, true, true, true, false] (any_of HT_.out (by kernel_rfl)) (h := ?_)
       refine xP1 (i := 10) (N := some 8) #[true, true, true, true, true, true, true, true, true, true, true] (any_of HT_.out (by kernel_rfl)) (h := ?_)
       refine done_ (done_of HT_.out (by kernel_rfl)) ?_
       try go_wp2
       replace HO_5 := am (Kd.R_drew HO_5.out)
       replace HO_448000 := am (Kd.R_drew HO_448000.out)
       replace BK441 := am (blk_drew BK441.out)
       replace BK442 := am (blk_drew BK442.out)
       replace BK447 := am (blk_drew BK447.out)
       replace HB := am (below_drew1 HB.out)
       have p454 : 0 ≤ (x6_1 : Int) := of_decide_eq_true (by assumption)
       have q454 : x6_1 < (t448.length : Int) := of_decide_eq_true (by assumption)
       obtain ⟨ad454, e454, hx454_0⟩ := Kd.at_string (Kd.R_reads' HO_5.out).2.2 x6_1 p454 q454
       obtain rfl : ad451 = ad454 := (by injection e454)
       replace p454 := eq_true p454
       replace q454 := eq_true q454
       obtain ⟨Ao29, co29, eo29⟩ := Kd.R_slice HO_448000.out
       (first | subst eo29 | (injection eo29 with f1_ f2_ f3_; have f4_ := f1_.symm; have f5_ := f3_.symm; clear f1_ f2_ f3_; subst f4_; subst f5_))
       refine start_ (n := 9) (S := fun w' => w'.cell? ⟨gb447, 0, none⟩ = some (.slice Ao29 x448000_1.length co29) ∧ w'.cell? ⟨gb447, 1, none⟩ = some (.slice none 0 0) ∧ w'.cell? ⟨gb447, 2, none⟩ = some (.int .i64 0) ∧ w'.cell? (ad451.add (x6_1).toNat) = some (.string (rdOf ByteArray.empty t448 x6_1))) (ds := []) #[false, false, false, false, false, false, false, false, false] (by kernel_rfl) rfl rfl ⟨(blk_cell BK447.out 0).trans rfl, (blk_cell BK447.out 1).trans rfl, (blk_cell BK447.out 2).trans rfl, hx454_0⟩ (fun hHeld => ?_); refine with_tabW spec_CleanTable.tab9 spec_CleanTable.bits9 (fun HT_ HW_ => ?_)
       generalize w27.drew = w28 at HO_5 HO_448000 BK441 BK442 BK447 HB hx454_0 hHeld ⊢
       refine xP1 (i := 0) (N := some 35) #[true, false, false, false, false, false, false, false, false] (any_of HT_.out (by kernel_rfl)) (h := ?_)
       refine xP1 (i := 2) (N := some 37) #[true, false, true, false, false, false, false, false, false] (any_of HT_.out (by kernel_rfl)) (h := ?_)
       refine xP1 (i := 3) (N := some 38) #[true, false, true, true, false, false, false, false, false] (any_of HT_.out (by kernel_rfl)) (h := ?_)
       refine xP1 (i := 4) (N := some 39) #[true, false, true, true, true, false, false, false, false] (any_of HT_.out (by kernel_rfl)) (h := ?_)
       refine xP1 (i := 6) (N := some 41) #[true, false, true, true, true, false, true, false, false] (any_of HT_.out (by kernel_rfl)) (h := ?_)
       refine take_ (i := 1) (N := some 36) (v := ?_) (a' := ?_) #[true, true, true, true, true, false, true, false, false] rfl rfl (take_ofW HT_.out HW_.out (by kernel_rfl)) (fun _ _ _ h => h) (Or.inl ⟨by rfl, ?_⟩) hHeld ?_ ?_
       rotate_left
       ·rintro w' ⟨s0, s1, s2, s3⟩
        go_simp
        with_reducible rfl
       rotate_left
       ·simp only [Act.put, List.setIfInBounds_toArray, List.set_cons_zero, List.set_cons_succ, i64_w, i32_w]
        rfl
       refine take_ (i := 5) (N := some 40) (v := ?_) (a' := ?_) #[true, true, true, true, true, true, true, false, false] rfl rfl (take_ofW HT_.out HW_.out (by kernel_rfl)) (fun _ _ _ h => h) (Or.inl ⟨by rfl, ?_⟩) hHeld ?_ ?_
       rotate_left
       ·rintro w' ⟨s0, s1, s2, s3⟩
        go_simp
        with_reducible rfl
       rotate_left
       ·simp only [Act.put, List.setIfInBounds_toArray, List.set_cons_zero, List.set_cons_succ, i64_w, i32_w]
        rfl
       refine one_ (i := 7) (N := some 42) #[true, true, true, true, true, true, true, true, false] rfl rfl (one_of HT_.out (by kernel_rfl)) (by decide) (fun K hK => ?_)
       refine xG1 73 Try.func73 #[.slice Ao29 x448000_1.length co29, .string (rdOf ByteArray.empty t448 x6_1), .int .i64 t452] (h := ?_)
       with_reducible refine (spec_l04Put.calls k1 (fun k_ => some k_ = (.slice Ao29 x448000_1.length co29 : Value).ownBlock) (.slice Ao29 x448000_1.length co29) x448000_1 (rdOf ByteArray.empty t448 x6_1) t452 true t456 w _ ?side1 ?side2 A23.out).mono ?_
       (case side1 => exact xW HB.out)
       (case side2 => exact Kd.R_tight rfl HO_448000.out)
       rintro e w30 ⟨rfl, hy0, hb, hkp⟩
       have HS3_ := cell_kept (hHeld.2.2.2) hkp (by first | (rw [add_block]; exact (fun hs_ => ((((Kd.R_apart' HO_5.out (Kd.R_typed HO_448000.out) (by decide))).1 _ rfl).2) hs_)) | (show ¬ _; simp only [add_block]; exact (fun hs_ => ((((Kd.R_apart' HO_5.out (Kd.R_typed HO_448000.out) (by decide))).1 _ rfl).2) hs_)) | exact (fun hs_ => ((((Kd.R_apart' HO_5.out (Kd.R_typed HO_448000.out) (by decide))).1 _ rfl).2) hs_))
       refine ⟨_, rfl, ?_⟩
       replace HO_5 := am (Kd.R_mono (ok' := fun k_ => True) (Kd.R_keptB ((Kd.R_apart' HO_5.out (Kd.R_typed HO_448000.out) (by decide))) hkp (fun k_ hk_ hs_ => (hk_.2) hs_)) (fun k_ hk_ => trivial))
       replace BK441 := am (blk_kept (xB BK441.out) hkp (fun hs_ => (fun e_ => (Kd.R_ne HO_448000.out BK441.out (by decide)) e_) hs_))
       replace BK442 := am (blk_kept (xB BK442.out) hkp (fun hs_ => (fun e_ => (Kd.R_ne HO_448000.out BK442.out (by decide)) e_) hs_))
       replace BK447 := am (blk_kept (xB BK447.out) hkp (fun hs_ => (fun e_ => (Kd.R_ne HO_448000.out BK447.out (by decide)) e_) hs_))
       replace HO_448000 := am (Kd.R_reok rfl hy0 (fun k_ e_ => HO_448000.out.1 k_ e_))
       replace HB := am (hb)
       (try clear hb)
       (try clear hkp)
       (try clear hy0)
       refine hK.out _ _ ⟨(blk_cell BK447.out 0).trans rfl, (blk_cell BK447.out 1).trans rfl, (blk_cell BK447.out 2).trans rfl, HS3_⟩ (fun hHeld => ?_)
       clear hK K
       refine xN1 (h := ?_)
       refine xP1 (i := 8) (N := some 43) #[true, true, true, true, true, true, true, true, true] (any_of HT_.out (by kernel_rfl)) (h := ?_)
       refine done_ (done_of HT_.out (by kernel_rfl)) ?_
       try go_wp2
       go_roundg k1
       case measure => have := HK1.out; omega
       case rel => exact ⟨(wrap64 (x6_1 + 1)), (x443002_1), (t456), (.slice Ao29 x448000_1.length co29), (xQ), H', ⟨by have := HK1.out; omega⟩, ⟨xR HO_5.out⟩, ⟨xR HO_448000.out⟩, ⟨xB BK441.out⟩, ⟨xB BK442.out⟩, ⟨xB BK447.out⟩, ⟨xW HB.out⟩⟩
      ·replace c24 := Bool.eq_false_iff.mpr c24
       subst c24
       have H1 : (some (([] : List (S57)), ([] : List (S57)), 0, false)) = some (r1, r2, r3, r4) := by rw [if_neg (show ¬ (false = true) by decide)] at H; exact H
       clear H
       have H := H1
       clear H1
       simp only [Option.some.injEq, Prod.mk.injEq] at H
       obtain ⟨rfl, rfl, rfl, rfl⟩ := H
       obtain ⟨Ao31, co31, eo31⟩ := Kd.R_slice HO_5.out
       subst eo31
       try go_wp2
       replace HO_5 := am (Kd.R_drew HO_5.out)
       replace HO_448000 := am (Kd.R_drew HO_448000.out)
       replace BK441 := am (blk_drew BK441.out)
       replace BK442 := am (blk_drew BK442.out)
       replace BK447 := am (blk_drew BK447.out)
       replace HB := am (below_drew1 HB.out)
       have p451 : 0 ≤ (x6_1 : Int) := of_decide_eq_true (by assumption)
       have q451 : x6_1 < (t448.length : Int) := of_decide_eq_true (by assumption)
       obtain ⟨ad451, e451, hx451_0⟩ := Kd.at_string (Kd.R_reads' HO_5.out).2.2 x6_1 p451 q451
       cases e451
       replace p451 := eq_true p451
       replace q451 := eq_true q451
       refine start_ (n := 11) (S := fun w' => w'.cell? ⟨gb441, 0, none⟩ = some (.slice A0_0 l0_0.length c0_0) ∧ w'.cell? ⟨gb441, 1, none⟩ = some (.slice A0_1 l0_1.length c0_1) ∧ w'.cell? ⟨gb441, 2, none⟩ = some (.int .i64 a0_2) ∧ w'.cell? (ad451.add (x6_1).toNat) = some (.string (rdOf ByteArray.empty t448 x6_1))) (ds := []) #[false, false, false, false, false, false, false, false, false, false, false] (by kernel_rfl) rfl rfl ⟨(blk_cell BK441.out 0).trans rfl, (blk_cell BK441.out 1).trans rfl, (blk_cell BK441.out 2).trans rfl, hx451_0⟩ (fun hHeld => ?_); refine with_tabW spec_CleanTable.tab8 spec_CleanTable.bits8 (fun HT_ HW_ => ?_)
       generalize wr.drew = w32 at HO_5 HO_448000 BK441 BK442 BK447 HB hx451_0 hHeld ⊢
       refine xP1 (i := 1) (N := some 28) #[false, true, false, false, false, false, false, false, false, false, false] (any_of HT_.out (by kernel_rfl)) (h := ?_)
       refine xP1 (i := 2) (N := some 29) #[false, true, true, false, false, false, false, false, false, false, false] (any_of HT_.out (by kernel_rfl)) (h := ?_)
       refine xP1 (i := 3) (N := some 30) #[false, true, true, true, false, false, false, false, false, false, false] (any_of HT_.out (by kernel_rfl)) (h := ?_)
       refine take_ (i := 0) (N := some 27) (v := ?_) (a' := ?_) #[true, true, true, true, false, false, false, false, false, false, false] rfl rfl (take_ofW HT_.out HW_.out (by kernel_rfl)) (fun _ _ _ h => h) (Or.inl ⟨by rfl, ?_⟩) hHeld ?_ ?_
       rotate_left
       ·rintro w' ⟨s0, s1, s2, s3⟩
        go_simp
        with_reducible rfl
       rotate_left
       ·simp only [Act.put, List.setIfInBounds_toArray, List.set_cons_zero, List.set_cons_succ, i64_w, i32_w]
        rfl
       refine take_ (i := 4) (N := some 31) (v := ?_) (a' := ?_) #[true, true, true, true, true, false, false, false, false, false, false] rfl rfl (take_ofW HT_.out HW_.out (by kernel_rfl)) (fun _ _ _ h => h) (Or.inl ⟨by rfl, ?_⟩) hHeld ?_ ?_
       rotate_left
       ·rintro w' ⟨s0, s1, s2, s3⟩
        go_simp
        with_reducible rfl
       rotate_left
       ·simp only [Act.put, List.setIfInBounds_toArray, List.set_cons_zero, List.set_cons_succ, i64_w, i32_w]
        rfl
       refine one_ (i := 5) (N := some 32) #[true, true, true, true, true, true, false, false, false, false, false] rfl rfl (one_of HT_.out (by kernel_rfl)) (by decide) (fun K hK => ?_)
       refine xG1 22 Try.func22 #[.agg #[.slice A0_0 l0_0.length c0_0, .slice A0_1 l0_1.length c0_1, .int .i64 a0_2], .string (rdOf ByteArray.empty t448 x6_1)] (h := ?_)
       with_reducible refine (spec_SeekKey.calls k1 _ _ l0_0 _ _ l0_1 a0_2 (rdOf ByteArray.empty t448 x6_1) t452 t453 _ ?side1 ?side2 ?side3 ?side4 A22.out).mono ?_
       (case side1 => exact xC (Kd.C_below HR0_0.out HB.out))
       (case side2 => exact HC0_0.out)
       (case side3 => exact xC (Kd.C_below HR0_1.out HB.out))
       (case side4 => exact HC0_1.out)
       rintro e w33 ⟨rfl, hb⟩
       have HS3_ := (hb.cell (World.block_lt_of_cell? _ _ (hHeld.2.2.2))).trans (hHeld.2.2.2)
       refine ⟨_, rfl, ?_⟩
       replace HO_5 := am (Kd.R_below (xR HO_5.out) hb)
       replace HO_448000 := am (Kd.R_below (xR HO_448000.out) hb)
       replace BK441 := am (blk_below (xB BK441.out) hb)
       replace BK442 := am (blk_below (xB BK442.out) hb)
       replace BK447 := am (blk_below (xB BK447.out) hb)
       replace HB := am (below_step (xW HB.out) hb)
       (try clear hb)
       refine hK.out _ _ ⟨(blk_cell BK441.out 0).trans rfl, (blk_cell BK441.out 1).trans rfl, (blk_cell BK441.out 2).trans rfl, HS3_⟩ (fun hHeld => ?_)
       clear hK K
       refine xN1 (h := ?_)
       refine xP1 (i := 6) (N := some 26) #[true, true, true, true, true, true, true, false, false, false, false] (any_of HT_.out (by kernel_rfl)) (h := ?_)
       refine xP1 (i := 7) (N := some 33) #[true, true, true, true, true, true, true, true, false, false, false] (any_of HT_.out (by kernel_rfl)) (h := ?_)
       refine xP1 (i := 8) (N := some 34) #[true, true, true, true, true, true, true, true, true, false, false] (any_of HT_.out (by kernel_rfl)) (h := ?_)
       refine xP1 (i := 9) (N := some 7) #[true, true, true, true, true, true, true, true, true, true, false] (any_of HT_.out (by kernel_rfl)) (h := ?_)
       refine xP1 (i := 10) (N := some 8) #[true, true, true, true, true, true, true, true, true, true, true] (any_of HT_.out (by kernel_rfl)) (h := ?_)
       refine done_ (done_of HT_.out (by kernel_rfl)) ?_
       try go_wp2
       replace HO_5 := am (Kd.R_drew HO_5.out)
       replace HO_448000 := am (Kd.R_drew HO_448000.out)
       replace BK441 := am (blk_drew BK441.out)
       replace BK442 := am (blk_drew BK442.out)
       replace BK447 := am (blk_drew BK447.out)
       replace HB := am (below_drew1 HB.out)
       have p454 : 0 ≤ (x6_1 : Int) := of_decide_eq_true (by assumption)
       have q454 : x6_1 < (t448.length : Int) := of_decide_eq_true (by assumption)
       obtain ⟨ad454, e454, hx454_0⟩ := Kd.at_string (Kd.R_reads' HO_5.out).2.2 x6_1 p454 q454
       obtain rfl : ad451 = ad454 := (by injection e454)
       replace p454 := eq_true p454
       replace q454 := eq_true q454
       obtain ⟨Ao35, co35, eo35⟩ := Kd.R_slice HO_448000.out
       (first | subst eo35 | (injection eo35 with f1_ f2_ f3_; have f4_ := f1_.symm; have f5_ := f3_.symm; clear f1_ f2_ f3_; subst f4_; subst f5_))
       refine start_ (n := 9) (S := fun w' => w'.cell? ⟨gb447, 0, none⟩ = some (.slice Ao35 x448000_1.length co35) ∧ w'.cell? ⟨gb447, 1, none⟩ = some (.slice none 0 0) ∧ w'.cell? ⟨gb447, 2, none⟩ = some (.int .i64 0) ∧ w'.cell? (ad451.add (x6_1).toNat) = some (.string (rdOf ByteArray.empty t448 x6_1))) (ds := []) #[false, false, false, false, false, false, false, false, false] (by kernel_rfl) rfl rfl ⟨(blk_cell BK447.out 0).trans rfl, (blk_cell BK447.out 1).trans rfl, (blk_cell BK447.out 2).trans rfl, hx454_0⟩ (fun hHeld => ?_); refine with_tabW spec_CleanTable.tab9 spec_CleanTable.bits9 (fun HT_ HW_ => ?_)
       generalize w33.drew = w34 at HO_5 HO_448000 BK441 BK442 BK447 HB hx454_0 hHeld ⊢
       refine xP1 (i := 0) (N := some 35) #[true, false, false, false, false, false, false, false, false] (any_of HT_.out (by kernel_rfl)) (h := ?_)
       refine xP1 (i := 2) (N := some 37) #[true, false, true, false, false, false, false, false, false] (any_of HT_.out (by kernel_rfl)) (h := ?_)
       refine xP1 (i := 3) (N := some 38) #[true, false, true, true, false, false, false, false, false] (any_of HT_.out (by kernel_rfl)) (h := ?_)
       refine xP1 (i := 4) (N := some 39) #[true, false, true, true, true, false, false, false, false] (any_of HT_.out (by kernel_rfl)) (h := ?_)
       refine xP1 (i := 6) (N := some 41) #[true, false, true, true, true, false, true, false, false] (any_of HT_.out (by kernel_rfl)) (h := ?_)
       refine take_ (i := 1) (N := some 36) (v := ?_) (a' := ?_) #[true, true, true, true, true, false, true, false, false] rfl rfl (take_ofW HT_.out HW_.out (by kernel_rfl)) (fun _ _ _ h => h) (Or.inl ⟨by rfl, ?_⟩) hHeld ?_ ?_
       rotate_left
       ·rintro w' ⟨s0, s1, s2, s3⟩
        go_simp
        with_reducible rfl
       rotate_left
       ·simp only [Act.put, List.setIfInBounds_toArray, List.set_cons_zero, List.set_cons_succ, i64_w, i32_w]
        rfl
       refine take_ (i := 5) (N := some 40) (v := ?_) (a' := ?_) #[true, true, true, true, true, true, true, false, false] rfl rfl (take_ofW HT_.out HW_.out (by kernel_rfl)) (fun _ _ _ h => h) (Or.inl ⟨by rfl, ?_⟩) hHeld ?_ ?_
       rotate_left
       ·rintro w' ⟨s0, s1, s2, s3⟩
        go_simp
        with_reducible rfl
       rotate_left
       ·simp only [Act.put, List.setIfInBounds_toArray, List.set_cons_zero, List.set_cons_succ, i64_w, i32_w]
        rfl
       refine one_ (i := 7) (N := some 42) #[true, true, true, true, true, true, true, true, false] rfl rfl (one_of HT_.out (by kernel_rfl)) (by decide) (fun K hK => ?_)
       refine xG1 73 Try.func73 #[.slice Ao35 x448000_1.length co35, .string (rdOf ByteArray.empty t448 x6_1), .int .i64 t452] (h := ?_)
       with_reducible refine (spec_l04Put.calls k1 (fun k_ => some k_ = (.slice Ao35 x448000_1.length co35 : Value).ownBlock) (.slice Ao35 x448000_1.length co35) x448000_1 (rdOf ByteArray.empty t448 x6_1) t452 false t456 w _ ?side1 ?side2 A23.out).mono ?_
       (case side1 => exact xW HB.out)
       (case side2 => exact Kd.R_tight rfl HO_448000.out)
       rintro e w36 ⟨rfl, hy0, hb, hkp⟩
       have HS3_ := cell_kept (hHeld.2.2.2) hkp (by first | (rw [add_block]; exact (fun hs_ => ((((Kd.R_apart' HO_5.out (Kd.R_typed HO_448000.out) (by decide))).1 _ rfl).2) hs_)) | (show ¬ _; simp only [add_block]; exact (fun hs_ => ((((Kd.R_apart' HO_5.out (Kd.R_typed HO_448000.out) (by decide))).1 _ rfl).2) hs_)) | exact (fun hs_ => ((((Kd.R_apart' HO_5.out (Kd.R_typed HO_448000.out) (by decide))).1 _ rfl).2) hs_))
       refine ⟨_, rfl, ?_⟩
       replace HO_5 := am (Kd.R_mono (ok' := fun k_ => True) (Kd.R_keptB ((Kd.R_apart' HO_5.out (Kd.R_typed HO_448000.out) (by decide))) hkp (fun k_ hk_ hs_ => (hk_.2) hs_)) (fun k_ hk_ => trivial))
       replace BK441 := am (blk_kept (xB BK441.out) hkp (fun hs_ => (fun e_ => (Kd.R_ne HO_448000.out BK441.out (by decide)) e_) hs_))
       replace BK442 := am (blk_kept (xB BK442.out) hkp (fun hs_ => (fun e_ => (Kd.R_ne HO_448000.out BK442.out (by decide)) e_) hs_))
       replace BK447 := am (blk_kept (xB BK447.out) hkp (fun hs_ => (fun e_ => (Kd.R_ne HO_448000.out BK447.out (by decide)) e_) hs_))
       replace HO_448000 := am (Kd.R_reok rfl hy0 (fun k_ e_ => HO_448000.out.1 k_ e_))
       replace HB := am (hb)
       (try clear hb)
       (try clear hkp)
       (try clear hy0)
       refine hK.out _ _ ⟨(blk_cell BK447.out 0).trans rfl, (blk_cell BK447.out 1).trans rfl, (blk_cell BK447.out 2).trans rfl, HS3_⟩ (fun hHeld => ?_)
       clear hK K
       refine xN1 (h := ?_)
       refine xP1 (i := 8) (N := some 43) #[true, true, true, true, true, true, true, true, true] (any_of HT_.out (by kernel_rfl)) (h := ?_)
       refine done_ (done_of HT_.out (by kernel_rfl)) ?_
       have hnb37 := NB442_441.out
       have hnc37 := NB441_442.out
       have hnb38 := NB442_447.out
       have hnc38 := NB447_442.out
       obtain ⟨hcz39_0, hcz39_1, hcz39_2, hfz39_0, hfz39_1, hfz39_2⟩ := xT3 (W := w36) BK442.out
       try go_wp2
       refine bodyPost_ret (results_ct rfl _ _ gb442 26 #[.slice none 0 0, .slice none 0 0, .int .i64 0] (0, 0) _ rfl (xP BK442.out) Try.underlying26 rfl (by kernel_rfl)) rfl ?_
       exact ⟨_, _, xV, by first | exact Kd.R_nil _ _ _ _ _ | exact Kd.N_nil _ _ _ _ _ | exact Kd.V_nil _ _ _ _ _ | exact Kd.Q_nil _ _ _ _ _ | exact Kd.S_nil _ _ _ _ _, by first | exact Kd.R_nil _ _ _ _ _ | exact Kd.N_nil _ _ _ _ _ | exact Kd.V_nil _ _ _ _ _ | exact Kd.Q_nil _ _ _ _ _ | exact Kd.S_nil _ _ _ _ _, xW HB.out⟩
     ·rw [if_neg c21] at H
      exact absurd H (by simp)
    ·rw [if_neg c20] at H
     have c20b0 : decide (x6_1 < (t448.length : Int)) = false := decide_eq_false c20
     clear c20
     simp only [Option.some.injEq, Prod.mk.injEq] at H
     obtain ⟨rfl, rfl, rfl, rfl⟩ := H
     obtain ⟨Ao40, co40, eo40⟩ := Kd.R_slice HO_5.out
     subst eo40
     have hnb41 := NB447_441.out
     have hnc41 := NB441_447.out
     have hnb42 := NB447_442.out
     have hnc42 := NB442_447.out
     obtain ⟨hcz43_0, hcz43_1, hcz43_2, hfz43_0, hfz43_1, hfz43_2⟩ := xT3 (W := wr) BK447.out
     obtain ⟨Ao44, co44, eo44⟩ := Kd.R_slice HO_448000.out
     subst eo44
     have hnb45 := NB442_441.out
     have hnc45 := NB441_442.out
     obtain ⟨hcz46_0, hcz46_1, hcz46_2, hfz46_0, hfz46_1, hfz46_2⟩ := xT3 (W := wr) BK442.out
     go_wp2
     refine bodyPost_ret (results_ct rfl _ _ gb442 26 #[.slice Ao44 x448000_1.length co44, .slice none 0 0, .int .i64 0] (0, 0) _ rfl (xP BK442.out) Try.underlying26 rfl (by kernel_rfl)) rfl ?_
     exact ⟨_, _, xV, by (with_reducible repeat (first | apply Kd.R_alloc | apply Kd.R_drewN | apply Kd.R_drew)); exact Kd.R_mono (Kd.R_far (p := ⟨gb442, 2, none⟩) (Kd.R_far (p := ⟨gb442, 1, none⟩) (Kd.R_far (p := ⟨gb442, 0, none⟩) (Kd.R_types HO_448000.out BK442.out (by decide)) (fun _ hk => hk.2) (.slice Ao44 x448000_1.length co44)) (fun _ hk => hk.2) (.slice none 0 0)) (fun _ hk => hk.2) (.int .i64 0)) (fun _ hk => (by simp [Value.ownBlock])), by first | exact Kd.R_nil _ _ _ _ _ | exact Kd.N_nil _ _ _ _ _ | exact Kd.V_nil _ _ _ _ _ | exact Kd.Q_nil _ _ _ _ _ | exact Kd.S_nil _ _ _ _ _, xW HB.out⟩
 ·replace c3 := Bool.eq_false_iff.mpr c3
  subst c3
  have H1 : (some (([] : List (S57)), ([] : List (S57)), 0, false)) = some (r1, r2, r3, r4) := by rw [if_neg (show ¬ (false = true) by decide)] at H; exact H
  clear H
  have H := H1
  clear H1
  simp only [Option.some.injEq, Prod.mk.injEq] at H
  obtain ⟨rfl, rfl, rfl, rfl⟩ := H
  go_enter Try.func42, Try.ntmps42
  go_wp2_with (first | ((with_reducible refine gate_dst (N := 1) rfl ?_); refine xE (N := 1) (cs := #[.slice A0_0 l0_0.length c0_0, .slice A0_1 l0_1.length c0_1, .int .i64 a0_2]) (t := 26) (h := ?_); intro gb441 hg w47 hbox hb; have BK441 := am (hbox); have GW441 := am (xS hg HB.out); have GE441 := am (xS hg HB.out); replace HB := am (below_step (xW HB.out) hb); clear hb hbox hg) | ((with_reducible refine gate_dst (N := 2) rfl ?_); refine xE (N := 2) (cs := #[.slice none 0 0, .slice none 0 0, .int .i64 0]) (t := 26) (h := ?_); intro gb442 hg w48 hbox hb; have BK442 := am (hbox); have GW442 := am (xS hg HB.out); have GE442 := am (xS hg HB.out); replace HB := am (below_step (xW HB.out) hb); have NB441_442 := am (xN hg BK441.out); have NB442_441 := am (xM hg BK441.out); replace BK441 := am (blk_below (xB BK441.out) hb); clear hb hbox hg; have hnb49 := NB441_442.out; have hnc49 := NB442_441.out; obtain ⟨hcz50_0, hcz50_1, hcz50_2, hfz50_0, hfz50_1, hfz50_2⟩ := xT3 (W := w48) BK441.out) | ((with_reducible refine gate_callee (f := 25) rfl ?_); refine xG (some 10) 25 Try.func25 #[.agg #[.slice A0_0 l0_0.length c0_0, .slice A0_1 l0_1.length c0_1, .int .i64 a0_2]] (h := ?_); (with_reducible refine (spec_TableOk.calls k _ _ l0_0 _ _ l0_1 a0_2 false _ ?side1 ?side2 ?side3 ?side4 A2.out).mono ?_); (case side1 => exact xC (Kd.C_below HR0_0.out HB.out)); (case side2 => exact HC0_0.out); (case side3 => exact xC (Kd.C_below HR0_1.out HB.out)); (case side4 => exact HC0_1.out); rintro e w51 ⟨rfl, hb⟩; refine ⟨_, rfl, ?_⟩; replace BK441 := am (blk_below (xB BK441.out) hb); replace BK442 := am (blk_below (xB BK442.out) hb); replace HB := am (below_step (xW HB.out) hb); (try clear hb); obtain ⟨hcz52_0, hcz52_1, hcz52_2, hfz52_0, hfz52_1, hfz52_2⟩ := xT3 (W := w51) BK442.out))
  refine bodyPost_ret (results_ct rfl _ _ gb442 26 #[.slice none 0 0, .slice none 0 0, .int .i64 0] (0, 0) _ rfl (xP BK442.out) Try.underlying26 rfl (by kernel_rfl)) rfl ?_
  exact ⟨_, _, xV, by first | exact Kd.R_nil _ _ _ _ _ | exact Kd.N_nil _ _ _ _ _ | exact Kd.V_nil _ _ _ _ _ | exact Kd.Q_nil _ _ _ _ _ | exact Kd.S_nil _ _ _ _ _, by first | exact Kd.R_nil _ _ _ _ _ | exact Kd.N_nil _ _ _ _ _ | exact Kd.V_nil _ _ _ _ _ | exact Kd.Q_nil _ _ _ _ _ | exact Kd.S_nil _ _ _ _ _, xW HB.out⟩
end Go.Proofs.Ytmahoekbedgbcaa.HFnCleans
