/- What the row of the law needs of the printed and the plain texts. -/
import Derived.Test.YtmahoekbedgbcaaZeHX
import Derived.Test.YtmahoekbedgbcaaZeHFnCleansx0
import Derived.Test.YtmahoekbedgbcaaZeHFnCleansx10
import Derived.Test.YtmahoekbedgbcaaZeHFnCleansx12
import Derived.Test.YtmahoekbedgbcaaZeHFnCleansx13
import Derived.Test.YtmahoekbedgbcaaZeHFnCleansx16
namespace Go.Proofs.Ytmahoekbedgbcaa.HFnCleans
open Go.RowKit Go.Proofs.YtmahoekbedgbcaaW.PrintWords Go.Proofs.YtmahoekbedgbcaaW.PrintLast Go.Proofs.YtmahoekbedgbcaaW.PrintMore
attribute [local go_sem] max2_int min2_int max_two min_two max_three min_three max_four min_four
set_option linter.unusedVariables false
set_option linter.unusedSimpArgs false
def impl_Table_cleaned.l0 : Nat → List ByteArray → Int → Int → List (S57) → List (S57) → Int → List (S57) → Int → Option ((List (S57)) × (List (S57)) × Int × Bool)
 | 0, _, _, _, _, _, _, _, _ => none
 | k + 1, x15, x16, x17, x476000, x476001, x476002, x481000, x481002 => if x17 < x16 then (if 0 ≤ x17 then (if x17 < (x15.length : Int) then ((impl_Table_find.f k x476000 x476001 x476002 (rdOf ByteArray.empty x15 x17)).bind fun bt485 => ((impl_Table_put.f k x481000 ([] : List (S57)) x481002 (rdOf ByteArray.empty x15 x17) bt485.1).bind fun bt487 => (if bt487.1 = true then (impl_Table_cleaned.l0 k x15 x16 (wrap64 (x17 + 1)) x476000 x476001 x476002 bt487.2.1 x481002) else (some (([] : List (S57)), ([] : List (S57)), 0, false))))) else (none)) else (none)) else (some (x481000, ([] : List (S57)), x481002, true))
def impl_Table_cleaned.f (k : Nat) (l0_0 : List (S57)) (l0_1 : List (S57)) (a0_2 : Int) : Option ((List (S57)) × (List (S57)) × Int × Bool) := (impl_newCells.f (l0_0.length : Int)).bind fun t477 => ((impl_Table_keys.f k l0_0 l0_1 a0_2).bind fun t481 => (impl_Table_cleaned.l0 k t481 (t481.length : Int) 0 l0_0 l0_1 a0_2 t477 0))
set_option maxHeartbeats 8000000 in
set_option maxRecDepth 100000 in
theorem impl_Table_cleaned.calls (k : Nat) (A0_0 : Option Addr) (c0_0 : Nat) (l0_0 : List (S57)) (A0_1 : Option Addr) (c0_1 : Nat) (l0_1 : List (S57)) (a0_2 : Int) (r1 : List (S57)) (r2 : List (S57)) (r3 : Int) (r4 : Bool) (w : World) (hr0_0 : Kd.C k57 w A0_0 l0_0.length l0_0) (hc0_0 : l0_0.length ≤ c0_0) (hr0_1 : Kd.C k57 w A0_1 l0_1.length l0_1) (hc0_1 : l0_1.length ≤ c0_1) (h : impl_Table_cleaned.f k l0_0 l0_1 a0_2 = some (r1, r2, r3, r4)) :
  Calls Try.prog 75 #[.agg #[.slice A0_0 l0_0.length c0_0, .slice A0_1 l0_1.length c0_1, .int .i64 a0_2]] w fun e w' => ∃ v0_ v1_ : Value, e = .returned (.tuple #[.agg #[v0_, v1_, .int .i64 r3], .bool r4]) ∧ Kd.R k57 57 w' w.heap.size (fun k_ => some k_ ≠ (v1_ : Value).ownBlock) v0_ r1 ∧ Kd.R k57 57 w' w.heap.size (fun k_ => some k_ ≠ (v0_ : Value).ownBlock) v1_ r2 ∧ Below w.heap.size w w' := by
 have hu26 := Try.underlying26
 have HR0_0 := am hr0_0
 have HC0_0 := am hc0_0
 clear hr0_0 hc0_0
 have HR0_1 := am hr0_1
 have HC0_1 := am hc0_1
 clear hr0_1 hc0_1
 have HB := am (Below.refl w.heap.size w)
 have H : ((impl_newCells.f (l0_0.length : Int)).bind fun t477 => ((impl_Table_keys.f k l0_0 l0_1 a0_2).bind fun t481 => (impl_Table_cleaned.l0 k t481 (t481.length : Int) 0 l0_0 l0_1 a0_2 t477 0))) = some (r1, r2, r3, r4) := h
 clear h
 replace H := Option.bind_eq_some_iff.mp H
 obtain ⟨t477, A20, H⟩ := H
 try dsimp only at H
 have A2 := am A20
 clear A20
 replace H := Option.bind_eq_some_iff.mp H
 obtain ⟨t481, A30, H⟩ := H
 try dsimp only at H
 have A3 := am A30
 clear A30
 have H' := am H
 clear H
 go_enter Try.func75, Try.ntmps75
 go_wp2_with (first | ((with_reducible refine gate_dst (N := 1) rfl ?_); refine xE (N := 1) (cs := #[.slice A0_0 l0_0.length c0_0, .slice A0_1 l0_1.length c0_1, .int .i64 a0_2]) (t := 26) (h := ?_); intro gb475 hg w4 hbox hb; have BK475 := am (hbox); have GW475 := am (xS hg HB.out); have GE475 := am (xS hg HB.out); replace HB := am (below_step (xW HB.out) hb); clear hb hbox hg) | ((with_reducible refine gate_dst (N := 2) rfl ?_); refine xE (N := 2) (cs := #[.slice none 0 0, .slice none 0 0, .int .i64 0]) (t := 26) (h := ?_); intro gb476 hg w5 hbox hb; have BK476 := am (hbox); have GW476 := am (xS hg HB.out); have GE476 := am (xS hg HB.out); replace HB := am (below_step (xW HB.out) hb); have NB475_476 := am (xN hg BK475.out); have NB476_475 := am (xM hg BK475.out); replace BK475 := am (blk_below (xB BK475.out) hb); clear hb hbox hg; have hnb6 := NB475_476.out; have hnc6 := NB476_475.out; obtain ⟨hcz7_0, hcz7_1, hcz7_2, hfz7_0, hfz7_1, hfz7_2⟩ := xT3 (W := w5) BK475.out) | ((with_reducible refine gate_callee (f := 49) rfl ?_); refine xG (some 12) 49 Try.func49 #[.int .i64 (l0_0.length : Int)] (h := ?_); (with_reducible refine (impl_newCells.calls (l0_0.length : Int) t477 _ A2.out).mono ?_); rintro e w8 ⟨v478, rfl, ho0, hb⟩; refine ⟨_, rfl, ?_⟩; have HO479 := am (Kd.R_lower ho0 (below_size (xW HB.out))); replace BK475 := am (blk_below (xB BK475.out) hb); replace BK476 := am (blk_below (xB BK476.out) hb); replace HB := am (below_step (xW HB.out) hb); (try clear hb); (try clear ho0); obtain ⟨Ao9, co9, eo9⟩ := Kd.R_slice HO479.out; subst eo9) | ((with_reducible refine gate_dst (N := 4) rfl ?_); refine xE (N := 4) (cs := #[.slice none 0 0, .slice none 0 0, .int .i64 0]) (t := 26) (h := ?_); intro gb480 hg w10 hbox hb; replace HO479 := am (Kd.R_below (xR HO479.out) hb); have BK480 := am (hbox); have GW480 := am (xS hg HB.out); have GE480 := am (xS hg HB.out); replace HB := am (below_step (xW HB.out) hb); have NB475_480 := am (xN hg BK475.out); have NB480_475 := am (xM hg BK475.out); replace BK475 := am (blk_below (xB BK475.out) hb); have NB476_480 := am (xN hg BK476.out); have NB480_476 := am (xM hg BK476.out); replace BK476 := am (blk_below (xB BK476.out) hb); clear hb hbox hg; have hnb11 := NB480_475.out; have hnc11 := NB475_480.out; have hnb12 := NB480_476.out; have hnc12 := NB476_480.out; obtain ⟨hcz13_0, hcz13_1, hcz13_2, hfz13_0, hfz13_1, hfz13_2⟩ := xT3 (W := w10) BK480.out) | ((with_reducible refine gate_store (t := 26) (p := 4) rfl ?_); refine store_event (t := 26) (p := 4) (v := ?vo_w14) (w1 := (((w10.setCell ⟨gb480, 0, none⟩ (.slice Ao9 t477.length co9)).setCell ⟨gb480, 1, none⟩ (.slice none 0 0)).setCell ⟨gb480, 2, none⟩ (.int .i64 0))) ?hg ?ho ?hn ?hr ?_; (case ho => rfl); (case hg => rfl); (case hn => rfl); (case hr => first | (go_simp; done) | (go_simp; rfl)); intro w14 hw; have n0_ : Aside0 (Kd.R k57 57 w14 w.heap.size (fun _ => True) (.slice Ao9 t477.length co9) t477) := ⟨(by rw [hw]; exact (by (with_reducible repeat (first | apply Kd.R_alloc | apply Kd.R_drewN | apply Kd.R_drew)); exact Kd.R_mono (Kd.R_far (p := ⟨gb480, 2, none⟩) (Kd.R_far (p := ⟨gb480, 1, none⟩) (Kd.R_far (p := ⟨gb480, 0, none⟩) (Kd.R_types HO479.out BK480.out (by decide)) (fun _ hk => hk.2) (.slice Ao9 t477.length co9)) (fun _ hk => hk.2) (.slice none 0 0)) (fun _ hk => hk.2) (.int .i64 0)) (fun _ hk => trivial)))⟩; have n1_ : Aside0 (w14.heap[gb475]? = some (.cells #[.slice A0_0 l0_0.length c0_0, .slice A0_1 l0_1.length c0_1, .int .i64 a0_2] 26 (0, 0))) := ⟨(by rw [hw]; exact (xB BK475.out))⟩; have n2_ : Aside0 (w14.heap[gb476]? = some (.cells #[.slice none 0 0, .slice none 0 0, .int .i64 0] 26 (0, 0))) := ⟨(by rw [hw]; exact (xB BK476.out))⟩; have n3_ : Aside0 (w14.heap[gb480]? = some (.cells #[.slice Ao9 t477.length co9, .slice none 0 0, .int .i64 0] 26 (0, 0))) := ⟨(by rw [hw]; exact (xP BK480.out))⟩; have n4_ : Aside0 (Below w.heap.size w w14) := ⟨(by rw [hw]; exact (xW HB.out))⟩; clear hw; clear HO479; clear BK475; clear BK476; clear BK480; clear HB; have HO479 := n0_; have BK475 := n1_; have BK476 := n2_; have BK480 := n3_; have HB := n4_; clear n0_ n1_ n2_ n3_ n4_; obtain ⟨hcz15_0, hcz15_1, hcz15_2, hfz15_0, hfz15_1, hfz15_2⟩ := xT3 (W := w14) BK475.out) | ((with_reducible refine gate_callee (f := 53) rfl ?_); refine xG (some 15) 53 Try.func53 #[.agg #[.slice A0_0 l0_0.length c0_0, .slice A0_1 l0_1.length c0_1, .int .i64 a0_2]] (h := ?_); (with_reducible refine (impl_Table_keys.calls k (fun k_ => k_ < w.heap.size) _ _ l0_0 (fun k_ => k_ < w.heap.size) _ _ l0_1 a0_2 t481 _ ?side1 ?side2 A3.out).mono ?_); (case side1 => exact Kd.V_mk HC0_0.out (Kd.F_below (Kd.C_F k57_heap HR0_0.out) (xW HB.out))); (case side2 => exact Kd.V_mk HC0_1.out (Kd.F_below (Kd.C_F k57_heap HR0_1.out) (xW HB.out))); rintro e w16 ⟨v482, rfl, ho0, hb⟩; refine ⟨_, rfl, ?_⟩; replace HO479 := am (Kd.R_below (xR HO479.out) hb); have HO483 := am (Kd.R_lower (Kd.R_mono (ok' := fun k_ => True) ho0 (fun _ hk_ => trivial)) (below_size (xW HB.out))); replace BK475 := am (blk_below (xB BK475.out) hb); replace BK476 := am (blk_below (xB BK476.out) hb); replace BK480 := am (blk_below (xB BK480.out) hb); replace HB := am (below_step (xW HB.out) hb); (try clear hb); (try clear ho0); obtain ⟨Ao17, co17, eo17⟩ := Kd.R_slice HO483.out; subst eo17))
 go_loopg [17] k (fun kq v17 w' => ∃ (x17_1 : Int) (x477002_1 : Int) (x481000_1 : List (S57)) (u481000 : Value), v17 = .int .i64 x17_1 ∧ Aside0 (impl_Table_cleaned.l0 kq t481 (t481.length : Int) x17_1 l0_0 l0_1 a0_2 x481000_1 0 = some (r1, r2, r3, r4)) ∧ Aside0 (kq ≤ k) ∧ Aside0 (Kd.R Kd.string 9 w' w.heap.size (fun _ => True) (.slice Ao17 t481.length co17) t481) ∧ Aside0 (Kd.R k57 57 w' w.heap.size (fun _ => True) u481000 x481000_1) ∧ Aside0 (w'.heap[gb475]? = some (.cells #[(.slice A0_0 l0_0.length c0_0), (.slice A0_1 l0_1.length c0_1), .int .i64 a0_2] 26 (0, 0))) ∧ Aside0 (w'.heap[gb476]? = some (.cells #[(.slice none 0 0), (.slice none 0 0), .int .i64 x477002_1] 26 (0, 0))) ∧ Aside0 (w'.heap[gb480]? = some (.cells #[u481000, (.slice none 0 0), .int .i64 0] 26 (0, 0))) ∧ Aside0 (Below w.heap.size w w'))
 case atStart => exact ⟨(0), (0), (t477), (.slice Ao9 t477.length co9), (xQ), H', ⟨Nat.le_refl _⟩, ⟨xR HO483.out⟩, ⟨xR HO479.out⟩, ⟨xB BK475.out⟩, ⟨xB BK476.out⟩, ⟨xB BK480.out⟩, ⟨xW HB.out⟩⟩
 case round =>
  clear H'
  try clear c1
  try clear p2
  try clear c4
  try clear c5
  try clear c6
  try clear c7
  try clear c11
  try clear c12
  try clear hcz13_0
  try clear hcz13_1
  try clear hcz13_2
  try clear hcz15_0
  try clear hcz15_1
  try clear hcz15_2
  try clear hcz7_0
  try clear hcz7_1
  try clear hcz7_2
  try clear hfz13_0
  try clear hfz13_1
  try clear hfz13_2
  try clear hfz15_0
  try clear hfz15_1
  try clear hfz15_2
  try clear hfz7_0
  try clear hfz7_1
  try clear hfz7_2
  obtain ⟨x17_1, x477002_1, x481000_1, u481000, rfl, HA, HK1, HO_15, HO_481000, BK475, BK476, BK480, HB⟩ := hrel
  cases gk with
  | zero => exact absurd HA.out (by simp [impl_Table_cleaned.l0])
  | succ k1 =>
   have H := HA.out
   clear HA
   simp only [impl_Table_cleaned.l0] at H
   by_cases c18 : x17_1 < (t481.length : Int)
   ·rw [if_pos c18] at H
    have c18b0 : decide (x17_1 < (t481.length : Int)) = true := decide_eq_true c18
    clear c18
    by_cases c19 : 0 ≤ x17_1
    ·rw [if_pos c19] at H
     have c19b0 : decide (0 ≤ x17_1) = true := decide_eq_true c19
     clear c19
     by_cases c20 : x17_1 < (t481.length : Int)
     ·rw [if_pos c20] at H
      have c20b0 : decide (x17_1 < (t481.length : Int)) = true := decide_eq_true c20
      clear c20
      replace H := Option.bind_eq_some_iff.mp H
      obtain ⟨⟨t485, t486⟩, A210, H⟩ := H
      try dsimp only at H
      have A21 := am A210
      clear A210
      replace H := Option.bind_eq_some_iff.mp H
      obtain ⟨⟨t487, t488, t489⟩, A220, H⟩ := H
      try dsimp only at H
      have A22 := am A220
      clear A220
      by_cases c23 : t487 = true
      ·subst c23
       have H1 : (impl_Table_cleaned.l0 k1 t481 (t481.length : Int) (wrap64 (x17_1 + 1)) l0_0 l0_1 a0_2 t488 0) = some (r1, r2, r3, r4) := by rw [if_pos rfl] at H; exact H
       clear H
       have H := H1
       clear H1
       have H' := am H
       clear H
       have p484 : 0 ≤ (x17_1 : Int) := of_decide_eq_true (by assumption)
       have q484 : x17_1 < (t481.length : Int) := of_decide_eq_true (by assumption)
       obtain ⟨ad484, e484, hx484_0⟩ := Kd.at_string (Kd.R_reads' HO_15.out).2.2 x17_1 p484 q484
       cases e484
       replace p484 := eq_true p484
       replace q484 := eq_true q484
       have hnb24 := NB475_476.out
       have hnc24 := NB476_475.out
       have hnb25 := NB475_480.out
       have hnc25 := NB480_475.out
       obtain ⟨hcz26_0, hcz26_1, hcz26_2, hfz26_0, hfz26_1, hfz26_2⟩ := xT3 (W := wr) BK475.out
       go_wp2_with (first | ((with_reducible refine gate_callee (f := 59) rfl ?_); refine xG (some 24) 59 Try.func59 #[.agg #[.slice A0_0 l0_0.length c0_0, .slice A0_1 l0_1.length c0_1, .int .i64 a0_2], .string (rdOf ByteArray.empty t481 x17_1)] (h := ?_); (with_reducible refine (impl_Table_find.calls k1 _ _ l0_0 _ _ l0_1 a0_2 (rdOf ByteArray.empty t481 x17_1) t485 t486 _ ?side1 ?side2 ?side3 ?side4 A21.out).mono ?_); (case side1 => exact xC (Kd.C_below HR0_0.out HB.out)); (case side2 => exact HC0_0.out); (case side3 => exact xC (Kd.C_below HR0_1.out HB.out)); (case side4 => exact HC0_1.out); rintro e w27 ⟨rfl, hb⟩; refine ⟨_, rfl, ?_⟩; replace HO_15 := am (Kd.R_below (xR HO_15.out) hb); replace HO_481000 := am (Kd.R_below (xR HO_481000.out) hb); replace BK475 := am (blk_below (xB BK475.out) hb); replace BK476 := am (blk_below (xB BK476.out) hb); replace BK480 := am (blk_below (xB BK480.out) hb); replace HB := am (below_step (xW HB.out) hb); (try clear hb); have hnb28 := NB480_476.out; have hnc28 := NB476_480.out; obtain ⟨hcz29_0, hcz29_1, hcz29_2, hfz29_0, hfz29_1, hfz29_2⟩ := xT3 (W := w27) BK480.out; obtain ⟨Ao30, co30, eo30⟩ := Kd.R_slice HO_481000.out; subst eo30) | ((with_reducible refine gate_callee (f := 48) rfl ?_); refine xG (some 29) 48 Try.func48 #[.pointer (some ⟨gb480, 0, none⟩), .string (rdOf ByteArray.empty t481 x17_1), .int .i64 t485] (h := ?_); (refine (impl_Table_put.calls k1 (fun k_ => some k_ = (.slice Ao30 x481000_1.length co30 : Value).ownBlock) (.slice Ao30 x481000_1.length co30) x481000_1 (fun k_ => some k_ = (.slice none 0 0 : Value).ownBlock) (.slice none 0 0) ([] : List (S57)) 0 (rdOf ByteArray.empty t481 x17_1) t485 true t488 t489 w _ ?side1 ?side2 ?side3 ?side4 ?side5 A22.out gb480 (xB BK480.out) GE480.out).mono ?_); (case side1 => exact xW HB.out); (case side2 => exact Kd.R_tight rfl HO_481000.out); (case side3 => intro k_ e_ e2_; simp [Value.ownBlock] at e_ e2_); (case side4 => exact Kd.R_nil _ _ _ _ _); (case side5 => intro k_ e_ e2_; simp [Value.ownBlock] at e_ e2_); rintro e w31 ⟨rfl, hy0, hy1, hb, hkp⟩; refine ⟨_, rfl, ?_⟩; replace HO_15 := am (Kd.R_mono (ok' := fun k_ => True) (Kd.R_keptB ((Kd.R_apart' HO_15.out (Kd.R_typed HO_481000.out) (by decide))) hkp (fun k_ hk_ hs_ => Or.elim hs_ (fun e_ => (hk_.2) e_) (fun e_ => (fun e_ => by simp [Value.ownBlock] at e_) e_))) (fun k_ hk_ => trivial)); replace BK475 := am (blk_kept (xB BK475.out) hkp (fun hs_ => Or.elim hs_ (fun e_ => (fun e_ => (Kd.R_ne HO_481000.out BK475.out (by decide)) e_) e_) (fun e_ => (fun e_ => by simp [Value.ownBlock] at e_) e_))); replace BK476 := am (blk_kept (xB BK476.out) hkp (fun hs_ => Or.elim hs_ (fun e_ => (fun e_ => (Kd.R_ne HO_481000.out BK476.out (by decide)) e_) e_) (fun e_ => (fun e_ => by simp [Value.ownBlock] at e_) e_))); replace BK480 := am (blk_kept (xB BK480.out) hkp (fun hs_ => Or.elim hs_ (fun e_ => (fun e_ => (Kd.R_ne HO_481000.out BK480.out (by decide)) e_) e_) (fun e_ => (fun e_ => by simp [Value.ownBlock] at e_) e_))); replace HO_481000 := am (Kd.R_reok rfl hy0 (fun k_ e_ => HO_481000.out.1 k_ e_)); replace HB := am (hb); (try clear hb); (try clear hkp); (try clear hy0); (try clear hy1)))
       go_roundg k1
       case measure => have := HK1.out; omega
       case rel => exact ⟨(wrap64 (x17_1 + 1)), (x477002_1), (t488), (.slice Ao30 x481000_1.length co30), (xQ), H', ⟨by have := HK1.out; omega⟩, ⟨xR HO_15.out⟩, ⟨xR HO_481000.out⟩, ⟨xB BK475.out⟩, ⟨xB BK476.out⟩, ⟨xB BK480.out⟩, ⟨xW HB.out⟩⟩
      ·replace c23 := Bool.eq_false_iff.mpr c23
       subst c23
       have H1 : (some (([] : List (S57)), ([] : List (S57)), 0, false)) = some (r1, r2, r3, r4) := by rw [if_neg (show ¬ (false = true) by decide)] at H; exact H
       clear H
       have H := H1
       clear H1
       simp only [Option.some.injEq, Prod.mk.injEq] at H
       obtain ⟨rfl, rfl, rfl, rfl⟩ := H
       have p484 : 0 ≤ (x17_1 : Int) := of_decide_eq_true (by assumption)
       have q484 : x17_1 < (t481.length : Int) := of_decide_eq_true (by assumption)
       obtain ⟨ad484, e484, hx484_0⟩ := Kd.at_string (Kd.R_reads' HO_15.out).2.2 x17_1 p484 q484
       cases e484
       replace p484 := eq_true p484
       replace q484 := eq_true q484
       have hnb32 := NB475_476.out
       have hnc32 := NB476_475.out
       have hnb33 := NB475_480.out
       have hnc33 := NB480_475.out
       obtain ⟨hcz34_0, hcz34_1, hcz34_2, hfz34_0, hfz34_1, hfz34_2⟩ := xT3 (W := wr) BK475.out
       go_wp2_with (first | ((with_reducible refine gate_callee (f := 59) rfl ?_); refine xG (some 24) 59 Try.func59 #[.agg #[.slice A0_0 l0_0.length c0_0, .slice A0_1 l0_1.length c0_1, .int .i64 a0_2], .string (rdOf ByteArray.empty t481 x17_1)] (h := ?_); (with_reducible refine (impl_Table_find.calls k1 _ _ l0_0 _ _ l0_1 a0_2 (rdOf ByteArray.empty t481 x17_1) t485 t486 _ ?side1 ?side2 ?side3 ?side4 A21.out).mono ?_); (case side1 => exact xC (Kd.C_below HR0_0.out HB.out)); (case side2 => exact HC0_0.out); (case side3 => exact xC (Kd.C_below HR0_1.out HB.out)); (case side4 => exact HC0_1.out); rintro e w35 ⟨rfl, hb⟩; refine ⟨_, rfl, ?_⟩; replace HO_15 := am (Kd.R_below (xR HO_15.out) hb); replace HO_481000 := am (Kd.R_below (xR HO_481000.out) hb); replace BK475 := am (blk_below (xB BK475.out) hb); replace BK476 := am (blk_below (xB BK476.out) hb); replace BK480 := am (blk_below (xB BK480.out) hb); replace HB := am (below_step (xW HB.out) hb); (try clear hb); have hnb36 := NB480_476.out; have hnc36 := NB476_480.out; obtain ⟨hcz37_0, hcz37_1, hcz37_2, hfz37_0, hfz37_1, hfz37_2⟩ := xT3 (W := w35) BK480.out; obtain ⟨Ao38, co38, eo38⟩ := Kd.R_slice HO_481000.out; subst eo38) | ((with_reducible refine gate_callee (f := 48) rfl ?_); refine xG (some 29) 48 Try.func48 #[.pointer (some ⟨gb480, 0, none⟩), .string (rdOf ByteArray.empty t481 x17_1), .int .i64 t485] (h := ?_); (refine (impl_Table_put.calls k1 (fun k_ => some k_ = (.slice Ao38 x481000_1.length co38 : Value).ownBlock) (.slice Ao38 x481000_1.length co38) x481000_1 (fun k_ => some k_ = (.slice none 0 0 : Value).ownBlock) (.slice none 0 0) ([] : List (S57)) 0 (rdOf ByteArray.empty t481 x17_1) t485 false t488 t489 w _ ?side1 ?side2 ?side3 ?side4 ?side5 A22.out gb480 (xB BK480.out) GE480.out).mono ?_); (case side1 => exact xW HB.out); (case side2 => exact Kd.R_tight rfl HO_481000.out); (case side3 => intro k_ e_ e2_; simp [Value.ownBlock] at e_ e2_); (case side4 => exact Kd.R_nil _ _ _ _ _); (case side5 => intro k_ e_ e2_; simp [Value.ownBlock] at e_ e2_); rintro e w39 ⟨rfl, hy0, hy1, hb, hkp⟩; refine ⟨_, rfl, ?_⟩; replace HO_15 := am (Kd.R_mono (ok' := fun k_ => True) (Kd.R_keptB ((Kd.R_apart' HO_15.out (Kd.R_typed HO_481000.out) (by decide))) hkp (fun k_ hk_ hs_ => Or.elim hs_ (fun e_ => (hk_.2) e_) (fun e_ => (fun e_ => by simp [Value.ownBlock] at e_) e_))) (fun k_ hk_ => trivial)); replace BK475 := am (blk_kept (xB BK475.out) hkp (fun hs_ => Or.elim hs_ (fun e_ => (fun e_ => (Kd.R_ne HO_481000.out BK475.out (by decide)) e_) e_) (fun e_ => (fun e_ => by simp [Value.ownBlock] at e_) e_))); replace BK476 := am (blk_kept (xB BK476.out) hkp (fun hs_ => Or.elim hs_ (fun e_ => (fun e_ => (Kd.R_ne HO_481000.out BK476.out (by decide)) e_) e_) (fun e_ => (fun e_ => by simp [Value.ownBlock] at e_) e_))); replace BK480 := am (blk_kept (xB BK480.out) hkp (fun hs_ => Or.elim hs_ (fun e_ => (fun e_ => (Kd.R_ne HO_481000.out BK480.out (by decide)) e_) e_) (fun e_ => (fun e_ => by simp [Value.ownBlock] at e_) e_))); replace HO_481000 := am (Kd.R_reok rfl hy0 (fun k_ e_ => HO_481000.out.1 k_ e_)); replace HB := am (hb); (try clear hb); (try clear hkp); (try clear hy0); (try clear hy1); obtain ⟨hcz40_0, hcz40_1, hcz40_2, hfz40_0, hfz40_1, hfz40_2⟩ := xT3 (W := w39) BK476.out))
       refine bodyPost_ret (results_ct rfl _ _ gb476 26 #[.slice none 0 0, .slice none 0 0, .int .i64 0] (0, 0) _ rfl (xP BK476.out) Try.underlying26 rfl (by kernel_rfl)) rfl ?_
       exact ⟨_, _, xV, by first | exact Kd.R_nil _ _ _ _ _ | exact Kd.N_nil _ _ _ _ _ | exact Kd.V_nil _ _ _ _ _ | exact Kd.Q_nil _ _ _ _ _ | exact Kd.S_nil _ _ _ _ _, by first | exact Kd.R_nil _ _ _ _ _ | exact Kd.N_nil _ _ _ _ _ | exact Kd.V_nil _ _ _ _ _ | exact Kd.Q_nil _ _ _ _ _ | exact Kd.S_nil _ _ _ _ _, xW HB.out⟩
     ·rw [if_neg c20] at H
      exact absurd H (by simp)
    ·rw [if_neg c19] at H
     exact absurd H (by simp)
   ·rw [if_neg c18] at H
    have c18b0 : decide (x17_1 < (t481.length : Int)) = false := decide_eq_false c18
    clear c18
    simp only [Option.some.injEq, Prod.mk.injEq] at H
    obtain ⟨rfl, rfl, rfl, rfl⟩ := H
    have hnb41 := NB480_475.out
    have hnc41 := NB475_480.out
    have hnb42 := NB480_476.out
    have hnc42 := NB476_480.out
    obtain ⟨hcz43_0, hcz43_1, hcz43_2, hfz43_0, hfz43_1, hfz43_2⟩ := xT3 (W := wr) BK480.out
    obtain ⟨Ao44, co44, eo44⟩ := Kd.R_slice HO_481000.out
    subst eo44
    have hnb45 := NB476_475.out
    have hnc45 := NB475_476.out
    obtain ⟨hcz46_0, hcz46_1, hcz46_2, hfz46_0, hfz46_1, hfz46_2⟩ := xT3 (W := wr) BK476.out
    go_wp2
    refine bodyPost_ret (results_ct rfl _ _ gb476 26 #[.slice Ao44 x481000_1.length co44, .slice none 0 0, .int .i64 0] (0, 0) _ rfl (xP BK476.out) Try.underlying26 rfl (by kernel_rfl)) rfl ?_
    exact ⟨_, _, xV, by (with_reducible repeat (first | apply Kd.R_alloc | apply Kd.R_drewN | apply Kd.R_drew)); exact Kd.R_mono (Kd.R_far (p := ⟨gb476, 2, none⟩) (Kd.R_far (p := ⟨gb476, 1, none⟩) (Kd.R_far (p := ⟨gb476, 0, none⟩) (Kd.R_types HO_481000.out BK476.out (by decide)) (fun _ hk => hk.2) (.slice Ao44 x481000_1.length co44)) (fun _ hk => hk.2) (.slice none 0 0)) (fun _ hk => hk.2) (.int .i64 0)) (fun _ hk => (by simp [Value.ownBlock])), by first | exact Kd.R_nil _ _ _ _ _ | exact Kd.N_nil _ _ _ _ _ | exact Kd.V_nil _ _ _ _ _ | exact Kd.Q_nil _ _ _ _ _ | exact Kd.S_nil _ _ _ _ _, xW HB.out⟩
def impl_CleanTable.f (k : Nat) (l0_0 : List (S57)) (l0_1 : List (S57)) (a0_2 : Int) : Option ((List (S57)) × (List (S57)) × Int × Bool) := (impl_TableOk.f k l0_0 l0_1 a0_2).bind fun t492 => (if t492 = true then ((impl_Table_cleaned.f k l0_0 l0_1 a0_2).bind fun bt493 => (some (bt493.1, bt493.2.1, bt493.2.2.1, bt493.2.2.2))) else (some (([] : List (S57)), ([] : List (S57)), 0, false)))
set_option maxHeartbeats 8000000 in
set_option maxRecDepth 100000 in
theorem impl_CleanTable.calls (k : Nat) (A0_0 : Option Addr) (c0_0 : Nat) (l0_0 : List (S57)) (A0_1 : Option Addr) (c0_1 : Nat) (l0_1 : List (S57)) (a0_2 : Int) (r1 : List (S57)) (r2 : List (S57)) (r3 : Int) (r4 : Bool) (w : World) (hr0_0 : Kd.C k57 w A0_0 l0_0.length l0_0) (hc0_0 : l0_0.length ≤ c0_0) (hr0_1 : Kd.C k57 w A0_1 l0_1.length l0_1) (hc0_1 : l0_1.length ≤ c0_1) (h : impl_CleanTable.f k l0_0 l0_1 a0_2 = some (r1, r2, r3, r4)) :
  Calls Try.prog 43 #[.agg #[.slice A0_0 l0_0.length c0_0, .slice A0_1 l0_1.length c0_1, .int .i64 a0_2]] w fun e w' => ∃ v0_ v1_ : Value, e = .returned (.tuple #[.agg #[v0_, v1_, .int .i64 r3], .bool r4]) ∧ Kd.R k57 57 w' w.heap.size (fun k_ => some k_ ≠ (v1_ : Value).ownBlock) v0_ r1 ∧ Kd.R k57 57 w' w.heap.size (fun k_ => some k_ ≠ (v0_ : Value).ownBlock) v1_ r2 ∧ Below w.heap.size w w' := by
 have hu26 := Try.underlying26
 have HR0_0 := am hr0_0
 have HC0_0 := am hc0_0
 clear hr0_0 hc0_0
 have HR0_1 := am hr0_1
 have HC0_1 := am hc0_1
 clear hr0_1 hc0_1
 have HB := am (Below.refl w.heap.size w)
 have H : ((impl_TableOk.f k l0_0 l0_1 a0_2).bind fun t492 => (if t492 = true then ((impl_Table_cleaned.f k l0_0 l0_1 a0_2).bind fun bt493 => (some (bt493.1, bt493.2.1, bt493.2.2.1, bt493.2.2.2))) else (some (([] : List (S57)), ([] : List (S57)), 0, false)))) = some (r1, r2, r3, r4) := h
 clear h
 replace H := Option.bind_eq_some_iff.mp H
 obtain ⟨t492, A20, H⟩ := H
 try dsimp only at H
 have A2 := am A20
 clear A20
 by_cases c3 : t492 = true
 ·subst c3
  have H1 : ((impl_Table_cleaned.f k l0_0 l0_1 a0_2).bind fun bt493 => (some (bt493.1, bt493.2.1, bt493.2.2.1, bt493.2.2.2))) = some (r1, r2, r3, r4) := by rw [if_pos rfl] at H; exact H
  clear H
  have H := H1
  clear H1
  replace H := Option.bind_eq_some_iff.mp H
  obtain ⟨⟨t493, t496, t499, t500⟩, A40, H⟩ := H
  replace H : (some (t493, t496, t499, t500)) = some (r1, r2, r3, r4) := H
  have A4 := am A40
  clear A40
  simp only [Option.some.injEq, Prod.mk.injEq] at H
  obtain ⟨rfl, rfl, rfl, rfl⟩ := H
  go_enter Try.func43, Try.ntmps43
  go_wp2_with (first | ((with_reducible refine gate_dst (N := 1) rfl ?_); refine xE (N := 1) (cs := #[.slice A0_0 l0_0.length c0_0, .slice A0_1 l0_1.length c0_1, .int .i64 a0_2]) (t := 26) (h := ?_); intro gb490 hg w5 hbox hb; have BK490 := am (hbox); have GW490 := am (xS hg HB.out); have GE490 := am (xS hg HB.out); replace HB := am (below_step (xW HB.out) hb); clear hb hbox hg) | ((with_reducible refine gate_dst (N := 2) rfl ?_); refine xE (N := 2) (cs := #[.slice none 0 0, .slice none 0 0, .int .i64 0]) (t := 26) (h := ?_); intro gb491 hg w6 hbox hb; have BK491 := am (hbox); have GW491 := am (xS hg HB.out); have GE491 := am (xS hg HB.out); replace HB := am (below_step (xW HB.out) hb); have NB490_491 := am (xN hg BK490.out); have NB491_490 := am (xM hg BK490.out); replace BK490 := am (blk_below (xB BK490.out) hb); clear hb hbox hg; have hnb7 := NB490_491.out; have hnc7 := NB491_490.out; obtain ⟨hcz8_0, hcz8_1, hcz8_2, hfz8_0, hfz8_1, hfz8_2⟩ := xT3 (W := w6) BK490.out) | ((with_reducible refine gate_callee (f := 18) rfl ?_); refine xG (some 5) 18 Try.func18 #[.agg #[.slice A0_0 l0_0.length c0_0, .slice A0_1 l0_1.length c0_1, .int .i64 a0_2]] (h := ?_); (with_reducible refine (impl_TableOk.calls k _ _ l0_0 _ _ l0_1 a0_2 true _ ?side1 ?side2 ?side3 ?side4 A2.out).mono ?_); (case side1 => exact xC (Kd.C_below HR0_0.out HB.out)); (case side2 => exact HC0_0.out); (case side3 => exact xC (Kd.C_below HR0_1.out HB.out)); (case side4 => exact HC0_1.out); rintro e w9 ⟨rfl, hb⟩; refine ⟨_, rfl, ?_⟩; replace BK490 := am (blk_below (xB BK490.out) hb); replace BK491 := am (blk_below (xB BK491.out) hb); replace HB := am (below_step (xW HB.out) hb); (try clear hb); obtain ⟨hcz10_0, hcz10_1, hcz10_2, hfz10_0, hfz10_1, hfz10_2⟩ := xT3 (W := w9) BK490.out) | ((with_reducible refine gate_callee (f := 75) rfl ?_); refine xG (some 9) 75 Try.func75 #[.agg #[.slice A0_0 l0_0.length c0_0, .slice A0_1 l0_1.length c0_1, .int .i64 a0_2]] (h := ?_); (with_reducible refine (impl_Table_cleaned.calls k _ _ l0_0 _ _ l0_1 a0_2 t493 t496 t499 t500 _ ?side1 ?side2 ?side3 ?side4 A4.out).mono ?_); (case side1 => exact xC (Kd.C_below HR0_0.out HB.out)); (case side2 => exact HC0_0.out); (case side3 => exact xC (Kd.C_below HR0_1.out HB.out)); (case side4 => exact HC0_1.out); rintro e w11 ⟨v494, v497, rfl, ho0, ho1, hb⟩; refine ⟨_, rfl, ?_⟩; have HO495 := am (Kd.R_lower ho0 (below_size (xW HB.out))); have HO498 := am (Kd.R_lower ho1 (below_size (xW HB.out))); replace BK490 := am (blk_below (xB BK490.out) hb); replace BK491 := am (blk_below (xB BK491.out) hb); replace HB := am (below_step (xW HB.out) hb); (try clear hb); (try clear ho0); (try clear ho1); obtain ⟨Ao12, co12, eo12⟩ := Kd.R_slice HO495.out; subst eo12; obtain ⟨hcz13_0, hcz13_1, hcz13_2, hfz13_0, hfz13_1, hfz13_2⟩ := xT3 (W := w11) BK491.out; obtain ⟨Ao14, co14, eo14⟩ := Kd.R_slice HO498.out; subst eo14))
  refine bodyPost_ret (results_ct rfl _ _ gb491 26 #[.slice Ao12 t493.length co12, .slice Ao14 t496.length co14, .int .i64 t499] (0, 0) _ rfl (xP BK491.out) Try.underlying26 rfl (by kernel_rfl)) rfl ?_
  exact ⟨_, _, xV, xR HO495.out, xR HO498.out, xW HB.out⟩
 ·replace c3 := Bool.eq_false_iff.mpr c3
  subst c3
  have H1 : (some (([] : List (S57)), ([] : List (S57)), 0, false)) = some (r1, r2, r3, r4) := by rw [if_neg (show ¬ (false = true) by decide)] at H; exact H
  clear H
  have H := H1
  clear H1
  simp only [Option.some.injEq, Prod.mk.injEq] at H
  obtain ⟨rfl, rfl, rfl, rfl⟩ := H
  go_enter Try.func43, Try.ntmps43
  go_wp2_with (first | ((with_reducible refine gate_dst (N := 1) rfl ?_); refine xE (N := 1) (cs := #[.slice A0_0 l0_0.length c0_0, .slice A0_1 l0_1.length c0_1, .int .i64 a0_2]) (t := 26) (h := ?_); intro gb490 hg w15 hbox hb; have BK490 := am (hbox); have GW490 := am (xS hg HB.out); have GE490 := am (xS hg HB.out); replace HB := am (below_step (xW HB.out) hb); clear hb hbox hg) | ((with_reducible refine gate_dst (N := 2) rfl ?_); refine xE (N := 2) (cs := #[.slice none 0 0, .slice none 0 0, .int .i64 0]) (t := 26) (h := ?_); intro gb491 hg w16 hbox hb; have BK491 := am (hbox); have GW491 := am (xS hg HB.out); have GE491 := am (xS hg HB.out); replace HB := am (below_step (xW HB.out) hb); have NB490_491 := am (xN hg BK490.out); have NB491_490 := am (xM hg BK490.out); replace BK490 := am (blk_below (xB BK490.out) hb); clear hb hbox hg; have hnb17 := NB490_491.out; have hnc17 := NB491_490.out; obtain ⟨hcz18_0, hcz18_1, hcz18_2, hfz18_0, hfz18_1, hfz18_2⟩ := xT3 (W := w16) BK490.out) | ((with_reducible refine gate_callee (f := 18) rfl ?_); refine xG (some 5) 18 Try.func18 #[.agg #[.slice A0_0 l0_0.length c0_0, .slice A0_1 l0_1.length c0_1, .int .i64 a0_2]] (h := ?_); (with_reducible refine (impl_TableOk.calls k _ _ l0_0 _ _ l0_1 a0_2 false _ ?side1 ?side2 ?side3 ?side4 A2.out).mono ?_); (case side1 => exact xC (Kd.C_below HR0_0.out HB.out)); (case side2 => exact HC0_0.out); (case side3 => exact xC (Kd.C_below HR0_1.out HB.out)); (case side4 => exact HC0_1.out); rintro e w19 ⟨rfl, hb⟩; refine ⟨_, rfl, ?_⟩; replace BK490 := am (blk_below (xB BK490.out) hb); replace BK491 := am (blk_below (xB BK491.out) hb); replace HB := am (below_step (xW HB.out) hb); (try clear hb); obtain ⟨hcz20_0, hcz20_1, hcz20_2, hfz20_0, hfz20_1, hfz20_2⟩ := xT3 (W := w19) BK491.out))
  refine bodyPost_ret (results_ct rfl _ _ gb491 26 #[.slice none 0 0, .slice none 0 0, .int .i64 0] (0, 0) _ rfl (xP BK491.out) Try.underlying26 rfl (by kernel_rfl)) rfl ?_
  exact ⟨_, _, xV, by first | exact Kd.R_nil _ _ _ _ _ | exact Kd.N_nil _ _ _ _ _ | exact Kd.V_nil _ _ _ _ _ | exact Kd.Q_nil _ _ _ _ _ | exact Kd.S_nil _ _ _ _ _, by first | exact Kd.R_nil _ _ _ _ _ | exact Kd.N_nil _ _ _ _ _ | exact Kd.V_nil _ _ _ _ _ | exact Kd.Q_nil _ _ _ _ _ | exact Kd.S_nil _ _ _ _ _, xW HB.out⟩
end Go.Proofs.Ytmahoekbedgbcaa.HFnCleans
