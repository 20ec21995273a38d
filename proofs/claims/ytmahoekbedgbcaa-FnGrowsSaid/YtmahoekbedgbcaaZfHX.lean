/- What the row of the law needs of the printed and the plain texts. -/
import Derived.Test.YtmahoekbedgbcaaZfWWords
import Derived.Test.YtmahoekbedgbcaaZfWLast
import Derived.Test.YtmahoekbedgbcaaZfWKept
import Derived.Test.YtmahoekbedgbcaaZfWMore
set_option linter.unusedVariables false
set_option linter.unusedSimpArgs false
namespace Go.Proofs.YtmahoekbedgbcaaW.PrintWords
open Go.RowKit Go.Proofs.YtmahoekbedgbcaaW.PrintLast
theorem am {p : Prop} (h : p) : Aside0 p := ⟨h⟩
def UpB (g : Nat) (W W' : World) : Prop := ∀ o, W.heap[g]? = some o → W'.heap[g]? = some o
theorem UpB.refl {g : Nat} {W : World} : UpB g W W := fun _ h => h
theorem UpB.alloc {g : Nat} {W W' : World} {o : Obj} (u : UpB g W W') : UpB g W (W'.alloc o) := fun o' h => blk_alloc (u o' h) o
theorem UpB.drewN {g : Nat} {W W' : World} {n : Nat} (u : UpB g W W') : UpB g W (W'.drewN n) := u
theorem UpB.drew {g : Nat} {W W' : World} (u : UpB g W W') : UpB g W W'.drew := u
theorem UpB.far {g : Nat} {W W' : World} {p : Addr} {x : Value} (h : Aside0 (g ≠ p.block)) (u : UpB g W W') : UpB g W (W'.setCell p x) := fun o' h' => (Below.heap_setCell W' p x g h.out).trans (u o' h')
theorem xB {g : Nat} {o : Obj} {W W' : World} (h : W.heap[g]? = some o) (u : UpB g W W' := by repeat (first | (with_reducible first | exact UpB.refl | apply UpB.alloc | apply UpB.drewN | apply UpB.drew) | refine UpB.far (by assumption) ?_)) : W'.heap[g]? = some o := u o h
def UpP (g : Nat) (t : TypeId) (cs : Array Value) (W : World) (cs' : Array Value) (W' : World) : Prop := W.heap[g]? = some (.cells cs t (0, 0)) → W'.heap[g]? = some (.cells cs' t (0, 0))
theorem UpP.refl {g : Nat} {t : TypeId} {cs : Array Value} {W : World} : UpP g t cs W cs W := fun h => h
theorem UpP.alloc {g : Nat} {t : TypeId} {cs cs' : Array Value} {W W' : World} {o : Obj} (u : UpP g t cs W cs' W') : UpP g t cs W cs' (W'.alloc o) := fun h => blk_alloc (u h) o
theorem UpP.drewN {g : Nat} {t : TypeId} {cs cs' : Array Value} {W W' : World} {n : Nat} (u : UpP g t cs W cs' W') : UpP g t cs W cs' (W'.drewN n) := u
theorem UpP.drew {g : Nat} {t : TypeId} {cs cs' : Array Value} {W W' : World} (u : UpP g t cs W cs' W') : UpP g t cs W cs' W'.drew := u
theorem UpP.far {g : Nat} {t : TypeId} {cs cs' : Array Value} {W W' : World} {p : Addr} {x : Value} (h : Aside0 (g ≠ p.block)) (u : UpP g t cs W cs' W') : UpP g t cs W cs' (W'.setCell p x) := fun h' => (Below.heap_setCell W' p x g h.out).trans (u h')
theorem UpP.put {g : Nat} {t : TypeId} {cs cs' cs'' : Array Value} {W W' : World} {i : Nat} {x : Value} (u : UpP g t cs W cs' W') (e : cs'.setIfInBounds i x = cs'') : UpP g t cs W cs'' (W'.setCell ⟨g, i, none⟩ x) := fun h' => e ▸ blk_set (u h') i x
theorem xP {g : Nat} {t : TypeId} {cs cs' : Array Value} {W W' : World} (h : W.heap[g]? = some (.cells cs t (0, 0))) (u : UpP g t cs W cs' W' := by repeat (first | (with_reducible first | exact UpP.refl | apply UpP.alloc | apply UpP.drewN | apply UpP.drew | apply UpP.put) | (apply UpP.far; assumption) | rfl)) : W'.heap[g]? = some (.cells cs' t (0, 0)) := u h
def UpW (n : Nat) (W W' : World) : Prop := ∀ w : World, n = w.heap.size → Below n w W → Below n w W'
theorem UpW.refl {n : Nat} {W : World} : UpW n W W := fun _ _ h => h
theorem UpW.alloc {n : Nat} {W W' : World} {o : Obj} (u : UpW n W W') : UpW n W (W'.alloc o) := fun w e h => by subst e; exact below_alloc (u w rfl h) o
theorem UpW.drewN {n m : Nat} {W W' : World} (u : UpW n W W') : UpW n W (W'.drewN m) := fun w e h => pw_below_drewN (u w e h) m
theorem UpW.drew {n : Nat} {W W' : World} (u : UpW n W W') : UpW n W W'.drew := fun w e h => below_drew1 (u w e h)
theorem UpW.set {n : Nat} {W W' : World} {g j : Nat} {x : Value} (hg : Aside0 (n ≤ g)) (u : UpW n W W') : UpW n W (W'.setCell ⟨g, j, none⟩ x) := fun w e h => by subst e; exact below_set (u w rfl h) hg.out
theorem xW {w W W' : World} (h : Below w.heap.size w W) (u : UpW w.heap.size W W' := by repeat (first | (with_reducible first | exact UpW.refl | apply UpW.alloc | apply UpW.drewN | apply UpW.drew) | refine UpW.set (by assumption) ?_)) : Below w.heap.size w W' := u w rfl h
theorem xS {w W W' : World} {g : Nat} (hg : g = W'.heap.size) (h : Below w.heap.size w W) (u : UpW w.heap.size W W' := by repeat (first | (with_reducible first | exact UpW.refl | apply UpW.alloc | apply UpW.drewN | apply UpW.drew) | refine UpW.set (by assumption) ?_)) : w.heap.size ≤ g := by rw [hg]; exact below_size (u w rfl h)
theorem xN {g g' : Nat} {o : Obj} {W W' : World} (hg : g' = W'.heap.size) (h : W.heap[g]? = some o) (u : UpB g W W' := by repeat (first | (with_reducible first | exact UpB.refl | apply UpB.alloc | apply UpB.drewN | apply UpB.drew) | refine UpB.far (by assumption) ?_)) : g ≠ g' := by rw [hg]; exact Nat.ne_of_lt (blk_lt (u o h))
theorem xM {g g' : Nat} {o : Obj} {W W' : World} (hg : g' = W'.heap.size) (h : W.heap[g]? = some o) (u : UpB g W W' := by repeat (first | (with_reducible first | exact UpB.refl | apply UpB.alloc | apply UpB.drewN | apply UpB.drew) | refine UpB.far (by assumption) ?_)) : g' ≠ g := by rw [hg]; exact Nat.ne_of_gt (blk_lt (u o h))
section
variable {α : Type} {d : Kd α} {e base n : Nat} {ok : Nat → Prop} {W W' : World} {v : Value} {A : Option Addr} {xs : List α}
def UpR (d : Kd α) (e base : Nat) (v : Value) (xs : List α) (W W' : World) : Prop := ∀ ok, d.R e W base ok v xs → d.R e W' base ok v xs
theorem UpR.refl : UpR d e base v xs W W := fun _ h => h
theorem UpR.alloc {o : Obj} (u : UpR d e base v xs W W') : UpR d e base v xs W (W'.alloc o) := fun ok h => Kd.R_alloc (u ok h) o
theorem UpR.drewN {n : Nat} (u : UpR d e base v xs W W') : UpR d e base v xs W (W'.drewN n) := fun ok h => Kd.R_drewN (u ok h) n
theorem UpR.drew (u : UpR d e base v xs W W') : UpR d e base v xs W W'.drew := fun ok h => Kd.R_drew (u ok h)
theorem UpR.set {g t j : Nat} {cells : Array Value} {x : Value} (hb : Aside0 (W.heap[g]? = some (.cells cells t (0, 0)))) (ht : ∀ q, q ∈ e :: d.E → q ≠ t) (u : UpR d e base v xs W W') : UpR d e base v xs W (W'.setCell ⟨g, j, none⟩ x) :=
  fun ok h => Kd.R_mono (Kd.R_far (p := ⟨g, j, none⟩) (u _ (Kd.R_types h hb.out ht)) (fun _ hk => hk.2) x) (fun _ hk => hk.1)
theorem xR (h : d.R e W base ok v xs) (u : UpR d e base v xs W W' := by repeat (first | (with_reducible first | exact UpR.refl | apply UpR.alloc | apply UpR.drewN | apply UpR.drew) | refine UpR.set (by assumption) (by decide) ?_)) : d.R e W' base ok v xs := u ok h
theorem xI {p q : Nat → Prop} (h : ∀ k, p k → q k := by intro _ hk; simp [hk]) : ∀ k, p k → q k := h
theorem xD {c : Nat} (h : d.R e W base ok (.slice A n c) xs) (u : UpR d e base (.slice A n c) xs W W' := by repeat (first | (with_reducible first | exact UpR.refl | apply UpR.alloc | apply UpR.drewN | apply UpR.drew) | refine UpR.set (by assumption) (by decide) ?_)) : d.C W' A xs.length xs := (Kd.R_reads' (u ok h)).2.2
def UpC (d : Kd α) (A : Option Addr) (n : Nat) (xs : List α) (W W' : World) : Prop := d.C W A n xs → d.C W' A n xs
theorem UpC.refl : UpC d A n xs W W := fun h => h
theorem UpC.alloc {o : Obj} (u : UpC d A n xs W W') : UpC d A n xs W (W'.alloc o) := fun h => Kd.C_alloc (u h) o
theorem UpC.drewN {m : Nat} (u : UpC d A n xs W W') : UpC d A n xs W (W'.drewN m) := fun h => Kd.C_drewN (u h) m
theorem UpC.drew (u : UpC d A n xs W W') : UpC d A n xs W W'.drew := fun h => Kd.C_drew (u h)
theorem xC (h : d.C W A n xs) (u : UpC d A n xs W W' := by repeat (with_reducible first | exact UpC.refl | apply UpC.alloc | apply UpC.drewN | apply UpC.drew)) : d.C W' A n xs := u h
end
def UpK (w : World) (g : Nat) (W W' : World) : Prop := KeepBut w W g none → KeepBut w W' g none
theorem UpK.refl {w : World} {g : Nat} {W : World} : UpK w g W W := fun h => h
theorem UpK.alloc {w : World} {g : Nat} {W W' : World} {o : Obj} (u : UpK w g W W') : UpK w g W (W'.alloc o) := fun h => keep_alloc (u h) o
theorem UpK.drewN {w : World} {g n : Nat} {W W' : World} (u : UpK w g W W') : UpK w g W (W'.drewN n) := fun h => keep_drewN (u h) n
theorem UpK.drew {w : World} {g : Nat} {W W' : World} (u : UpK w g W W') : UpK w g W W'.drew := fun h => keep_drew (u h)
theorem UpK.set {w : World} {g j : Nat} {W W' : World} {x : Value} (u : UpK w g W W') : UpK w g W (W'.setCell ⟨g, j, none⟩ x) := fun h => KeepBut.set_ (u h) j x
theorem UpK.far {w : World} {g : Nat} {W W' : World} {p : Addr} {x : Value} (hp : Aside0 (w.heap.size ≤ p.block)) (u : UpK w g W W') : UpK w g W (W'.setCell p x) := fun h => keep_far (u h) hp.out x
theorem xK {w W W' : World} {g : Nat} (h : KeepBut w W g none) (u : UpK w g W W' := by repeat (first | (with_reducible first | exact UpK.refl | apply UpK.set | apply UpK.alloc | apply UpK.drewN | apply UpK.drew) | refine UpK.far (by assumption) ?_)) : KeepBut w W' g none := u h
theorem xKB {w W W' W2 : World} {g : Nat} (h : KeepBut w W g none) (hb : Below W'.heap.size W' W2) (u : UpK w g W W' := by repeat (first | (with_reducible first | exact UpK.refl | apply UpK.set | apply UpK.alloc | apply UpK.drewN | apply UpK.drew) | refine UpK.far (by assumption) ?_)) : KeepBut w W2 g none := KeepBut.trans (u h) (KeepBut.of_below hb g none) (.inl rfl)
theorem xKS {w W W' : World} {g b : Nat} (hg : b = W'.heap.size) (h : KeepBut w W g none) (u : UpK w g W W' := by repeat (first | (with_reducible first | exact UpK.refl | apply UpK.set | apply UpK.alloc | apply UpK.drewN | apply UpK.drew) | refine UpK.far (by assumption) ?_)) : w.heap.size ≤ b := by rw [hg]; exact keep_size (u h)
theorem xKZ {w W W' : World} {g : Nat} (h : KeepBut w W g none) (u : UpK w g W W' := by repeat (first | (with_reducible first | exact UpK.refl | apply UpK.set | apply UpK.alloc | apply UpK.drewN | apply UpK.drew) | refine UpK.far (by assumption) ?_)) : w.heap.size ≤ W'.heap.size := keep_size (u h)
theorem xWI {w W W' : World} {g : Nat} (h : Below w.heap.size w W) (hg : w.heap.size ≤ g) (u : Aside0 (w.heap.size ≤ g) → UpW w.heap.size W W' := by intro _; repeat (first | (with_reducible first | exact UpW.refl | apply UpW.alloc | apply UpW.drewN | apply UpW.drew) | refine UpW.set (by assumption) ?_)) : Below w.heap.size w W' := u ⟨hg⟩ w rfl h
theorem xL {g g' n : Nat} (hg : g' = n) (h : g < n) : g ≠ g' := by rw [hg]; exact Nat.ne_of_lt h
theorem xLM {g g' n : Nat} (hg : g' = n) (h : g < n) : g' ≠ g := by rw [hg]; exact Nat.ne_of_gt h
def UpJ (w : World) (S : Nat → Prop) (W W' : World) : Prop := Kept w W S → Kept w W' S
theorem UpJ.refl {w : World} {S : Nat → Prop} {W : World} : UpJ w S W W := fun h => h
theorem UpJ.alloc {w : World} {S : Nat → Prop} {W W' : World} {o : Obj} (u : UpJ w S W W') : UpJ w S W (W'.alloc o) := fun h => Kept.alloc (u h) o
theorem UpJ.drewN {w : World} {S : Nat → Prop} {n : Nat} {W W' : World} (u : UpJ w S W W') : UpJ w S W (W'.drewN n) := fun h => Kept.drewN (u h) n
theorem UpJ.drew {w : World} {S : Nat → Prop} {W W' : World} (u : UpJ w S W W') : UpJ w S W W'.drew := fun h => Kept.drew (u h)
theorem UpJ.set {w : World} {S : Nat → Prop} {W W' : World} {p : Addr} {x : Value} (hp : Aside0 (w.heap.size ≤ p.block)) (u : UpJ w S W W') : UpJ w S W (W'.setCell p x) := fun h => Kept.setCell (u h) (.inr hp.out) x
theorem xJ {w W W' : World} {S : Nat → Prop} (h : Kept w W S) (u : UpJ w S W W' := by repeat (first | (with_reducible first | exact UpJ.refl | apply UpJ.alloc | apply UpJ.drewN | apply UpJ.drew) | refine UpJ.set (by assumption) ?_)) : Kept w W' S := u h
theorem xQ {α : Sort _} {a b : α} (h : a = b := by first | rfl | (simp; done) | (simp [*]; done) | (simp; generalize ByteArray.toList _ = z; cases z <;> rfl)) : a = b := h
theorem xV {a b : Ending} (h : a = b := by first | rfl | (simp [errW_none, errW_some] <;> rfl) | (simp [*, errW_none, errW_some] <;> rfl)) : a = b := h
section
variable {P : Program} {ops : Array Oper} {rest : List Oper} {o : Oper} {a : Act} {Q : Exit → Act → World → Prop} {W : World}
theorem xE {N : Tmp} {cs : Array Value} {t : TypeId} (hgd : o.guard = none := by rfl) (hd : o.dst = some N := by rfl)
    (hrun : (execOp a.eval o).run P W = .ok (.value (.pointer (some ⟨W.heap.size, 0, none⟩))) (W.alloc (.cells cs t (0, 0))) := by first | (go_simp; done) | (go_simp; rfl))
    (h : ∀ g, g = W.heap.size → ∀ w1, w1.heap[g]? = some (.cells cs t (0, 0)) → Below W.heap.size W w1 → wpList P ops Q rest (a.put o.dst (.pointer (some ⟨g, 0, none⟩))) w1) : wpList P ops Q (o :: rest) a W := box_event hgd hd hrun h
theorem xG (N : Option Tmp) (f : FuncId) {fn : Func} {as : Array Operand} {ts : Array TypeId} (hf : P.funcs[f]? = some fn) (args : Array Value) (hb : fn.body.isSome = true := by kernel_rfl)
    (hd : o.dst = N := by rfl) (hg : o.guard = none := by rfl) (hname : (fn.name == "runtime.NumGoroutine") = false := by kernel_rfl) (hop : o.op = .call { callee := .value (.func f), args := as, argTypes := ts } := by rfl)
    (hargs : as.map a.eval = args := by (try simp only [List.map_toArray, List.map_cons, List.map_nil]); first | done | rfl | (simp only [List.length_drop, List.length_take]; rfl))
    (h : Calls P f args W fun e w' => ∃ v, e = .returned v ∧ wpList P ops Q rest (a.put N v) w') : wpList P ops Q (o :: rest) a W := goesL_ N hd hg hf hname hb args hop hargs h
end
section
variable {P : Program} {ops : Array Oper} {md : Region.Mode} {S : World → Prop} {ds : List Nat} {fuel : Nat} {l : Array Bool} {a a' : Act} {w : World} {Q : Exit → Act → World → Prop}
theorem xP1 {i : Nat} {N : Option Tmp} {oi : Oper} {v : Value} (l' : Array Bool) (hc : anyB md ops l l' i = true) (hi : ops[i]? = some oi := by rfl) (hN : oi.dst = N := by rfl)
    (hQ : ∀ c a w, Q (.panic c) (a.put oi.dst v) w → Q (.panic c) a w := by exact fun _ _ _ h => h) (hw : Region.wanted oi (yielded ops a.tmps) = true := by rfl)
    (hr : ∀ w, (execOp a.eval oi).run P w = .ok (.value v) w := by intro w'; go_simp; with_reducible rfl)
    (ha : a.put N v = a' := by simp only [Act.put, List.setIfInBounds_toArray, List.set_cons_zero, List.set_cons_succ, i64_w, i32_w]; rfl)
    (h : wpAnyLast P md ops Q S ds fuel l' a' w) : wpAnyLast P md ops Q S ds (fuel + 1) l a w := pure_ l' hi hN hc hQ (Or.inl ⟨hw, hr⟩) ha h
theorem xN1 (ha : a = a' := by (try show Act.put _ (some _) _ = _); simp only [Act.put, List.setIfInBounds_toArray, List.set_cons_zero, List.set_cons_succ, i64_w, i32_w]; rfl)
    (h : wpAnyLast P md ops Q S ds fuel l a' w) : wpAnyLast P md ops Q S ds fuel l a w := norm_ ha h
theorem xN2 (h : wpAnyLast P md ops Q S ds fuel l a w) (ha : a' = a := by simp only [putAll, Act.put, List.setIfInBounds_toArray, List.set_cons_zero, List.set_cons_succ]) : wpAnyLast P md ops Q S ds fuel l a' w := norm_ ha h
variable {K : Act → World → Prop} {oi : Oper} {W : World}
theorem xG1 (f : FuncId) {fn : Func} {N : Option Tmp} {as : Array Operand} {ts : Array TypeId} (hf : P.funcs[f]? = some fn) (args : Array Value) (hb : fn.body.isSome = true := by kernel_rfl) (hname : (fn.name == "runtime.NumGoroutine") = false := by kernel_rfl)
    (hw : Region.wanted oi (yielded ops a.tmps) = true := by rfl) (hN : oi.dst = N := by rfl) (hop : oi.op = .call { callee := .value (.func f), args := as, argTypes := ts } := by rfl)
    (hargs : as.map a.eval = args := by (try simp only [List.map_toArray, List.map_cons, List.map_nil]); first | done | rfl | (simp only [List.length_drop, List.length_take]; rfl))
    (h : Calls P f args W fun e w' => ∃ v, e = .returned v ∧ K (a.put N v) w') : if Region.wanted oi (yielded ops a.tmps) = true then Oper.wp P oi a W K Q else K (a.put N undef) W := goes_ hf hname hb args hw hN hop hargs h
theorem xE1 {N : Tmp} {cs : Array Value} {t : TypeId} (hw : Region.wanted oi (yielded ops a.tmps) = true := by rfl) (hd : oi.dst = some N := by rfl)
    (hrun : (execOp a.eval oi).run P W = .ok (.value (.pointer (some ⟨W.heap.size, 0, none⟩))) (W.alloc (.cells cs t (0, 0))) := by first | (go_simp; done) | (go_simp; rfl))
    (h : ∀ g, g = W.heap.size → ∀ w1, w1.heap[g]? = some (.cells cs t (0, 0)) → Below W.heap.size W w1 → K (a.put oi.dst (.pointer (some ⟨g, 0, none⟩))) w1) : if Region.wanted oi (yielded ops a.tmps) = true then Oper.wp P oi a W K Q else K (a.put oi.dst undef) W := box_step hw hd hrun h
end
section
variable {W : World} {g : Nat} {t : TypeId} {a b c : Value}
theorem xT2 (h : W.heap[g]? = some (.cells #[a, b] t (0, 0))) : W.cell? ⟨g, 0, none⟩ = some a ∧ W.cell? ⟨g, 1, none⟩ = some b ∧ W.frozen? ⟨g, 0, none⟩ = false ∧ W.frozen? ⟨g, 1, none⟩ = false :=
  ⟨(blk_cell h 0).trans rfl, (blk_cell h 1).trans rfl, blk_frozen h 0, blk_frozen h 1⟩
theorem xC3 (h : W.heap[g]? = some (.cells #[a, b, c] t (0, 0))) : W.cell? ⟨g, 0, none⟩ = some a ∧ W.cell? ⟨g, 1, none⟩ = some b ∧ W.cell? ⟨g, 2, none⟩ = some c := ⟨(blk_cell h 0).trans rfl, (blk_cell h 1).trans rfl, (blk_cell h 2).trans rfl⟩
theorem xT3 (h : W.heap[g]? = some (.cells #[a, b, c] t (0, 0))) : W.cell? ⟨g, 0, none⟩ = some a ∧ W.cell? ⟨g, 1, none⟩ = some b ∧ W.cell? ⟨g, 2, none⟩ = some c ∧ W.frozen? ⟨g, 0, none⟩ = false ∧ W.frozen? ⟨g, 1, none⟩ = false ∧ W.frozen? ⟨g, 2, none⟩ = false :=
  ⟨(blk_cell h 0).trans rfl, (blk_cell h 1).trans rfl, (blk_cell h 2).trans rfl, blk_frozen h 0, blk_frozen h 1, blk_frozen h 2⟩
end
end Go.Proofs.YtmahoekbedgbcaaW.PrintWords
