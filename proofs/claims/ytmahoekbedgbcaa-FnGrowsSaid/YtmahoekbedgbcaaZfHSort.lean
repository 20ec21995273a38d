/- What the row of the law needs of the printed and the plain texts. -/
import Derived.Test.YtmahoekbedgbcaaZfWWords
import Derived.Test.YtmahoekbedgbcaaZfWKept
import Derived.Test.YtmahoekbedgbcaaZfWMore
import Derived.Shelf.Sort.Plain
set_option linter.unusedVariables false
set_option linter.unusedSimpArgs false
namespace Go.Proofs.YtmahoekbedgbcaaW.PrintWords
open Go.RowKit Go.Sort
def bytesL (l : List ByteArray) : List (List UInt8) := l.map fun s => s.data.toList
def sortB (l : List ByteArray) : List ByteArray := ((bytesL l).mergeSort fun x y => decide (x ≤ y)).map fun b => ⟨b.toArray⟩
theorem sortB_length (l : List ByteArray) : (sortB l).length = l.length := by simp [sortB, bytesL, List.length_mergeSort]
namespace Kd
theorem sort_calls {P : Program} {f : Nat}
    (hS : ∀ (blk off cap : Nat) (ss : List (List UInt8)) (w : World), Holds encStr w blk off ss.toArray → blk < w.heap.size → ss.length < 4611686018427387904 →
      Calls P f #[.slice (some ⟨blk, off, none⟩) ss.length cap] w fun e w' => e = .returned (.tuple #[]) ∧ ∃ n os, w' = grow (putRow encStr (Sort.ahead w n) blk off (ss.mergeSort fun x y => decide (x ≤ y)).toArray) os)
    (hN : ∀ (p : Option Addr) (cap : Nat) (w : World), Calls P f #[.slice p 0 cap] w fun e w' => e = .returned (.tuple #[]) ∧ w' = w)
    (e : Nat) (P0 : Nat → Prop) (u : Value) (l0 : List ByteArray) (w0 w : World) (hB : Below w0.heap.size w0 w) (ho0 : Kd.R Kd.string e w w0.heap.size P0 u l0) (hsz : l0.length < 4611686018427387904) :
    Calls P f #[u] w fun en w' => en = .returned (.tuple #[]) ∧ Kd.R Kd.string e w' w0.heap.size (fun k_ => (P0 k_ ∨ w.heap.size ≤ k_)) u (sortB l0) ∧ Below w0.heap.size w0 w' ∧ Kept w w' (fun k_ => P0 k_) := by
  obtain ⟨hok, inner, hown0, hreps⟩ := ho0
  have hown : w.ownsRow w0.heap.size e 1 u l0.length inner := hown0
  clear hown0
  have hinner : inner = l0.map Value.string := by
    apply List.ext_getElem?
    intro j
    rw [List.getElem?_map]
    by_cases hj : j < l0.length
    · have h := hreps.2 j l0[j] (List.getElem?_eq_getElem hj)
      have h' : (inner.drop (j * 1)).take 1 = [Value.string l0[j]] := h
      rw [List.getElem?_eq_getElem hj]
      have h2 : ((inner.drop (j * 1)).take 1)[0]? = some (Value.string l0[j]) := by rw [h']; rfl
      simpa using h2
    · have h1 : inner.length ≤ j := by have := hown.1; omega
      rw [List.getElem?_eq_none h1, List.getElem?_eq_none (by omega)]
      rfl
  rcases hown.2 with ⟨rfl, hn⟩ | ⟨g, cap, cur, rfl, hg, hh, hnc, hcm, hcs, htake⟩
  · have hl : l0 = [] := List.eq_nil_of_length_eq_zero hn
    subst hl
    refine (hN none 0 w).mono ?_
    rintro en w' ⟨rfl, rfl⟩
    have hs : sortB [] = [] := by simp [sortB, bytesL]
    rw [hs]
    exact ⟨rfl, R_nil _ _ _ _ _, hB, Kept.refl _ _⟩
  · have hlen : (bytesL l0).length = l0.length := by simp [bytesL]
    have hglt : g < w.heap.size := (Array.getElem?_eq_some_iff.1 hh).1
    have hcur : ∀ j, j < l0.length → cur[j]? = some (Value.string (l0.getD j ByteArray.empty)) := by
      intro j hj
      have h1 : (cur.toList.take (l0.length * 1))[j]? = some (Value.string (l0.getD j ByteArray.empty)) := by
        rw [htake, hinner, List.getElem?_map, List.getElem?_eq_getElem hj]
        simp [List.getD_eq_getElem?_getD, List.getElem?_eq_getElem hj]
      rw [List.getElem?_take] at h1
      simpa [hj] using h1
    have hH : Holds encStr w g 0 (bytesL l0).toArray := by
      intro j hj
      have hj' : j < l0.length := by simpa [bytesL] using hj
      have hb : (bytesL l0).toArray[j]! = (l0.getD j ByteArray.empty).data.toList := by
        rw [getElem!_pos _ j (by simpa [bytesL] using hj')]
        simp [bytesL, List.getD_eq_getElem?_getD, List.getElem?_eq_getElem hj']
      have hjc : j < cur.size := by rw [hcs]; omega
      constructor
      · rw [Nat.zero_add, hb]
        have : w.cell? ⟨g, j, none⟩ = cur[j]? := by simp [World.cell?, hh]
        rw [this, hcur j hj']
      · simp [World.frozen?, hh]
    have hc := hS g 0 cap (bytesL l0) w hH hglt (by rw [hlen]; exact hsz)
    rw [hlen] at hc
    refine hc.mono ?_
    rintro en w' ⟨rfl, n, os, rfl⟩
    generalize hms : (bytesL l0).mergeSort (fun x y => decide (x ≤ y)) = ms
    have hmsl : ms.length = l0.length := by rw [← hms, List.length_mergeSort, hlen]
    have hheap : ∀ i, i < w.heap.size → i ≠ g → (grow (putRow encStr (Sort.ahead w n) g 0 ms.toArray) os).heap[i]? = w.heap[i]? := by
      intro i hi hne
      have h1 : (putRow encStr (Sort.ahead w n) g 0 ms.toArray).heap.size = w.heap.size := by rw [size_putRow]; rfl
      show ((putRow encStr (Sort.ahead w n) g 0 ms.toArray).heap ++ os)[i]? = _
      rw [Array.getElem?_append_left (by rw [h1]; exact hi)]
      show (w.heap.modify g _)[i]? = _
      rw [Array.getElem?_modify, if_neg (Ne.symm hne)]
    have hgblk : (grow (putRow encStr (Sort.ahead w n) g 0 ms.toArray) os).heap[g]? = some (.cells (putCells encStr 0 ms.toArray cur) e (0, 0)) := by
      have h1 : (putRow encStr (Sort.ahead w n) g 0 ms.toArray).heap.size = w.heap.size := by rw [size_putRow]; rfl
      show ((putRow encStr (Sort.ahead w n) g 0 ms.toArray).heap ++ os)[g]? = _
      rw [Array.getElem?_append_left (by rw [h1]; exact hglt)]
      show (w.heap.modify g _)[g]? = _
      rw [Array.getElem?_modify, if_pos rfl, hh]
      rfl
    have hsort : sortB l0 = ms.map fun b => (⟨b.toArray⟩ : ByteArray) := by rw [← hms]; rfl
    have hsl : (sortB l0).length = l0.length := sortB_length l0
    have hput : (putCells encStr 0 ms.toArray cur).toList.take (l0.length * 1) = (sortB l0).map Value.string := by
      apply List.ext_getElem?
      intro j
      rw [List.getElem?_take, Nat.mul_one, hsort]
      by_cases hj : j < l0.length
      · have hjc : j < cur.size := by rw [hcs]; omega
        rw [if_pos hj]
        have : (putCells encStr 0 ms.toArray cur).toList[j]? = some (encStr ms.toArray[j]!) := by
          rw [Array.getElem?_toList]
          unfold putCells
          rw [Array.getElem?_mapIdx, Array.getElem?_eq_getElem hjc]
          simp [hmsl, hj]
        rw [this, List.getElem?_map, List.getElem?_map, List.getElem?_eq_getElem (by omega)]
        rw [getElem!_pos _ j (by simp; omega)]
        simp [encStr]
      · rw [if_neg hj, List.getElem?_eq_none (by simp; omega)]
    refine ⟨rfl, ⟨fun k hk => .inl (hok k hk), (sortB l0).map Value.string, ⟨(List.length_map _).trans (Nat.mul_one _).symm, .inr ⟨g, cap, putCells encStr 0 ms.toArray cur, by rw [hsl], hg, hgblk, by rw [hsl]; exact hnc, hcm, (show (putCells encStr 0 ms.toArray cur).size = cap * 1 by unfold putCells; rw [Array.size_mapIdx]; exact hcs), by rw [hsl]; exact hput⟩⟩, ?_⟩, ⟨hB.os, hB.tape, hB.output, ?_, fun k hk => ?_⟩, ?_, fun i hi hn => ?_⟩
    · refine ⟨(List.length_map _).trans (Nat.mul_one _).symm, fun j p hj => ?_⟩
      show (((sortB l0).map Value.string).drop (j * 1)).take 1 = [Value.string p]
      have hjl := (List.getElem?_eq_some_iff.1 hj).1
      have hp := (List.getElem?_eq_some_iff.1 hj).2
      rw [Nat.mul_one, ← List.map_drop, List.drop_eq_getElem_cons hjl, hp]
      rfl
    · rw [size_grow, size_putRow]
      exact Nat.le_trans hB.size (Nat.le_add_right _ _)
    · have hk' : k < w.heap.size := Nat.lt_of_lt_of_le hk hB.size
      rw [hheap k hk' (by omega)]
      exact hB.block k hk
    · rw [size_grow, size_putRow]
      exact Nat.le_add_right _ _
    · refine hheap i hi (fun he => hn ?_)
      rw [he]
      exact hok g (by simp [Value.ownBlock])
end Kd
end Go.Proofs.YtmahoekbedgbcaaW.PrintWords
