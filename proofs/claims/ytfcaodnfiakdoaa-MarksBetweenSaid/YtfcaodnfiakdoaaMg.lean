/- Marks that are written one by one: plain lists, and the rows in memory; no condition. -/
import Derived.Test.YtfcaodnfiakdoaaMf
namespace Go.Proofs.Ytfcaodnfiakdoaa.Mk
open Go.RowKit Go.Proofs.YtfcaodnfiakdoaaW.PrintWords Go.Proofs.YtfcaodnfiakdoaaW.PrintLast Go.Proofs.YtfcaodnfiakdoaaW.PrintMore Go.Proofs.Ytfcaodnfiakdoaa.PMarksPlay
set_option linter.unusedVariables false
set_option linter.unusedSimpArgs false

/-- Every mark lies within the text. -/
def Fine (size : Int) (xs : List S46) : Prop := ∀ m ∈ xs, 0 ≤ m.f1 ∧ m.f1 ≤ size
/-- What an insertion makes of a mark. -/
def bump (at_ n : Int) (m : S46) : S46 := if at_ < m.f1 ∨ (m.f1 = at_ ∧ m.f2 = false) then moved m (m.f1 + n) else m
/-- The first k marks done. -/
def upTo (f : S46 → S46) (k : Nat) (xs : List S46) : List S46 := (xs.take k).map f ++ xs.drop k
theorem upTo_length (f : S46 → S46) (k : Nat) (xs : List S46) : (upTo f k xs).length = xs.length := by simp [upTo]; omega
theorem upTo_zero (f : S46 → S46) (xs : List S46) : upTo f 0 xs = xs := by simp [upTo]
theorem upTo_all (f : S46 → S46) (xs : List S46) : upTo f xs.length xs = xs.map f := by simp [upTo]
theorem upTo_rd (f : S46 → S46) (k : Nat) (xs : List S46) (hk : k < xs.length) : rd_T46 (upTo f k xs) k = rd_T46 xs k := by
  have h : (upTo f k xs)[k]? = xs[k]? := by
    rw [upTo, List.getElem?_append_right (by simp; omega)]
    simp [List.getElem?_drop, Nat.min_eq_left (Nat.le_of_lt hk)]
  simp [rd_T46, List.getD_eq_getElem?_getD, h]
theorem upTo_succ (f : S46 → S46) (k : Nat) (xs : List S46) (hk : k < xs.length) : upTo f (k + 1) xs = (upTo f k xs).set k (f (rd_T46 xs k)) := by
  have e : rd_T46 xs k = xs[k] := by simp [rd_T46, hk]
  rw [e]
  apply List.ext_getElem?
  intro i
  rw [List.getElem?_set]
  simp only [upTo_length]
  by_cases hi : k = i
  · subst hi
    rw [if_pos rfl, if_pos hk, upTo, List.getElem?_append_left (by simp; omega)]
    simp [hk]
  · rw [if_neg hi]
    unfold upTo
    rcases Nat.lt_or_ge i k with h | h
    · rw [List.getElem?_append_left (by simp; omega), List.getElem?_append_left (by simp; omega)]
      simp [List.getElem?_take, h, Nat.lt_succ_of_lt h]
    · rw [List.getElem?_append_right (by simp; omega), List.getElem?_append_right (by simp; omega)]
      simp [List.getElem?_drop, Nat.min_eq_left (Nat.le_of_lt hk), Nat.min_eq_left hk]
      congr 1
      omega
theorem upTo_same (f : S46 → S46) (k : Nat) (xs : List S46) (hk : k < xs.length) (h : f (rd_T46 xs k) = rd_T46 xs k) : upTo f (k + 1) xs = upTo f k xs := by
  rw [upTo_succ f k xs hk, h, ← upTo_rd f k xs hk]
  have e : rd_T46 (upTo f k xs) k = (upTo f k xs)[k]'(by rw [upTo_length]; exact hk) := by simp [rd_T46, upTo_length, hk]
  rw [e, List.set_getElem_self]

/-- How it stands at a round's head: the set's block, its row's, the marks ahead done. -/
structure Round (w0 w wr : World) (g b c : Nat) (size next : Int) (n : Nat) (xs : List S46) : Prop where
  below : Below w0.heap.size w0 wr
  kept : MKept w wr
  ge : w0.heap.size ≤ g
  hb : w0.heap.size ≤ b
  ne : b ≠ g
  len : xs.length = n
  blk : wr.heap[g]? = some (.cells #[.int .i64 size, .int .i64 next, .slice (some ⟨b, 0, none⟩) n c] 61 (0, 0))
  row : Kd.R k46 46 wr w0.heap.size (fun k => k ≠ g) (.slice (some ⟨b, 0, none⟩) xs.length c) xs

theorem Round.set {w0 w wr : World} {g b c : Nat} {size next : Int} {n k : Nat} {xs : List S46} (h : Round w0 w wr g b c size next n xs) (hk : k < n) (a : Int) :
    Round w0 w (wr.setCell ⟨b, k * 3 + 1, none⟩ (.int .i64 a)) g b c size next n (xs.set k (moved (rd_T46 xs k) a)) where
  below := below_set h.below h.hb
  kept := by
    obtain ⟨cells, hc⟩ := Kd.R_typed h.row b rfl
    exact MKept.set h.kept (.inl ⟨cells, hc⟩) _
  ge := h.ge
  hb := h.hb
  ne := h.ne
  len := by rw [List.length_set]; exact h.len
  blk := blk_far (p := ⟨b, k * 3 + 1, none⟩) h.blk (fun e => h.ne e.symm) _
  row := by rw [List.length_set]; exact R46_put h.row (by rw [h.len]; exact hk) a

theorem Round.cells {w0 w wr : World} {g b c : Nat} {size next : Int} {n k : Nat} {xs : List S46} (h : Round w0 w wr g b c size next n xs) (hk : k < n) :
    wr.cell? ⟨g, 2, none⟩ = some (.slice (some ⟨b, 0, none⟩) n c) ∧ wr.cell? ⟨b, k * 3, none⟩ = some (.int .i64 (rd_T46 xs k).f0) ∧ wr.cell? ⟨b, k * 3 + 1, none⟩ = some (.int .i64 (rd_T46 xs k).f1) ∧ wr.cell? ⟨b, k * 3 + 2, none⟩ = some (.bool (rd_T46 xs k).f2) ∧ wr.frozen? ⟨b, k * 3 + 1, none⟩ = false := by
  obtain ⟨A, c', hv, hc, hC⟩ := Kd.R_reads h.row
  injection hv with e1 e2 e3
  subst e1
  obtain ⟨ad, he, hx0, hx1, hx2⟩ := at_T46 hC (k : Int) (by omega) (by have := h.len; omega)
  injection he with he
  subst he
  rw [Int.toNat_natCast, addr_add, Nat.zero_add] at hx0 hx1 hx2
  obtain ⟨cells, hcl⟩ := Kd.R_typed h.row b rfl
  exact ⟨(blk_cell h.blk 2).trans rfl, hx0, hx1, hx2, blk_frozen hcl _⟩

end Go.Proofs.Ytfcaodnfiakdoaa.Mk
