/- What Size, Count and Get tell of a set of marks; no condition beside the length that is written. -/
import Derived.Test.YtfcaodnfiakdoaaMd
namespace Go.Proofs.Ytfcaodnfiakdoaa.Mk
open Go.RowKit Go.Proofs.YtfcaodnfiakdoaaW.PrintWords Go.Proofs.YtfcaodnfiakdoaaW.PrintLast Go.Proofs.YtfcaodnfiakdoaaW.PrintMore Go.Proofs.Ytfcaodnfiakdoaa.PMarksPlay
set_option linter.unusedVariables false
set_option linter.unusedSimpArgs false

/-- The cells of a set that is there. -/
theorem SetAt.open' {base g : Nat} {w : World} {size next : Int} {xs : List S46} (h : SetAt base w g size next xs) :
    ∃ A c, w.heap[g]? = some (.cells #[.int .i64 size, .int .i64 next, .slice A xs.length c] 61 (0, 0)) ∧ Kd.R k46 46 w base (fun k => k ≠ g) (.slice A xs.length c) xs ∧ xs.length ≤ c ∧ Kd.C k46 w A xs.length xs ∧ base ≤ g ∧ g < w.heap.size ∧
      w.cell? ⟨g, 0, none⟩ = some (.int .i64 size) ∧ w.cell? ⟨g, 1, none⟩ = some (.int .i64 next) ∧ w.cell? ⟨g, 2, none⟩ = some (.slice A xs.length c) ∧ w.frozen? ⟨g, 0, none⟩ = false ∧ w.frozen? ⟨g, 1, none⟩ = false ∧ w.frozen? ⟨g, 2, none⟩ = false := by
  obtain ⟨hg, v, hblk, hrow⟩ := h
  obtain ⟨A, c, rfl, hc, hC⟩ := Kd.R_reads hrow
  exact ⟨A, c, hblk, hrow, hc, hC, hg, blk_lt hblk, (blk_cell hblk 0).trans rfl, (blk_cell hblk 1).trans rfl, (blk_cell hblk 2).trans rfl, blk_frozen hblk 0, blk_frozen hblk 1, blk_frozen hblk 2⟩

set_option maxRecDepth 100000 in
theorem Size_any (base g : Nat) (w : World) (size next : Int) (xs : List S46) (hS : SetAt base w g size next xs) :
    Calls Try.prog 18 #[.pointer (some ⟨g, 0, none⟩)] w fun e w' => e = .returned (.int .i64 size) ∧ w = w' := by
  obtain ⟨A, c, hblk, hrow, hc, hC, hg, hlt, c0, c1, c2, f0, f1, f2⟩ := hS.open'
  go_enter Try.func18, Try.ntmps18
  go_wp2
  go_ret
  exact ⟨rfl, rfl⟩

set_option maxRecDepth 100000 in
theorem Count_any (base g : Nat) (w : World) (size next : Int) (xs : List S46) (hS : SetAt base w g size next xs) :
    Calls Try.prog 11 #[.pointer (some ⟨g, 0, none⟩)] w fun e w' => e = .returned (.int .i64 xs.length) ∧ w = w' := by
  obtain ⟨A, c, hblk, hrow, hc, hC, hg, hlt, c0, c1, c2, f0, f1, f2⟩ := hS.open'
  go_enter Try.func11, Try.ntmps11
  go_wp2
  go_ret
  exact ⟨rfl, rfl⟩

set_option maxHeartbeats 1000000 in
set_option maxRecDepth 100000 in
theorem Get_no (base g : Nat) (w : World) (size next id : Int) (xs : List S46) (hS : SetAt base w g size next xs) (hl : xs.length ≤ 1000000) (hp : place xs id = -1) :
    Calls Try.prog 17 #[.pointer (some ⟨g, 0, none⟩), .int .i64 id] w fun e w' => e = .returned (.tuple #[.agg #[.int .i64 0, .int .i64 0, .bool false], .int .i64 160]) ∧ Below w.heap.size w w' := by
  have HP := Aside0.mk hp
  clear hp
  go_enter Try.func17, Try.ntmps17
  go_wp2_with fail
  refine (find_any _ _ g size next id xs (hS.below (below_alloc (Below.refl _ _) _)) hl).mono ?_
  rintro e w2 ⟨rfl, hb⟩
  rw [HP.out]
  have hblk : w2.heap[w.heap.size]? = some (.cells #[.int .i64 0, .int .i64 0, .bool false] 46 (0, 0)) := blk_below (by simpa using heap_alloc_new w _) hb
  have c0 : w2.cell? ⟨w.heap.size, 0, none⟩ = some (.int .i64 0) := (blk_cell hblk 0).trans rfl
  have c1 : w2.cell? ⟨w.heap.size, 1, none⟩ = some (.int .i64 0) := (blk_cell hblk 1).trans rfl
  have c2 : w2.cell? ⟨w.heap.size, 2, none⟩ = some (.bool false) := (blk_cell hblk 2).trans rfl
  have f0 := blk_frozen hblk 0
  have f1 := blk_frozen hblk 1
  have f2 := blk_frozen hblk 2
  have HB := Aside0.mk hb
  have HBK := Aside0.mk hblk
  clear hb hblk
  go_wp2
  refine bodyPost_ret (results_ct rfl _ _ w.heap.size 46 #[.int .i64 0, .int .i64 0, .bool false] (0, 0) _ rfl (by (with_reducible repeat (first | refine blk_drewN ?_ _ | refine blk_drew ?_ | refine blk_alloc ?_ _)); refine blk_put (cs := #[.int .i64 0, .int .i64 0, .bool false]) ?_ 2 _ rfl; refine blk_put (cs := #[.int .i64 0, .int .i64 0, .bool false]) ?_ 1 _ rfl; refine blk_put (cs := #[.int .i64 0, .int .i64 0, .bool false]) ?_ 0 _ rfl; exact HBK.out) Try.underlying46 rfl (by kernel_rfl)) rfl ?_
  exact ⟨rfl, below_set (below_set (below_set ((below_alloc (Below.refl _ _) _).trans (HB.out.mono (by simp))) (Nat.le_refl _)) (Nat.le_refl _)) (Nat.le_refl _)⟩

set_option maxHeartbeats 1000000 in
set_option maxRecDepth 100000 in
theorem Get_yes (base g : Nat) (w : World) (size next id : Int) (k : Nat) (xs : List S46) (hS : SetAt base w g size next xs) (hl : xs.length ≤ 1000000) (hp : place xs id = k) (hk : k < xs.length) :
    Calls Try.prog 17 #[.pointer (some ⟨g, 0, none⟩), .int .i64 id] w fun e w' => e = .returned (.tuple #[.agg #[.int .i64 (rd_T46 xs k).f0, .int .i64 (rd_T46 xs k).f1, .bool (rd_T46 xs k).f2], .int .i64 0]) ∧ Below w.heap.size w w' := by
  have HP := Aside0.mk hp
  clear hp
  go_enter Try.func17, Try.ntmps17
  go_wp2_with fail
  refine (find_any _ _ g size next id xs (hS.below (below_alloc (Below.refl _ _) _)) hl).mono ?_
  rintro e w2 ⟨rfl, hb⟩
  rw [HP.out]
  have hblk : w2.heap[w.heap.size]? = some (.cells #[.int .i64 0, .int .i64 0, .bool false] 46 (0, 0)) := blk_below (by simpa using heap_alloc_new w _) hb
  have c0 : w2.cell? ⟨w.heap.size, 0, none⟩ = some (.int .i64 0) := (blk_cell hblk 0).trans rfl
  have c1 : w2.cell? ⟨w.heap.size, 1, none⟩ = some (.int .i64 0) := (blk_cell hblk 1).trans rfl
  have c2 : w2.cell? ⟨w.heap.size, 2, none⟩ = some (.bool false) := (blk_cell hblk 2).trans rfl
  have f0 := blk_frozen hblk 0
  have f1 := blk_frozen hblk 1
  have f2 := blk_frozen hblk 2
  obtain ⟨A, c, hsb, hrow, hc, hC, hg, hlt, s0, s1, s2, g0, g1, g2⟩ := (SetAt.below (SetAt.below hS (below_alloc (Below.refl _ _) _)) hb).open'
  obtain ⟨ad, rfl, hx0, hx1, hx2⟩ := at_T46 hC (k : Int) (by omega) (by omega)
  rw [Int.toNat_natCast] at hx0 hx1 hx2
  have HB := Aside0.mk hb
  have HBK := Aside0.mk hblk
  clear hb hblk hsb hrow hC
  go_wp2
  refine bodyPost_ret (results_ct rfl _ _ w.heap.size 46 #[.int .i64 (rd_T46 xs k).f0, .int .i64 (rd_T46 xs k).f1, .bool (rd_T46 xs k).f2] (0, 0) _ rfl (by (with_reducible repeat (first | refine blk_drewN ?_ _ | refine blk_drew ?_ | refine blk_alloc ?_ _)); refine blk_put (cs := #[.int .i64 (rd_T46 xs k).f0, .int .i64 (rd_T46 xs k).f1, .bool false]) ?_ 2 _ rfl; refine blk_put (cs := #[.int .i64 (rd_T46 xs k).f0, .int .i64 0, .bool false]) ?_ 1 _ rfl; refine blk_put (cs := #[.int .i64 0, .int .i64 0, .bool false]) ?_ 0 _ rfl; exact HBK.out) Try.underlying46 rfl (by kernel_rfl)) rfl ?_
  exact ⟨rfl, below_set (below_set (below_set ((below_alloc (Below.refl _ _) _).trans (HB.out.mono (by simp))) (Nat.le_refl _)) (Nat.le_refl _)) (Nat.le_refl _)⟩
end Go.Proofs.Ytfcaodnfiakdoaa.Mk
