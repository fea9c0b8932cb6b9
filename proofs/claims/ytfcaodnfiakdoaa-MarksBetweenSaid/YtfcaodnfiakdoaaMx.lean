/- The page's example of marks answers true; no condition. -/
import Derived.Test.YtfcaodnfiakdoaaMw
namespace Go.Proofs.Ytfcaodnfiakdoaa.Mk
open Go.RowKit Go.Proofs.YtfcaodnfiakdoaaW.PrintWords Go.Proofs.YtfcaodnfiakdoaaW.PrintLast Go.Proofs.YtfcaodnfiakdoaaW.PrintMore Go.Proofs.Ytfcaodnfiakdoaa.PMarksPlay
set_option linter.unusedVariables false
set_option linter.unusedSimpArgs false

def exScript : List S34 := [⟨0, 3, 0, false⟩, ⟨0, 3, 0, true⟩, ⟨1, 3, 2, false⟩]
def exCells : Array Value := #[.int .i64 0, .int .i64 3, .int .i64 0, .bool false, .int .i64 0, .int .i64 3, .int .i64 0, .bool true, .int .i64 1, .int .i64 3, .int .i64 2, .bool false]
def exSt : St := ⟨7, 2, [⟨1, 5, false⟩, ⟨2, 3, true⟩]⟩
theorem ex_play : play (fresh 5) (exScript.take 80) = exSt := by kernel_rfl
theorem ex_got1 : got exSt 1 = (⟨1, 5, false⟩, 0) := by kernel_rfl
theorem ex_got2 : got exSt 2 = (⟨2, 3, true⟩, 0) := by kernel_rfl
theorem ex_good : Good 80 exSt := by
  rw [← ex_play]
  exact (play_good (exScript.take 80) (fresh_good (by omega) (by omega))).more (by decide)

theorem ex_reads (w : World) : Kd.C k34 (w.alloc (.cells exCells 34)) (some ⟨w.heap.size, 0, none⟩) exScript.length exScript := by
  refine ⟨rfl, by decide, fun _ => ⟨⟨w.heap.size, 0, none⟩, rfl, fun j p hj => ?_⟩⟩
  have hb : (w.alloc (.cells exCells 34)).heap[w.heap.size]? = some (.cells exCells 34 (0, 0)) := blk_new w _
  refine ⟨_, rfl, k34_mk _ p, fun i u hu => ?_⟩
  rw [addr_add, Nat.zero_add, blk_cell hb]
  have hj3 : j < 3 := (List.getElem?_eq_some_iff.1 hj).1
  have hi4 : i < 4 := (List.getElem?_eq_some_iff.1 hu).1
  match j, hj3 with
  | 0, _ => obtain rfl := Option.some.inj hj; match i, hi4 with
    | 0, _ => exact hu
    | 1, _ => exact hu
    | 2, _ => exact hu
    | 3, _ => exact hu
  | 1, _ => obtain rfl := Option.some.inj hj; match i, hi4 with
    | 0, _ => exact hu
    | 1, _ => exact hu
    | 2, _ => exact hu
    | 3, _ => exact hu
  | 2, _ => obtain rfl := Option.some.inj hj; match i, hi4 with
    | 0, _ => exact hu
    | 1, _ => exact hu
    | 2, _ => exact hu
    | 3, _ => exact hu

set_option maxHeartbeats 4000000 in
set_option maxRecDepth 100000 in
theorem awake_any (w : World) : Calls Try.prog 8 #[] w fun e w' => e = .returned (.bool true) ∧ Below w.heap.size w w' := by
  go_enter Try.func8, Try.ntmps8
  go_wp2_with fail
  have hW : Below w.heap.size w (w.alloc (.cells exCells 34)) := below_alloc (Below.refl _ _) _
  refine (played_any (w.alloc (.cells exCells 34)) 5 (some ⟨w.heap.size, 0, none⟩) 3 exScript (by omega) (by omega) (ex_reads w) (by decide)).mono ?_
  rintro e w1 ⟨g, v', rfl, hG⟩
  rw [ex_play] at hG ⊢
  obtain ⟨A1, n1, c1, rfl⟩ := hG.row.form
  have HG := Aside0.mk hG
  have HB1 := Aside0.mk (show Below w.heap.size w w1 from hW.trans (hG.below.mono (by simp)))
  clear hG hW
  generalize w.alloc (.cells exCells 34) = w0 at *
  go_wp2_with fail
  refine (M_get 1 (HG.out.alloc _).at_ ex_good).mono ?_
  rintro e w2 ⟨rfl, hB2⟩
  rw [ex_got1]
  have HG2 := Aside0.mk ((HG.out.alloc _).below' hB2)
  have HB2 := Aside0.mk (HB1.out.trans ((below_alloc (Below.refl _ _) _).trans (hB2.mono (by simp)) |>.mono HB1.out.size))
  clear hB2
  go_wp2_with fail
  refine (M_get 2 (HG2.out.alloc _).at_ ex_good).mono ?_
  rintro e w3 ⟨rfl, hB3⟩
  rw [ex_got2]
  have HG3 := Aside0.mk ((HG2.out.alloc _).below' hB3)
  have HB3 := Aside0.mk (HB2.out.trans ((below_alloc (Below.refl _ _) _).trans (hB3.mono (by simp)) |>.mono HB2.out.size))
  have hk := blk_below (blk_new w2 (.cells #[.int .i64 1, .int .i64 5, .bool false] 46)) hB3
  have q1 : w3.cell? ⟨w2.heap.size, 1, none⟩ = some (.int .i64 5) := (blk_cell hk 1).trans rfl
  have hlt3 : w2.heap.size < w3.heap.size := blk_lt hk
  clear hk hB3
  go_wp2_with fail
  refine (Size_any _ g _ exSt.size exSt.next exSt.xs (HG3.out.alloc _).at_).mono ?_
  rintro e w4 ⟨rfl, rfl⟩
  go_wp2
  go_ret
  exact ⟨rfl, below_alloc HB3.out _⟩
end Go.Proofs.Ytfcaodnfiakdoaa.Mk
