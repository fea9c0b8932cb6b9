/- The document's Get and All as the plain marks; no condition beside the bounds that are written. -/
import Derived.Test.YtfcaodnfiakdoaaNs
import Derived.Test.YtfcaodnfiakdoaaRg
namespace Go.Proofs.Ytfcaodnfiakdoaa.Mk
open Go.RowKit Go.Proofs.YtfcaodnfiakdoaaW.PrintWords Go.Proofs.YtfcaodnfiakdoaaW.PrintLast Go.Proofs.YtfcaodnfiakdoaaW.PrintMore Go.Proofs.Ytfcaodnfiakdoaa.PMarksPlay
set_option linter.unusedVariables false
set_option linter.unusedSimpArgs false

theorem get_f {B : Int} {s : St} (hG : Good B s) (id : Int) :
    regletref16_Get.f (s.xs.length + 1) s.size s.next (s.xs.map toR) id = some ((got s id).1.f0, (got s id).1.f1, (got s id).1.f2, (got s id).2) := by
  have hl := hG.len
  unfold regletref16_Get.f got
  rw [find_f id s.size s.next s.xs (by omega) _ (by omega)]
  show (if place s.xs id < 0 then _ else _) = _
  by_cases h : place s.xs id < 0
  · rw [if_pos h, if_pos h]
  · rw [if_neg h, if_neg h]
    obtain ⟨k, hk, hlt⟩ := place_nat h
    rw [hk, if_pos (by omega), List.length_map, if_pos (by omega), rd_map _ _ hlt]
    rfl

theorem R_get {w0 w : World} {v : Value} {s : St} {B : Int} (id : Int) (hR : RAt w0 w v s) (hG : Good B s) :
    Calls Try.prog 21 #[.agg #[.int .i64 s.size, .int .i64 s.next, v], .int .i64 id] w fun e w' => e = .returned (.tuple #[.agg #[.int .i64 (got s id).1.f0, .int .i64 (got s id).1.f1, .bool (got s id).1.f2], .int .i64 (got s id).2]) ∧ Below w.heap.size w w' := by
  obtain ⟨A, c, rfl, hc, hC⟩ := Kd.R_reads hR
  exact regletref16_Get.calls _ _ _ A c (s.xs.map toR) id _ _ _ _ w hC hc (get_f hG id)
end Go.Proofs.Ytfcaodnfiakdoaa.Mk
