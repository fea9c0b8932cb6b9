/- The numbers of the marks in a span: what Between answers; no condition beside the bounds that are written. -/
import Derived.Test.YtfcaodnfiakdoaaNd
import Derived.Test.YtfcaodnfiakdoaaNo
namespace Go.Proofs.Ytfcaodnfiakdoaa.Mk
open Go.RowKit Go.Sort Go.Proofs.YtfcaodnfiakdoaaW.PrintWords Go.Proofs.YtfcaodnfiakdoaaW.PrintLast Go.Proofs.YtfcaodnfiakdoaaW.PrintMore Go.Proofs.Ytfcaodnfiakdoaa.PMarksPlay
set_option linter.unusedVariables false
set_option linter.unusedSimpArgs false

theorem info3 : (Try.prog.info? 3).map (fun i => (i.zero, i.size, i.bytes)) = some (some (.int .i64 0), 1, 8) := by kernel_rfl

/-- Does a mark lie in a span? -/
def inSpan (a b : Int) (m : S46) : Bool := decide (a ≤ m.f1) && decide (m.f1 ≤ b)
/-- The numbers of the marks that lie in a span. -/
def told (a b : Int) (xs : List S46) : List Int := (xs.filter (inSpan a b)).map (·.f0)
theorem told_succ (a b : Int) (m : Nat) (xs : List S46) (hm : m < xs.length) :
    told a b (xs.take (m + 1)) = told a b (xs.take m) ++ (if inSpan a b (rd_T46 xs (m : Int)) then [(rd_T46 xs (m : Int)).f0] else []) := by
  unfold told
  have e : rd_T46 xs (m : Int) = xs[m] := by simp [rd_T46, hm]
  rw [List.take_succ_eq_append_getElem hm, List.filter_append, List.map_append, e]
  congr 1
  by_cases h : inSpan a b xs[m] <;> simp [h]
theorem told_yes (a b : Int) (m : Nat) (xs : List S46) (hm : m < xs.length) (h1 : a ≤ (rd_T46 xs (m : Int)).f1) (h2 : (rd_T46 xs (m : Int)).f1 ≤ b) :
    told a b (xs.take (m + 1)) = told a b (xs.take m) ++ [(rd_T46 xs (m : Int)).f0] := by
  rw [told_succ a b m xs hm, if_pos (by simp [inSpan, h1, h2])]
theorem told_no (a b : Int) (m : Nat) (xs : List S46) (hm : m < xs.length) (h : ¬ (a ≤ (rd_T46 xs (m : Int)).f1 ∧ (rd_T46 xs (m : Int)).f1 ≤ b)) :
    told a b (xs.take (m + 1)) = told a b (xs.take m) := by
  rw [told_succ a b m xs hm, if_neg (by simpa [inSpan] using h), List.append_nil]
theorem told_len (a b : Int) (xs : List S46) : (told a b xs).length ≤ xs.length := by
  unfold told; rw [List.length_map]; exact List.length_filter_le _ _

/-- How it stands at the loop's head. -/
structure BtwAt (w2 wr : World) (v : Value) (l : List Int) : Prop where
  row : Kd.R (Kd.int .i64) 3 wr w2.heap.size (fun _ => True) v l
  below : Below w2.heap.size w2 wr

set_option maxHeartbeats 2000000 in
set_option maxRecDepth 100000 in
theorem Between_any (base g : Nat) (w : World) (size next a b : Int) (xs : List S46) (hS : SetAt base w g size next xs) (hl : xs.length ≤ 1000000) (hb : ∀ m ∈ xs, Bounded m) (hr : xs.Pairwise (fun a b => a.f0 < b.f0)) :
    Calls Try.prog 23 #[.pointer (some ⟨g, 0, none⟩), .int .i64 a, .int .i64 b] w fun e w' => ∃ v, e = .returned v ∧ Kd.R (Kd.int .i64) 3 w' w.heap.size (fun _ => True) v (told a b (sortM xs)) ∧ Below w.heap.size w w' := by
  have HALL := Aside0.mk (All_any base g w size next xs hS hl hb hr)
  clear hb hr hS
  go_enter Try.func23, Try.ntmps23
  go_wp2_with fail
  refine HALL.out.mono ?_
  rintro e w2 ⟨v, rfl, hR2, hB2⟩
  have HB2 := Aside0.mk hB2
  obtain ⟨A2, c2, rfl⟩ := Kd.R_slice hR2
  have HC2 := Aside0.mk (Kd.R_reads' hR2).2.2
  have hlen : (sortM xs).length ≤ 1000000 := by unfold sortM; rw [List.length_mergeSort]; exact hl
  clear hR2 hB2 HALL hl
  obtain ⟨ys, hys⟩ : ∃ ys, ys = sortM xs := ⟨_, rfl⟩
  rw [← hys] at HC2 hlen ⊢
  have HYS := Aside0.mk hys
  clear hys
  go_wp2_with fail
  go_loopw [7, 13] (fun v i wr => ∃ m : Nat, m ≤ ys.length ∧ i = .int .i64 m ∧ Aside0 (BtwAt w2 wr v (told a b (ys.take m)))) (fun _ i _ => ys.length - (intOf i).toNat)
  case atStart => exact ⟨0, Nat.zero_le _, rfl, ⟨Kd.R_nil _ _ _ _ _, Below.refl _ _⟩⟩
  case round =>
    obtain ⟨m, hm, rfl, HR⟩ := hrel
    rename_i u7 wr _
    by_cases hlt : m < ys.length
    · obtain ⟨ad, rfl, x0, x1, x2⟩ := at_T46 (Kd.C_below HC2.out HR.out.below) (m : Int) (by omega) (by omega)
      rw [Int.toNat_natCast] at x0 x1 x2
      have HY := Aside0.mk (told_yes a b m ys hlt)
      have HN := Aside0.mk (told_no a b m ys hlt)
      have HL := Aside0.mk (told_len a b (ys.take m))
      generalize rd_T46 ys (m : Int) = q at *
      obtain ⟨q0, q1, q2⟩ := q
      dsimp only at x0 x1 x2
      have HRA := Aside0.mk (Kd.R_below HR.out.row (below_alloc (Below.refl _ _) (.cells #[.int .i64 q0, .int .i64 q1, .bool q2] 46)))
      have HBA := Aside0.mk (below_alloc HR.out.below (.cells #[.int .i64 q0, .int .i64 q1, .bool q2] 46))
      have HSZ := Aside0.mk HR.out.below.size
      have hml : (ys.take m).length ≤ 1000000 := by rw [List.length_take]; omega
      by_cases h1 : a ≤ q1
      · by_cases h2 : q1 ≤ b
        · have HY2 := Aside0.mk (HY.out h1 h2)
          clear HY HN
          go_wp2_with (at_builtin; refine Kd.R_append (Kd.int .i64) (w0 := w2) w2.heap.size rfl (.tmp 27) (.tmp 30) 57 3 _ 8 rfl Try.underlying57 info3 rfl (by decide) (by decide) u7 (told a b (ys.take m)) q0 [.int .i64 q0] (fun _ => True) (fun _ => False) (by simp [Act.eval]) (by simp [Act.eval]) rfl (fun _ h => h.elim) (fun _ _ => trivial) HRA.out HBA.out (by have := HBA.out.size; exact this) (by have := HL.out; omega) ?_; intro v1 w1 hR1 hB1 _ _; have HR1 := Aside0.mk hR1; have HB1 := Aside0.mk hB1; clear hR1 hB1)
          go_roundw
          case rel => exact ⟨m + 1, by omega, by go_num, ⟨⟨by rw [HY2.out]; exact HR1.out, HB1.out⟩⟩⟩
          case measure => simp [intOf]; omega
        · have h2' : b < q1 := by omega
          have HN2 := Aside0.mk (HN.out (fun h => h2 h.2))
          clear HY HN h2
          go_wp2
          go_roundw
          case rel => exact ⟨m + 1, by omega, by go_num, ⟨⟨by rw [HN2.out]; exact HRA.out, HBA.out⟩⟩⟩
          case measure => simp [intOf]; omega
      · have h1' : q1 < a := by omega
        have HN2 := Aside0.mk (HN.out (fun h => h1 h.1))
        clear HY HN h1
        go_wp2
        go_roundw
        case rel => exact ⟨m + 1, by omega, by go_num, ⟨⟨by rw [HN2.out]; exact HRA.out, HBA.out⟩⟩⟩
        case measure => simp [intOf]; omega
    · have hme : m = ys.length := by omega
      have hd : decide ((m : Int) < (ys.length : Int)) = false := by simp; omega
      subst hme
      rw [List.take_length] at HR
      go_wp2
      go_ret
      exact ⟨_, rfl, by rw [← HYS.out]; exact Kd.R_lower HR.out.row HB2.out.size, HB2.out.trans (HR.out.below.mono HB2.out.size)⟩
end Go.Proofs.Ytfcaodnfiakdoaa.Mk
