/- What Delete does to a set of marks; no condition beside the sizes that are written. -/
import Derived.Test.YtfcaodnfiakdoaaMh
namespace Go.Proofs.Ytfcaodnfiakdoaa.Mk
open Go.RowKit Go.Proofs.YtfcaodnfiakdoaaW.PrintWords Go.Proofs.YtfcaodnfiakdoaaW.PrintLast Go.Proofs.YtfcaodnfiakdoaaW.PrintMore Go.Proofs.Ytfcaodnfiakdoaa.PMarksPlay
set_option linter.unusedVariables false
set_option linter.unusedSimpArgs false

/-- What a deletion makes of a mark. -/
def squeeze (frm to_ : Int) (m : S46) : S46 := if to_ ≤ m.f1 then moved m (m.f1 - (to_ - frm)) else if frm < m.f1 then moved m frm else m

set_option maxHeartbeats 1000000 in
set_option maxRecDepth 100000 in
theorem Delete_no (base g : Nat) (w : World) (size next frm to_ : Int) (xs : List S46) (hS : SetAt base w g size next xs) (h : frm < 0 ∨ size < to_ ∨ to_ < frm) :
    Calls Try.prog 20 #[.pointer (some ⟨g, 0, none⟩), .int .i64 frm, .int .i64 to_] w fun e w' => e = .returned (.int .i64 30) ∧ w = w' := by
  obtain ⟨A, c, hblk, hrow, hc, hC, hg, hlt, c0, c1, c2, f0, f1, f2⟩ := hS.open'
  clear hblk hrow hC hS
  by_cases h0 : frm < 0
  · clear h
    go_enter Try.func20, Try.ntmps20
    go_wp2
    go_ret
    exact ⟨rfl, rfl⟩
  · by_cases h1 : size < to_
    · clear h
      go_enter Try.func20, Try.ntmps20
      go_wp2
      go_ret
      exact ⟨rfl, rfl⟩
    · have h2 : to_ < frm := by omega
      clear h
      go_enter Try.func20, Try.ntmps20
      go_wp2
      go_ret
      exact ⟨rfl, rfl⟩

set_option maxHeartbeats 2000000 in
set_option maxRecDepth 100000 in
theorem Delete_yes (w0 w : World) (g : Nat) (size next frm to_ : Int) (xs : List S46) (hB : Below w0.heap.size w0 w) (hS : SetAt w0.heap.size w g size next xs) (hl : xs.length ≤ 1000000) (hF : Fine size xs) (h0 : 0 ≤ frm) (h1 : to_ ≤ size) (h2 : frm ≤ to_) (hs : size ≤ 65536) :
    Calls Try.prog 20 #[.pointer (some ⟨g, 0, none⟩), .int .i64 frm, .int .i64 to_] w fun e w' => e = .returned (.int .i64 0) ∧ SetAt w0.heap.size w' g (size - (to_ - frm)) next (xs.map (squeeze frm to_)) ∧ Below w0.heap.size w0 w' ∧ MKept w w' := by
  obtain ⟨A, c, hblk, hrow, hc, hC, hg, hlt, c0, c1, c2, f0, f1, f2⟩ := hS.open'
  have HF := Aside0.mk hF
  clear hF hC hS
  have hblk1 := blk_put (cs := #[.int .i64 size, .int .i64 next, .slice A xs.length c]) hblk 0 (.int .i64 (size - (to_ - frm))) rfl
  have hrow1 : Kd.R k46 46 (w.setCell ⟨g, 0, none⟩ (.int .i64 (size - (to_ - frm)))) w0.heap.size (fun k => k ≠ g) (.slice A xs.length c) xs := Kd.R_far hrow (fun k hk => hk) _
  have hB1 : Below w0.heap.size w0 (w.setCell ⟨g, 0, none⟩ (.int .i64 (size - (to_ - frm)))) := below_set hB hg
  have hK1 : MKept w (w.setCell ⟨g, 0, none⟩ (.int .i64 (size - (to_ - frm)))) := Kept.setCell (Kept.refl _ _) (.inl (.inr ⟨_, hblk⟩)) _
  have HBLK1 := Aside0.mk hblk1
  have HROW1 := Aside0.mk hrow1
  have HB1 := Aside0.mk hB1
  have HK1 := Aside0.mk hK1
  clear hblk1 hrow1 hB1 hK1 hblk hrow
  go_enter Try.func20, Try.ntmps20
  go_wp2
  rcases Nat.eq_zero_or_pos xs.length with hz | hz
  · have hx : xs = [] := List.eq_nil_of_length_eq_zero hz
    subst hx
    go_loopw [39] (fun i wr => i = .int .i64 0 ∧ wr = w.setCell ⟨g, 0, none⟩ (.int .i64 (size - (to_ - frm)))) (fun _ _ => 0)
    case atStart => exact ⟨rfl, rfl⟩
    case round =>
      obtain ⟨rfl, rfl⟩ := hrel
      go_wp2
      go_ret
      exact ⟨rfl, ⟨hg, _, HBLK1.out, HROW1.out⟩, HB1.out, HK1.out⟩
  · obtain ⟨b, cap, hv, hbb, hbl, hty⟩ := Kd.R_form HROW1.out hz
    injection hv with hv1 hv2 hv3
    subst hv1 hv3
    clear hv2 hty hbl
    have hgb : b ≠ g := fun e => HROW1.out.1 b rfl e
    go_loopw [39] (fun i wr => ∃ k : Nat, k ≤ xs.length ∧ i = .int .i64 k ∧ Aside0 (Round w0 w wr g b c (size - (to_ - frm)) next xs.length (upTo (squeeze frm to_) k xs))) (fun i _ => xs.length - (intOf i).toNat)
    case atStart => exact ⟨0, Nat.zero_le _, rfl, ⟨HB1.out, HK1.out, hg, hbb, hgb, upTo_length _ _ _, HBLK1.out, by rw [upTo_zero]; exact HROW1.out⟩⟩
    case round =>
      obtain ⟨k, hk, rfl, HR⟩ := hrel
      by_cases hlt2 : k < xs.length
      · obtain ⟨r2, x0, x1, x2, xf⟩ := HR.out.cells hlt2
        rw [upTo_rd _ _ _ hlt2] at x0 x1 x2
        have hm : rd_T46 xs k ∈ xs := by
          have e : rd_T46 xs k = xs[k] := by simp [rd_T46, hlt2]
          rw [e]; exact List.getElem_mem hlt2
        have hf0 := (HF.out _ hm).1
        have hf1 := (HF.out _ hm).2
        clear hm
        by_cases q1 : to_ ≤ (rd_T46 xs k).f1
        · have HN := Aside0.mk (HR.out.set hlt2 ((rd_T46 xs k).f1 - (to_ - frm)))
          have HE := Aside0.mk (show upTo (squeeze frm to_) (k + 1) xs = (upTo (squeeze frm to_) k xs).set k (moved (rd_T46 (upTo (squeeze frm to_) k xs) k) ((rd_T46 xs k).f1 - (to_ - frm))) by
            rw [upTo_succ _ _ _ hlt2, upTo_rd _ _ _ hlt2]; congr 1; unfold squeeze; rw [if_pos q1])
          go_wp2
          go_roundw
          case rel => exact ⟨k + 1, by omega, by go_num, ⟨by rw [HE.out]; exact HN.out⟩⟩
          case measure => simp [intOf]; omega
        · by_cases q2 : frm < (rd_T46 xs k).f1
          · have HN := Aside0.mk (HR.out.set hlt2 frm)
            have HE := Aside0.mk (show upTo (squeeze frm to_) (k + 1) xs = (upTo (squeeze frm to_) k xs).set k (moved (rd_T46 (upTo (squeeze frm to_) k xs) k) frm) by
              rw [upTo_succ _ _ _ hlt2, upTo_rd _ _ _ hlt2]; congr 1; unfold squeeze; rw [if_neg q1, if_pos q2])
            go_wp2
            go_roundw
            case rel => exact ⟨k + 1, by omega, by go_num, ⟨by rw [HE.out]; exact HN.out⟩⟩
            case measure => simp [intOf]; omega
          · have HE := Aside0.mk (upTo_same (squeeze frm to_) k xs hlt2 (by unfold squeeze; rw [if_neg q1, if_neg q2]))
            go_wp2
            go_roundw
            case rel => exact ⟨k + 1, by omega, by go_num, ⟨by rw [HE.out]; exact HR.out⟩⟩
            case measure => simp [intOf]; omega
      · have hd : decide ((k : Int) < (xs.length : Int)) = false := by simp; omega
        have hke : k = xs.length := by omega
        have HR2 := Aside0.mk (show Round w0 w wr g b c (size - (to_ - frm)) next xs.length (xs.map (squeeze frm to_)) by rw [← upTo_all, ← hke]; exact hke ▸ HR.out)
        clear hke
        go_wp2
        go_ret
        have hlen : (xs.map (squeeze frm to_)).length = xs.length := List.length_map _
        have hrow3 := HR2.out.row
        rw [hlen] at hrow3
        exact ⟨rfl, ⟨hg, _, HR2.out.blk, hrow3⟩, HR2.out.below, HR2.out.kept⟩

end Go.Proofs.Ytfcaodnfiakdoaa.Mk
