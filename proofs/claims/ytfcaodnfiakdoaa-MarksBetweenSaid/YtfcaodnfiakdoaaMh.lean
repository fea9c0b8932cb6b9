/- What Insert does to a set of marks; no condition beside the sizes that are written. -/
import Derived.Test.YtfcaodnfiakdoaaMg
namespace Go.Proofs.Ytfcaodnfiakdoaa.Mk
open Go.RowKit Go.Proofs.YtfcaodnfiakdoaaW.PrintWords Go.Proofs.YtfcaodnfiakdoaaW.PrintLast Go.Proofs.YtfcaodnfiakdoaaW.PrintMore Go.Proofs.Ytfcaodnfiakdoaa.PMarksPlay
set_option linter.unusedVariables false
set_option linter.unusedSimpArgs false

set_option maxHeartbeats 1000000 in
set_option maxRecDepth 100000 in
theorem Insert_where (base g : Nat) (w : World) (size next at_ n : Int) (xs : List S46) (hS : SetAt base w g size next xs) (h : at_ < 0 ∨ size < at_) :
    Calls Try.prog 19 #[.pointer (some ⟨g, 0, none⟩), .int .i64 at_, .int .i64 n] w fun e w' => e = .returned (.int .i64 30) ∧ w = w' := by
  obtain ⟨A, c, hblk, hrow, hc, hC, hg, hlt, c0, c1, c2, f0, f1, f2⟩ := hS.open'
  clear hblk hrow hC hS
  by_cases h0 : at_ < 0
  · clear h
    go_enter Try.func19, Try.ntmps19
    go_wp2
    go_ret
    exact ⟨rfl, rfl⟩
  · have h1 : size < at_ := by omega
    clear h
    go_enter Try.func19, Try.ntmps19
    go_wp2
    go_ret
    exact ⟨rfl, rfl⟩

set_option maxHeartbeats 1000000 in
set_option maxRecDepth 100000 in
theorem Insert_neg (base g : Nat) (w : World) (size next at_ n : Int) (xs : List S46) (hS : SetAt base w g size next xs) (h0 : 0 ≤ at_) (h1 : at_ ≤ size) (hn : n < 0) :
    Calls Try.prog 19 #[.pointer (some ⟨g, 0, none⟩), .int .i64 at_, .int .i64 n] w fun e w' => e = .returned (.int .i64 1) ∧ w = w' := by
  obtain ⟨A, c, hblk, hrow, hc, hC, hg, hlt, c0, c1, c2, f0, f1, f2⟩ := hS.open'
  clear hblk hrow hC hS
  go_enter Try.func19, Try.ntmps19
  go_wp2
  go_ret
  exact ⟨rfl, rfl⟩

set_option maxHeartbeats 1000000 in
set_option maxRecDepth 100000 in
theorem Insert_size (base g : Nat) (w : World) (size next at_ n : Int) (xs : List S46) (hS : SetAt base w g size next xs) (h0 : 0 ≤ at_) (h1 : at_ ≤ size) (hs : size ≤ 65536) (hn : 0 ≤ n) (hb : 65536 - size < n) :
    Calls Try.prog 19 #[.pointer (some ⟨g, 0, none⟩), .int .i64 at_, .int .i64 n] w fun e w' => e = .returned (.int .i64 31) ∧ w = w' := by
  obtain ⟨A, c, hblk, hrow, hc, hC, hg, hlt, c0, c1, c2, f0, f1, f2⟩ := hS.open'
  clear hblk hrow hC hS
  go_enter Try.func19, Try.ntmps19
  go_wp2
  go_ret
  exact ⟨rfl, rfl⟩

set_option maxHeartbeats 2000000 in
set_option maxRecDepth 100000 in
theorem Insert_yes (w0 w : World) (g : Nat) (size next at_ n : Int) (xs : List S46) (hB : Below w0.heap.size w0 w) (hS : SetAt w0.heap.size w g size next xs) (hl : xs.length ≤ 1000000) (hF : Fine size xs) (h0 : 0 ≤ at_) (h1 : at_ ≤ size) (hs : size ≤ 65536) (hn : 0 ≤ n) (hb : n ≤ 65536 - size) :
    Calls Try.prog 19 #[.pointer (some ⟨g, 0, none⟩), .int .i64 at_, .int .i64 n] w fun e w' => e = .returned (.int .i64 0) ∧ SetAt w0.heap.size w' g (size + n) next (xs.map (bump at_ n)) ∧ Below w0.heap.size w0 w' ∧ MKept w w' := by
  obtain ⟨A, c, hblk, hrow, hc, hC, hg, hlt, c0, c1, c2, f0, f1, f2⟩ := hS.open'
  have HF := Aside0.mk hF
  clear hF hC hS
  have hblk1 := blk_put (cs := #[.int .i64 size, .int .i64 next, .slice A xs.length c]) hblk 0 (.int .i64 (size + n)) rfl
  have hrow1 : Kd.R k46 46 (w.setCell ⟨g, 0, none⟩ (.int .i64 (size + n))) w0.heap.size (fun k => k ≠ g) (.slice A xs.length c) xs := Kd.R_far hrow (fun k hk => hk) _
  have hB1 : Below w0.heap.size w0 (w.setCell ⟨g, 0, none⟩ (.int .i64 (size + n))) := below_set hB hg
  have hK1 : MKept w (w.setCell ⟨g, 0, none⟩ (.int .i64 (size + n))) := Kept.setCell (Kept.refl _ _) (.inl (.inr ⟨_, hblk⟩)) _
  have HBLK1 := Aside0.mk hblk1
  have HROW1 := Aside0.mk hrow1
  have HB1 := Aside0.mk hB1
  have HK1 := Aside0.mk hK1
  clear hblk1 hrow1 hB1 hK1 hblk hrow
  go_enter Try.func19, Try.ntmps19
  go_wp2
  rcases Nat.eq_zero_or_pos xs.length with hz | hz
  · have hx : xs = [] := List.eq_nil_of_length_eq_zero hz
    subst hx
    go_loopw [44] (fun i wr => i = .int .i64 0 ∧ wr = w.setCell ⟨g, 0, none⟩ (.int .i64 (size + n))) (fun _ _ => 0)
    case atStart => exact ⟨rfl, rfl⟩
    case round =>
      obtain ⟨rfl, rfl⟩ := hrel
      go_wp2
      go_ret
      exact ⟨rfl, ⟨hg, _, HBLK1.out, HROW1.out⟩, HB1.out, HK1.out⟩
  · obtain ⟨b, cap, hv, hbb, hbl, hty⟩ := Kd.R_form HROW1.out hz
    injection hv with hv1 hv2 hv3
    subst hv1 hv3
    clear hv2 hty hbl
    have hgb : b ≠ g := fun e => HROW1.out.1 b rfl e
    go_loopw [44] (fun i wr => ∃ k : Nat, k ≤ xs.length ∧ i = .int .i64 k ∧ Aside0 (Round w0 w wr g b c (size + n) next xs.length (upTo (bump at_ n) k xs))) (fun i _ => xs.length - (intOf i).toNat)
    case atStart => exact ⟨0, Nat.zero_le _, rfl, ⟨HB1.out, HK1.out, hg, hbb, hgb, upTo_length _ _ _, HBLK1.out, by rw [upTo_zero]; exact HROW1.out⟩⟩
    case round =>
      obtain ⟨k, hk, rfl, HR⟩ := hrel
      by_cases hlt2 : k < xs.length
      · obtain ⟨r2, x0, x1, x2, xf⟩ := HR.out.cells hlt2
        rw [upTo_rd _ _ _ hlt2] at x0 x1 x2
        have hm : rd_T46 xs k ∈ xs := by
          have e : rd_T46 xs k = xs[k] := by simp [rd_T46, hlt2]
          rw [e]; exact List.getElem_mem hlt2
        have hf0 := (HF.out _ hm).1
        have hf1 := (HF.out _ hm).2
        clear hm
        by_cases q1 : at_ < (rd_T46 xs k).f1
        · have HN := Aside0.mk (HR.out.set hlt2 ((rd_T46 xs k).f1 + n))
          have HE := Aside0.mk (show upTo (bump at_ n) (k + 1) xs = (upTo (bump at_ n) k xs).set k (moved (rd_T46 (upTo (bump at_ n) k xs) k) ((rd_T46 xs k).f1 + n)) by
            rw [upTo_succ _ _ _ hlt2, upTo_rd _ _ _ hlt2]; congr 1; unfold bump; rw [if_pos (.inl q1)])
          go_wp2
          go_roundw
          case rel => exact ⟨k + 1, by omega, by go_num, ⟨by rw [HE.out]; exact HN.out⟩⟩
          case measure => simp [intOf]; omega
        · have q1' : (rd_T46 xs k).f1 ≤ at_ := by omega
          have HD := Aside0.mk (show ¬ at_ < (rd_T46 xs k).f1 from q1)
          by_cases q2 : (rd_T46 xs k).f1 = at_
          · have q2b : ((rd_T46 xs k).f1 == at_) = true := by simpa using q2
            have Q2 := Aside0.mk q2
            clear q2 q1
            cases q3 : (rd_T46 xs k).f2
            · have HN := Aside0.mk (HR.out.set hlt2 ((rd_T46 xs k).f1 + n))
              have HE := Aside0.mk (show upTo (bump at_ n) (k + 1) xs = (upTo (bump at_ n) k xs).set k (moved (rd_T46 (upTo (bump at_ n) k xs) k) ((rd_T46 xs k).f1 + n)) by
                rw [upTo_succ _ _ _ hlt2, upTo_rd _ _ _ hlt2]; congr 1; unfold bump; rw [if_pos (.inr ⟨Q2.out, q3⟩)])
              go_wp2
              go_roundw
              case rel => exact ⟨k + 1, by omega, by go_num, ⟨by rw [HE.out]; exact HN.out⟩⟩
              case measure => simp [intOf]; omega
            · have HE := Aside0.mk (upTo_same (bump at_ n) k xs hlt2 (by unfold bump; rw [if_neg (by rw [q3]; rintro (h | ⟨_, h⟩); exact HD.out h; cases h)]))
              go_wp2
              go_roundw
              case rel => exact ⟨k + 1, by omega, by go_num, ⟨by rw [HE.out]; exact HR.out⟩⟩
              case measure => simp [intOf]; omega
          · have q2b : ((rd_T46 xs k).f1 == at_) = false := by simpa using q2
            have HE := Aside0.mk (upTo_same (bump at_ n) k xs hlt2 (by unfold bump; rw [if_neg (by rintro (h | ⟨h, _⟩); exact HD.out h; exact q2 h)]))
            clear q2
            go_wp2
            go_roundw
            case rel => exact ⟨k + 1, by omega, by go_num, ⟨by rw [HE.out]; exact HR.out⟩⟩
            case measure => simp [intOf]; omega
      · have hd : decide ((k : Int) < (xs.length : Int)) = false := by simp; omega
        have hke : k = xs.length := by omega
        have HR2 := Aside0.mk (show Round w0 w wr g b c (size + n) next xs.length (xs.map (bump at_ n)) by rw [← upTo_all, ← hke]; exact hke ▸ HR.out)
        clear hke
        go_wp2
        go_ret
        have hlen : (xs.map (bump at_ n)).length = xs.length := List.length_map _
        have hrow3 := HR2.out.row
        rw [hlen] at hrow3
        exact ⟨rfl, ⟨hg, _, HR2.out.blk, hrow3⟩, HR2.out.below, HR2.out.kept⟩

end Go.Proofs.Ytfcaodnfiakdoaa.Mk
