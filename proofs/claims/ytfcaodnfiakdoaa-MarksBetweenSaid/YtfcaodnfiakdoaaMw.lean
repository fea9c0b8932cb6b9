/- Calls in a row at both sets of marks; no condition beside the text's size. -/
import Derived.Test.YtfcaodnfiakdoaaMv
namespace Go.Proofs.Ytfcaodnfiakdoaa.Mk
open Go.RowKit Go.Proofs.YtfcaodnfiakdoaaW.PrintWords Go.Proofs.YtfcaodnfiakdoaaW.PrintLast Go.Proofs.YtfcaodnfiakdoaaW.PrintMore Go.Proofs.Ytfcaodnfiakdoaa.PMarksPlay
set_option linter.unusedVariables false
set_option linter.unusedSimpArgs false

theorem closeA {w w2 : World} {g z5 z6 : Nat} {s : St} {v a b c : Value} {o5 : Obj} (h : Going w w2 g s v) (h6 : w2.heap[z6]? = some (.cells #[a, b, c] 38 (0, 0))) (h5 : w2.heap[z5]? = some o5) (hz : w.heap.size ≤ z6) (hne : z5 ≠ z6) (o : Obj) :
    Going w ((((w2.setCell ⟨z6, 0, none⟩ (.int .i64 s.size)).setCell ⟨z6, 1, none⟩ (.int .i64 s.next)).setCell ⟨z6, 2, none⟩ v).alloc o) g s v ∧ ((((w2.setCell ⟨z6, 0, none⟩ (.int .i64 s.size)).setCell ⟨z6, 1, none⟩ (.int .i64 s.next)).setCell ⟨z6, 2, none⟩ v).alloc o).heap[z5]? = some o5 ∧ ((((w2.setCell ⟨z6, 0, none⟩ (.int .i64 s.size)).setCell ⟨z6, 1, none⟩ (.int .i64 s.next)).setCell ⟨z6, 2, none⟩ v).alloc o).heap[z6]? = some (.cells #[.int .i64 s.size, .int .i64 s.next, v] 38 (0, 0)) :=
  ⟨(h.set3 h6 hz _ _ _).alloc o, blk_alloc (set3_far h5 hne _ _ _) o, blk_alloc (set3_blk h6 _ _ _) o⟩

theorem closeB {w w2 : World} {g z5 z6 m : Nat} {s : St} {v a b c : Value} {o5 : Obj} (h : Going w w2 g s v) (h6 : w2.heap[z6]? = some (.cells #[a, b, c] 38 (0, 0))) (h5 : w2.heap[z5]? = some o5) (hm : w2.heap[m]? = some (.cells #[.int .i64 0, .int .i64 0, .slice none 0 0] 38 (0, 0))) (hz : w.heap.size ≤ z6) (hne : z5 ≠ z6) (hzm : w.heap.size ≤ m) (h5m : z5 ≠ m) (h6m : z6 ≠ m) :
    Going w ((((((w2.setCell ⟨m, 0, none⟩ (.int .i64 s.size)).setCell ⟨m, 1, none⟩ (.int .i64 s.next)).setCell ⟨m, 2, none⟩ v).setCell ⟨z6, 0, none⟩ (.int .i64 s.size)).setCell ⟨z6, 1, none⟩ (.int .i64 s.next)).setCell ⟨z6, 2, none⟩ v) g s v ∧ ((((((w2.setCell ⟨m, 0, none⟩ (.int .i64 s.size)).setCell ⟨m, 1, none⟩ (.int .i64 s.next)).setCell ⟨m, 2, none⟩ v).setCell ⟨z6, 0, none⟩ (.int .i64 s.size)).setCell ⟨z6, 1, none⟩ (.int .i64 s.next)).setCell ⟨z6, 2, none⟩ v).heap[z5]? = some o5 ∧ ((((((w2.setCell ⟨m, 0, none⟩ (.int .i64 s.size)).setCell ⟨m, 1, none⟩ (.int .i64 s.next)).setCell ⟨m, 2, none⟩ v).setCell ⟨z6, 0, none⟩ (.int .i64 s.size)).setCell ⟨z6, 1, none⟩ (.int .i64 s.next)).setCell ⟨z6, 2, none⟩ v).heap[z6]? = some (.cells #[.int .i64 s.size, .int .i64 s.next, v] 38 (0, 0)) :=
  ⟨(h.set3 hm hzm _ _ _).set3 (set3_far h6 h6m _ _ _) hz _ _ _, set3_far (set3_far h5 h5m _ _ _) hne _ _ _, set3_blk (set3_far h6 h6m _ _ _) _ _ _⟩

set_option maxHeartbeats 4000000 in
set_option maxRecDepth 100000 in
theorem played_any (w : World) (n : Int) (A : Option Addr) (c : Nat) (l : List S34) (h0 : 0 ≤ n) (h1 : n ≤ 65536) (hC : Kd.C k34 w A l.length l) (hl : l.length ≤ 140737488351232) :
    Calls Try.prog 14 #[.int .i64 n, .slice A l.length c] w fun e w' => ∃ g v', e = .returned (.tuple #[.pointer (some ⟨g, 0, none⟩), .agg #[.int .i64 (play (fresh n) (l.take 80)).size, .int .i64 (play (fresh n) (l.take 80)).next, v']]) ∧ Going w w' g (play (fresh n) (l.take 80)) v' := by
  have HC := Aside0.mk hC
  clear hC
  go_enter Try.func14, Try.ntmps14
  go_wp2_with fail
  refine (New_yes n h0 h1 _).mono ?_
  rintro e W3 ⟨rfl, hW3⟩
  simp only [World.size_alloc] at hW3 ⊢
  have hB3 : Below w.heap.size w W3 := by rw [hW3]; exact below_alloc (below_alloc (below_alloc (Below.refl _ _) _) _) _
  have hk5 : W3.heap[w.heap.size]? = some (.cells #[.int .i64 0, .int .i64 0, .slice none 0 0] 38 (0, 0)) := by rw [hW3]; exact blk_alloc (blk_alloc (by simpa using heap_alloc_new w _) _) _
  have hk6 : W3.heap[w.heap.size + 1]? = some (.cells #[.int .i64 n, .int .i64 0, .slice none 0 0] 38 (0, 0)) := by rw [hW3]; exact blk_alloc (by simpa using heap_alloc_new (w.alloc _) _) _
  have hk7 : W3.heap[w.heap.size + 1 + 1]? = some (.cells #[.int .i64 n, .int .i64 0, .slice none 0 0] 61 (0, 0)) := by rw [hW3]; simpa using heap_alloc_new ((w.alloc _).alloc _) _
  have hgo : Going w W3 (w.heap.size + 1 + 1) (fresh n) (.slice none 0 0) := ⟨hB3, ⟨by omega, _, hk7, Kd.R_nil _ _ _ _ _⟩, Kd.R_nil _ _ _ _ _⟩
  have HGO := Aside0.mk hgo
  have HK5 := Aside0.mk hk5
  have HK6 := Aside0.mk hk6
  clear hW3 hB3 hk5 hk6 hk7 hgo
  go_wp2
  generalize hz : w.heap.size + 1 + 1 = z7 at *
  generalize hy : w.heap.size + 1 = z6 at *
  generalize hx : w.heap.size = z5 at *
  have HZ := Aside0.mk hz
  have HY := Aside0.mk hy
  have HX := Aside0.mk hx
  clear hz hy hx
  go_loopw [9] (fun i wr => ∃ (k : Nat) (v : Value), k ≤ l.length ∧ k ≤ 80 ∧ i = .int .i64 k ∧ Aside0 (Going w wr z7 (play (fresh n) (l.take k)) v) ∧ Aside0 (wr.heap[z5]? = some (.cells #[.int .i64 0, .int .i64 0, .slice none 0 0] 38 (0, 0))) ∧ Aside0 (wr.heap[z6]? = some (.cells #[.int .i64 (play (fresh n) (l.take k)).size, .int .i64 (play (fresh n) (l.take k)).next, v] 38 (0, 0)))) (fun i _ => 80 - (intOf i).toNat)
  case atStart => exact ⟨0, _, Nat.zero_le _, by omega, rfl, HGO, HK5, HK6⟩
  case round =>
    obtain ⟨k, v, hk, hk80, rfl, HG, H5, H6⟩ := hrel
    have HGood := Aside0.mk (show Good 80 (play (fresh n) (l.take k)) from (play_good (l.take k) (fresh_good h0 h1)).more (by simp; omega))
    obtain ⟨A6, n6, c6, hv⟩ := HG.out.row.form
    subst hv
    have HT := Aside0.mk (show (l.take k).length = k by simp; omega)
    by_cases hlt : k < l.length
    · by_cases hlt8 : k < 80
      · have HS := Aside0.mk (play_succ (fresh n) l k hlt)
        generalize hs : play (fresh n) (l.take k) = s at *
        clear hs
        obtain ⟨ad, he, hx0, hx1, hx2, hx3⟩ := at_T34 (Kd.C_below HC.out (by rw [HX.out]; have := HG.out.below; rw [HX.out] at this; exact this)) (k : Int) (by omega) (by omega)
        subst he
        rw [Int.toNat_natCast] at hx0 hx1 hx2 hx3
        have y0 : wr.cell? ⟨z6, 0, none⟩ = some (.int .i64 s.size) := (blk_cell H6.out 0).trans rfl
        have y1 : wr.cell? ⟨z6, 1, none⟩ = some (.int .i64 s.next) := (blk_cell H6.out 1).trans rfl
        have y2 : wr.cell? ⟨z6, 2, none⟩ = some (.slice A6 n6 c6) := (blk_cell H6.out 2).trans rfl
        have hlt6 : z6 < wr.heap.size := blk_lt H6.out
        have hlt5 : z5 < wr.heap.size := blk_lt H5.out
        have hlb : (ad.add (k * 4)).block < wr.heap.size := World.block_lt_of_cell? wr _ hx0
        have hi0 : (0 : Int) ≤ (k : Int) := by omega
        have hi1 : (k : Int) < (l.length : Int) := by omega
        go_wp2
        go_region_with (first | (refine (step_going HG.out.drew (rd_T34 l k) HGood.out (by omega)).mono ?_; rintro e w2 ⟨v', rfl, hG2, hA2⟩; have hbk : w2.heap[z6]? = some (.cells #[.int .i64 s.size, .int .i64 s.next, .slice A6 n6 c6] 38 (0, 0)) := hA2.blk H6.out (by decide) (by decide) (by decide); have hb5 : w2.heap[z5]? = some (.cells #[.int .i64 0, .int .i64 0, .slice none 0 0] 38 (0, 0)) := hA2.blk H5.out (by decide) (by decide) (by decide); have hm : True := trivial; have p0 : w2.cell? ⟨z6, 0, none⟩ = some (.int .i64 s.size) := (blk_cell hbk 0).trans rfl; have p1 : w2.cell? ⟨z6, 1, none⟩ = some (.int .i64 s.next) := (blk_cell hbk 1).trans rfl; have p2 : w2.cell? ⟨z6, 2, none⟩ = some (.slice A6 n6 c6) := (blk_cell hbk 2).trans rfl; have f0 := blk_frozen hbk 0; have f1 := blk_frozen hbk 1; have f2 := blk_frozen hbk 2; have hlt62 : z6 < w2.heap.size := blk_lt hbk; have HG2 := Aside0.mk hG2; have HBK := Aside0.mk hbk; have HB5 := Aside0.mk hb5; obtain ⟨A9, n9, c9, hv9⟩ := hG2.row.form; subst hv9; clear hbk hb5 hG2 hA2) | (refine (step_going (HG.out.alloc _).drew (rd_T34 l k) HGood.out (by omega)).mono ?_; rintro e w2 ⟨v', rfl, hG2, hA2⟩; have hbk : w2.heap[z6]? = some (.cells #[.int .i64 s.size, .int .i64 s.next, .slice A6 n6 c6] 38 (0, 0)) := hA2.blk (blk_alloc H6.out _) (by decide) (by decide) (by decide); have hb5 : w2.heap[z5]? = some (.cells #[.int .i64 0, .int .i64 0, .slice none 0 0] 38 (0, 0)) := hA2.blk (blk_alloc H5.out _) (by decide) (by decide) (by decide); have hm : w2.heap[wr.heap.size]? = some (.cells #[.int .i64 0, .int .i64 0, .slice none 0 0] 38 (0, 0)) := hA2.blk (blk_drew (blk_new wr _)) (by decide) (by decide) (by decide); have p0 : w2.cell? ⟨z6, 0, none⟩ = some (.int .i64 s.size) := (blk_cell hbk 0).trans rfl; have p1 : w2.cell? ⟨z6, 1, none⟩ = some (.int .i64 s.next) := (blk_cell hbk 1).trans rfl; have p2 : w2.cell? ⟨z6, 2, none⟩ = some (.slice A6 n6 c6) := (blk_cell hbk 2).trans rfl; have f0 := blk_frozen hbk 0; have f1 := blk_frozen hbk 1; have f2 := blk_frozen hbk 2; have m0 : w2.cell? ⟨wr.heap.size, 0, none⟩ = some (.int .i64 0) := (blk_cell hm 0).trans rfl; have m1 : w2.cell? ⟨wr.heap.size, 1, none⟩ = some (.int .i64 0) := (blk_cell hm 1).trans rfl; have m2 : w2.cell? ⟨wr.heap.size, 2, none⟩ = some (.slice none 0 0) := (blk_cell hm 2).trans rfl; have d0 := blk_frozen hm 0; have d1 := blk_frozen hm 1; have d2 := blk_frozen hm 2; have hlt62 : z6 < w2.heap.size := blk_lt hbk; have HG2 := Aside0.mk hG2; have HBK := Aside0.mk hbk; have HB5 := Aside0.mk hb5; have HM := Aside0.mk hm; obtain ⟨A9, n9, c9, hv9⟩ := hG2.row.form; subst hv9; clear hbk hb5 hG2 hA2 hm))
        all_goals
          go_wp2
          go_roundw
          case rel =>
            first
            | (have c := closeB HG2.out HBK.out HB5.out HM.out (by have := HX.out; have := HY.out; omega) (by have := HY.out; omega) (by have := HX.out; omega) (by omega) (by omega); exact ⟨k + 1, _, by omega, by omega, by go_num, ⟨by rw [HS.out]; exact c.1⟩, ⟨c.2.1⟩, ⟨by rw [HS.out]; exact c.2.2⟩⟩)
            | (have c := closeA HG2.out HBK.out HB5.out (by have := HX.out; have := HY.out; omega) (by have := HY.out; omega) (.cells #[.int .i64 (act s (rd_T34 l k)).size, .int .i64 (act s (rd_T34 l k)).next, .slice A9 n9 c9] 38); exact ⟨k + 1, _, by omega, by omega, by go_num, ⟨by rw [HS.out]; exact c.1⟩, ⟨c.2.1⟩, ⟨by rw [HS.out]; exact c.2.2⟩⟩)
          case measure => simp [intOf]; omega
      · have hd : decide ((k : Int) < 80) = false := by simp; omega
        have HP := Aside0.mk (show play (fresh n) (l.take 80) = play (fresh n) (l.take k) by rw [show k = 80 by omega])
        generalize hs : play (fresh n) (l.take k) = s at *
        clear hs
        have y0 : wr.cell? ⟨z6, 0, none⟩ = some (.int .i64 s.size) := (blk_cell H6.out 0).trans rfl
        have y1 : wr.cell? ⟨z6, 1, none⟩ = some (.int .i64 s.next) := (blk_cell H6.out 1).trans rfl
        have y2 : wr.cell? ⟨z6, 2, none⟩ = some (.slice A6 n6 c6) := (blk_cell H6.out 2).trans rfl
        have x0 : wr.cell? ⟨z5, 0, none⟩ = some (.int .i64 0) := (blk_cell H5.out 0).trans rfl
        have x1 : wr.cell? ⟨z5, 1, none⟩ = some (.int .i64 0) := (blk_cell H5.out 1).trans rfl
        have x2 : wr.cell? ⟨z5, 2, none⟩ = some (.slice none 0 0) := (blk_cell H5.out 2).trans rfl
        have d0 := blk_frozen H5.out 0
        have d1 := blk_frozen H5.out 1
        have d2 := blk_frozen H5.out 2
        go_wp2
        go_region
        all_goals
          go_wp2
          refine bodyPost_ret (results_tc rfl _ _ z5 38 #[.int .i64 s.size, .int .i64 s.next, .slice A6 n6 c6] (0, 0) _ rfl (by (with_reducible repeat (first | refine blk_drewN ?_ _ | refine blk_drew ?_ | refine blk_alloc ?_ _)); exact set3_blk H5.out _ _ _) Try.underlying38 rfl (by kernel_rfl)) rfl ?_
          rw [HP.out]
          exact ⟨z7, _, rfl, (HG.out.set3 H5.out (by rw [HX.out]; exact Nat.le_refl _) _ _ _).drew⟩
    · have hd : decide ((k : Int) < (l.length : Int)) = false := by simp; omega
      have HP := Aside0.mk (show play (fresh n) (l.take 80) = play (fresh n) (l.take k) by rw [List.take_of_length_le (by omega), List.take_of_length_le (by omega)])
      generalize hs : play (fresh n) (l.take k) = s at *
      clear hs
      have y0 : wr.cell? ⟨z6, 0, none⟩ = some (.int .i64 s.size) := (blk_cell H6.out 0).trans rfl
      have y1 : wr.cell? ⟨z6, 1, none⟩ = some (.int .i64 s.next) := (blk_cell H6.out 1).trans rfl
      have y2 : wr.cell? ⟨z6, 2, none⟩ = some (.slice A6 n6 c6) := (blk_cell H6.out 2).trans rfl
      have x0 : wr.cell? ⟨z5, 0, none⟩ = some (.int .i64 0) := (blk_cell H5.out 0).trans rfl
      have x1 : wr.cell? ⟨z5, 1, none⟩ = some (.int .i64 0) := (blk_cell H5.out 1).trans rfl
      have x2 : wr.cell? ⟨z5, 2, none⟩ = some (.slice none 0 0) := (blk_cell H5.out 2).trans rfl
      have d0 := blk_frozen H5.out 0
      have d1 := blk_frozen H5.out 1
      have d2 := blk_frozen H5.out 2
      go_wp2
      go_region
      all_goals
        go_wp2
        refine bodyPost_ret (results_tc rfl _ _ z5 38 #[.int .i64 s.size, .int .i64 s.next, .slice A6 n6 c6] (0, 0) _ rfl (by (with_reducible repeat (first | refine blk_drewN ?_ _ | refine blk_drew ?_ | refine blk_alloc ?_ _)); exact set3_blk H5.out _ _ _) Try.underlying38 rfl (by kernel_rfl)) rfl ?_
        rw [HP.out]
        exact ⟨z7, _, rfl, (HG.out.set3 H5.out (by rw [HX.out]; exact Nat.le_refl _) _ _ _).drew⟩
end Go.Proofs.Ytfcaodnfiakdoaa.Mk
