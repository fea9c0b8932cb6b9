/- The marks from any place up to any other one are told: the law's call returns true; no condition beside how the list of calls lies. -/
import Derived.Test.YtfcaodnfiakdoaaNe
import Derived.Test.YtfcaodnfiakdoaaNt
import Derived.Test.YtfcaodnfiakdoaaNv
namespace Go.Proofs.Ytfcaodnfiakdoaa.Mk
open Go.RowKit Go.Sort Go.Proofs.YtfcaodnfiakdoaaW.PrintWords Go.Proofs.YtfcaodnfiakdoaaW.PrintLast Go.Proofs.YtfcaodnfiakdoaaW.PrintMore Go.Proofs.Ytfcaodnfiakdoaa.PMarksPlay
set_option linter.unusedVariables false
set_option linter.unusedSimpArgs false

theorem told_mid (a b : Int) (m : Nat) (xs : List S46) (hm : m < xs.length) (h : a ≤ (rd_T46 xs (m : Int)).f1 ∧ (rd_T46 xs (m : Int)).f1 ≤ b) :
    (told a b (xs.take m)).length < (told a b xs).length ∧ (told a b xs)[(told a b (xs.take m)).length]? = some (rd_T46 xs (m : Int)).f0 := by
  have e : told a b xs = told a b (xs.take (m + 1)) ++ told a b (xs.drop (m + 1)) := by
    unfold told; rw [← List.map_append, ← List.filter_append, List.take_append_drop]
  rw [told_yes a b m xs hm h.1 h.2] at e
  rw [e, List.append_assoc]
  exact ⟨by simp only [List.length_append, List.length_cons, List.length_nil]; omega, by rw [List.getElem?_append_right (Nat.le_refl _)]; simp⟩
theorem told_full (a b : Int) (xs : List S46) : told a b (xs.take xs.length) = told a b xs := by rw [List.take_length]

/-- A number of a row of whole numbers. -/
theorem at_int {w : World} {A : Option Addr} {n : Nat} {xs : List Int} (h : Kd.C (Kd.int .i64) w A n xs) (i : Nat) (q : Int) (hq : xs[i]? = some q) :
    ∃ ad, A = some ad ∧ w.cell? (ad.add i) = some (.int .i64 q) := by
  have hi : i < xs.length := (List.getElem?_eq_some_iff.1 hq).1
  have h1 : xs.length = n := h.1
  obtain ⟨ad, c, e, _, hK, hc0⟩ := Kd.C_get h 0 (i : Int) (by omega) (by omega)
  rw [Int.toNat_natCast] at hK hc0
  have hc : ∀ j u, c[j]? = some u → w.cell? (ad.add (i * 1 + j)) = some u := hc0
  have e2 : c = [.int .i64 (xs.getD i 0)] := hK
  subst e2
  have e3 : xs.getD i 0 = q := by rw [List.getD_eq_getElem?_getD, hq]; rfl
  rw [e3] at hc
  exact ⟨ad, e, by simpa using hc 0 _ rfl⟩

set_option maxHeartbeats 8000000 in
set_option maxRecDepth 100000 in
theorem btw_any (w : World) (n a b : Int) (A : Option Addr) (c : Nat) (l : List S34) (hC : Kd.C k34 w A l.length l) (hl : l.length ≤ 140737488351232) :
    Calls Try.prog 7 #[.int .i64 n, .slice A l.length c, .agg #[.int .i64 a, .int .i64 b]] w fun e w' => e = .returned (.bool true) ∧ Below w.heap.size w w' := by
  have HC := Aside0.mk hC
  clear hC
  go_enter Try.func7, Try.ntmps7
  go_wp2_with fail
  refine (awake_any _).mono ?_
  rintro e w1 ⟨rfl, hB1⟩
  have HBOX1 := Aside0.mk (show w1.heap[w.heap.size]? = some (.cells #[.int .i64 a, .int .i64 b] 56 (0, 0)) from blk_below (by simpa using heap_alloc_new w _) hB1)
  have HB1 := Aside0.mk (show Below w.heap.size w w1 from (below_alloc (Below.refl _ _) _).trans (hB1.mono (by simp)))
  clear hB1
  go_wp2_with fail
  by_cases hn : n < 0 ∨ 65536 < n
  · refine (size_no _ n hn).mono ?_
    rintro e w2 ⟨rfl, hB2⟩
    have HB2 := Aside0.mk (HB1.out.trans (hB2.mono HB1.out.size))
    clear hB2
    go_wp2
    go_ret
    exact ⟨rfl, HB2.out⟩
  have hn0 : 0 ≤ n := by omega
  have hn1 : n ≤ 65536 := by omega
  clear hn
  refine (size_yes _ n hn0 hn1).mono ?_
  rintro e w2 ⟨rfl, hB2⟩
  have HB2 := Aside0.mk (HB1.out.trans (hB2.mono HB1.out.size))
  have HBOX2 := Aside0.mk (blk_below HBOX1.out hB2)
  have HC2 := Aside0.mk (Kd.C_below HC.out HB2.out)
  clear hB2 HBOX1 HB1 HC
  go_wp2_with fail
  refine (played_any w2 n A c l hn0 hn1 HC2.out hl).mono ?_
  rintro e w3 ⟨g, v', rfl, hG⟩
  have HGood := Aside0.mk ((play_good (l.take 80) (fresh_good hn0 hn1)).more (show (0 : Int) + ((l.take 80).length : Int) ≤ 80 by simp; omega))
  generalize play (fresh n) (l.take 80) = S at *
  obtain ⟨A1, c1, rfl, _, _⟩ := Kd.R_reads hG.row
  rw [List.length_map] at hG ⊢
  have HG := Aside0.mk hG
  have HBOX3 := Aside0.mk (blk_below HBOX2.out hG.below)
  have q0 : w3.cell? ⟨w.heap.size, 0, none⟩ = some (.int .i64 a) := (blk_cell HBOX3.out 0).trans rfl
  have q1 : w3.cell? ⟨w.heap.size, 1, none⟩ = some (.int .i64 b) := (blk_cell HBOX3.out 1).trans rfl
  have hlt3 : w.heap.size < w3.heap.size := blk_lt HBOX3.out
  clear hG HC2 HBOX2
  go_wp2_with fail
  have HG4 := Aside0.mk (HG.out.alloc (.cells #[.int .i64 S.size, .int .i64 S.next, .slice A1 S.xs.length c1] 38))
  have HBOX4 := Aside0.mk (blk_below HBOX3.out (below_alloc (Below.refl _ _) (.cells #[.int .i64 S.size, .int .i64 S.next, .slice A1 S.xs.length c1] 38)))
  have HZ4 := Aside0.mk (blk_new w3 (.cells #[.int .i64 S.size, .int .i64 S.next, .slice A1 S.xs.length c1] 38))
  clear q0 q1 hlt3
  generalize w3.alloc (.cells #[.int .i64 S.size, .int .i64 S.next, .slice A1 S.xs.length c1] 38) = w4 at *
  generalize w3.heap.size = z38 at *
  have hlen := HGood.out.len
  refine (Between_any w2.heap.size g w4 S.size S.next a b S.xs HG4.out.at_ (by omega) (HGood.out.bounded (by omega)) HGood.out.rise).mono ?_
  rintro e w5 ⟨v1, rfl, hR5, hB5⟩
  have HR5 := Aside0.mk hR5
  obtain ⟨A5, c5, rfl⟩ := Kd.R_slice hR5
  have HG5 := Aside0.mk (HG4.out.below' hB5)
  have HBOX5 := Aside0.mk (blk_below HBOX4.out hB5)
  have hz5 := blk_below HZ4.out hB5
  have HZ5 := Aside0.mk hz5
  have r0 : w5.cell? ⟨z38, 0, none⟩ = some (.int .i64 S.size) := (blk_cell hz5 0).trans rfl
  have r1 : w5.cell? ⟨z38, 1, none⟩ = some (.int .i64 S.next) := (blk_cell hz5 1).trans rfl
  have r2 : w5.cell? ⟨z38, 2, none⟩ = some (.slice A1 S.xs.length c1) := (blk_cell hz5 2).trans rfl
  clear hz5 hB5 hR5 HG HBOX3 HG4 HBOX4 HZ4
  go_wp2_with fail
  refine (AllR_any w2.heap.size w5 S.size S.next (.slice A1 S.xs.length c1) (S.xs.map toR) HG5.out.row (by rw [List.length_map]; omega)).mono ?_
  rintro e w6 ⟨v2, rfl, hR6, hB6⟩
  rw [← sort_same S.xs HGood.out.rise] at hR6
  obtain ⟨A6, c6, e6⟩ := Kd.R_slice hR6
  rw [List.length_map] at e6
  subst e6
  have HC6 := Aside0.mk (Kd.R_reads' hR6).2.2
  have HC5 := Aside0.mk (Kd.C_below (Kd.R_reads' HR5.out).2.2 hB6)
  have HBOX6 := Aside0.mk (blk_below HBOX5.out hB6)
  have HB6 := Aside0.mk (show Below w.heap.size w w6 from HB2.out.trans ((HG5.out.below.trans (hB6.mono HG5.out.below.size)).mono HB2.out.size))
  have hlen8 : (sortM S.xs).length ≤ 1024 := by unfold sortM; rw [List.length_mergeSort]; omega
  clear hR6 hB6 r0 r1 r2 HR5 HBOX5 HZ5 HG5
  generalize sortM S.xs = ys at *
  have HL := Aside0.mk (told_len a b ys)
  go_wp2_with fail
  go_loopw [11, 12] (fun k i wr => ∃ m : Nat, m ≤ ys.length ∧ i = .int .i64 m ∧ k = .int .i64 ((told a b (ys.take m)).length : Nat) ∧ Aside0 (Below w6.heap.size w6 wr)) (fun _ i _ => ys.length - (intOf i).toNat)
  case atStart => exact ⟨0, Nat.zero_le _, rfl, rfl, ⟨Below.refl _ _⟩⟩
  case round =>
    obtain ⟨m, hm, rfl, rfl, HR⟩ := hrel
    rename_i wr _
    have hbx := blk_below HBOX6.out HR.out
    by_cases hlt : m < ys.length
    · obtain ⟨ad, rfl, x0, x1, x2⟩ := at_T51 (Kd.C_below HC6.out HR.out) (m : Int) (by omega) (by first | omega | (rw [List.length_map]; omega))
      rw [Int.toNat_natCast] at x0 x1 x2
      rw [rd_map _ _ hlt] at x0 x1 x2
      have q0 : wr.cell? ⟨w.heap.size, 0, none⟩ = some (.int .i64 a) := (blk_cell hbx 0).trans rfl
      have q1 : wr.cell? ⟨w.heap.size, 1, none⟩ = some (.int .i64 b) := (blk_cell hbx 1).trans rfl
      have HY := Aside0.mk (told_yes a b m ys hlt)
      have HN := Aside0.mk (told_no a b m ys hlt)
      have HM := Aside0.mk (told_mid a b m ys hlt)
      generalize rd_T46 ys (m : Int) = q at *
      obtain ⟨y0, y1, y2⟩ := q
      dsimp only [toR] at x0 x1 x2
      clear hbx
      by_cases h1 : y1 < a
      · have d1 : decide (y1 < a) = true := decide_eq_true h1
        have HN2 := Aside0.mk (HN.out (fun h => by have := h.1; dsimp only at this; omega))
        clear HY HN HM h1
        go_wp2_with fail
        go_quiet (fail)
        (try simp only [World.drewN_drewN])
        go_wp2
        go_roundw
        case rel => exact ⟨m + 1, by omega, by go_num, by rw [HN2.out], ⟨pw_below_drewN HR.out _⟩⟩
        case measure => simp [intOf]; omega
      · have d1 : decide (y1 < a) = false := decide_eq_false h1
        by_cases h2 : b < y1
        · have d2 : decide (b < y1) = true := decide_eq_true h2
          have HN2 := Aside0.mk (HN.out (fun h => by have := h.2; dsimp only at this; omega))
          clear HY HN HM h1 h2
          go_wp2_with fail
          go_quiet (fail)
          (try simp only [World.drewN_drewN])
          go_wp2
          go_roundw
          case rel => exact ⟨m + 1, by omega, by go_num, by rw [HN2.out], ⟨pw_below_drewN HR.out _⟩⟩
          case measure => simp [intOf]; omega
        · have d2 : decide (b < y1) = false := decide_eq_false h2
          have hin : a ≤ y1 ∧ y1 ≤ b := ⟨by omega, by omega⟩
          have HY2 := Aside0.mk (HY.out hin.1 hin.2)
          obtain ⟨hk1, hk2⟩ := HM.out hin
          obtain ⟨ad5, rfl, w0⟩ := at_int (Kd.C_below HC5.out HR.out) _ _ hk2
          have hkl : (told a b (ys.take m)).length ≤ 1024 := by have := HL.out; omega
          clear HY HN HM h1 h2 hin hk2
          have HE := Aside0.mk (show (told a b (ys.take (m + 1))).length = (told a b (ys.take m)).length + 1 by rw [HY2.out]; simp)
          generalize (told a b (ys.take m)).length = kk at *
          have d3 : decide ((told a b ys).length ≤ kk) = false := by simp; omega
          have d4 : decide (((told a b ys).length : Int) ≤ (kk : Int)) = false := by simp; omega
          have d5 : (y0 != y0) = false := by simp
          go_wp2_with fail
          go_quiet (fail)
          (try simp only [World.drewN_drewN])
          go_wp2
          go_quiet (fail)
          (try simp only [World.drewN_drewN])
          go_wp2
          go_roundw
          case rel => exact ⟨m + 1, by omega, by go_num, by rw [HE.out]; go_num, ⟨pw_below_drewN HR.out _⟩⟩
          case measure => simp [intOf]; omega
    · have hme : m = ys.length := by omega
      have hd : decide ((m : Int) < (ys.length : Int)) = false := by simp; omega
      subst hme
      rw [told_full]
      go_wp2
      go_ret
      exact ⟨by simp, HB6.out.trans (HR.out.mono HB6.out.size)⟩
end Go.Proofs.Ytfcaodnfiakdoaa.Mk
