/- Any calls in any order leave each mark where the page says: the law's call returns true; no condition beside how the list of calls lies. -/
import Derived.Test.YtfcaodnfiakdoaaNe
import Derived.Test.YtfcaodnfiakdoaaNo
import Derived.Test.YtfcaodnfiakdoaaNt
import Derived.Deep.RegionHeld3
namespace Go.Proofs.Ytfcaodnfiakdoaa.Mk
open Go.RowKit Go.Sort Go.Proofs.YtfcaodnfiakdoaaW.PrintWords Go.Proofs.YtfcaodnfiakdoaaW.PrintLast Go.Proofs.YtfcaodnfiakdoaaW.PrintMore Go.Proofs.Ytfcaodnfiakdoaa.PMarksPlay
set_option linter.unusedVariables false
set_option linter.unusedSimpArgs false

set_option maxHeartbeats 8000000 in
set_option maxRecDepth 100000 in
theorem play_no (w : World) (n id : Int) (A : Option Addr) (c m : Nat) (h : n < 0 ∨ 65536 < n) :
    Calls Try.prog 6 #[.int .i64 n, .slice A m c, .int .i64 id] w fun e w' => e = .returned (.bool true) ∧ Below w.heap.size w w' := by
  go_enter Try.func6, Try.ntmps6
  go_wp2_with fail
  refine (awake_any _).mono ?_
  rintro e w1 ⟨rfl, hB1⟩
  have HB1 := Aside0.mk hB1
  clear hB1
  go_wp2_with fail
  refine (size_no _ n h).mono ?_
  rintro e w2 ⟨rfl, hB2⟩
  have HB2 := Aside0.mk (HB1.out.trans (hB2.mono HB1.out.size))
  clear hB2
  go_wp2_with fail
  refine (New_no n h _).mono ?_
  rintro e w3 ⟨rfl, rfl⟩
  go_wp2
  go_ret
  exact ⟨rfl, HB2.out⟩

theorem R46_first {w : World} {N : Nat} {A : Option Addr} {c : Nat} {xs : List S46} (h : Kd.R k46 46 w N (fun _ => True) (.slice A xs.length c) xs) (hz : 0 < xs.length) :
    ∃ b, A = some ⟨b, 0, none⟩ ∧ w.cell? ⟨b, 1, none⟩ = some (.int .i64 (rd_T46 xs ((0 : Nat) : Int)).f1) := by
  obtain ⟨b, cap, hv, hbb, hbl, cells, hty⟩ := Kd.R_form h hz
  injection hv with hv1 hv2 hv3
  subst hv1
  obtain ⟨ad, he, _, x1, _⟩ := at_T46 (Kd.R_reads' h).2.2 ((0 : Nat) : Int) (by omega) (by omega)
  cases he
  exact ⟨b, rfl, x1⟩
theorem R51_first {w : World} {N : Nat} {A : Option Addr} {c : Nat} {xs : List S46} (h : Kd.R k51 51 w N (fun _ => True) (.slice A xs.length c) (xs.map toR)) (hz : 0 < xs.length) :
    ∃ b, A = some ⟨b, 0, none⟩ ∧ w.cell? ⟨b, 1, none⟩ = some (.int .i64 (rd_T46 xs ((0 : Nat) : Int)).f1) := by
  obtain ⟨b, cap, hv, hbb, hbl, cells, hty⟩ := Kd.R_form h (by rw [List.length_map]; exact hz)
  injection hv with hv1 hv2 hv3
  subst hv1
  obtain ⟨ad, he, _, x1, _⟩ := at_T51 (Kd.R_reads' h).2.2 ((0 : Nat) : Int) (by omega) (by omega)
  rw [rd_map _ _ hz] at x1
  cases he
  exact ⟨b, rfl, x1⟩

/-- How it stands at the loop's head: the set, the row that All handed over, the document's row. -/
structure PlayAt (N N2 : Nat) (w w2 wr : World) (g : Nat) (S : St) (A9 : Option Addr) (c9 : Nat) (zs : List S46) (A10 : Option Addr) (c10 : Nat) (ys : List S46) : Prop where
  at_ : AtN N w2 wr g S
  len : zs.length = ys.length
  row : Kd.R k46 46 wr N (fun _ => True) (.slice A9 zs.length c9) zs
  ref : Kd.R k51 51 wr N2 (fun _ => True) (.slice A10 ys.length c10) (ys.map toR)
  below : Below w.heap.size w wr
theorem PlayAt.below' {N N2 : Nat} {w w2 wr W : World} {g : Nat} {S : St} {A9 : Option Addr} {c9 : Nat} {zs : List S46} {A10 : Option Addr} {c10 : Nat} {ys : List S46} (h : PlayAt N N2 w w2 wr g S A9 c9 zs A10 c10 ys) (hb : Below wr.heap.size wr W) : PlayAt N N2 w w2 W g S A9 c9 zs A10 c10 ys :=
  ⟨h.at_.below hb, h.len, Kd.R_below h.row hb, Kd.R_below h.ref hb, h.below.trans (hb.mono h.below.size)⟩
theorem PlayAt.set {N N2 : Nat} {w w2 wr : World} {g : Nat} {S : St} {b c9 m : Nat} {zs : List S46} {A10 : Option Addr} {c10 : Nat} {ys : List S46} (h : PlayAt N N2 w w2 wr g S (some ⟨b, 0, none⟩) c9 zs A10 c10 ys) (hm : m < zs.length) (hN : N ≤ b) (hw : w.heap.size ≤ N) (a : Int) :
    PlayAt N N2 w w2 (wr.setCell ⟨b, m * 3 + 1, none⟩ (.int .i64 a)) g S (some ⟨b, 0, none⟩) c9 (zs.set m (moved (rd_T46 zs m) a)) A10 c10 ys := by
  obtain ⟨cells, hc⟩ := Kd.R_typed h.row b rfl
  refine ⟨?_, by rw [List.length_set]; exact h.len, ?_, ?_, below_set h.below (by show w.heap.size ≤ b; omega)⟩
  · obtain ⟨hg, hgN, v, hblk, hrow⟩ := h.at_
    exact ⟨hg, hgN, v, blk_far (p := ⟨b, m * 3 + 1, none⟩) hblk (by show g ≠ b; omega) _, Kd.R_far (p := ⟨b, m * 3 + 1, none⟩) hrow (fun k hk => by have := hk.2; show k ≠ b; omega) _⟩
  · rw [List.length_set]; exact R46_put h.row hm a
  · exact Kd.R_set h.ref hc (fun q hq => by
      have : q = 51 := by simpa [k51, Kd.iso, Kd.pair, Kd.int, Kd.bool, Kd.scalar] using hq
      subst this; decide) _ _

set_option maxHeartbeats 8000000 in
set_option maxRecDepth 100000 in
theorem play_any (w : World) (n id : Int) (A : Option Addr) (c : Nat) (l : List S34) (hn0 : 0 ≤ n) (hn1 : n ≤ 65536) (hC : Kd.C k34 w A l.length l) (hl : l.length ≤ 140737488351232) :
    Calls Try.prog 6 #[.int .i64 n, .slice A l.length c, .int .i64 id] w fun e w' => e = .returned (.bool true) ∧ Below w.heap.size w w' := by
  have HC := Aside0.mk hC
  clear hC
  go_enter Try.func6, Try.ntmps6
  go_wp2_with fail
  refine (awake_any _).mono ?_
  rintro e w1 ⟨rfl, hB1⟩
  have HB1 := Aside0.mk hB1
  clear hB1
  go_wp2_with fail
  refine (size_yes _ n hn0 hn1).mono ?_
  rintro e w2 ⟨rfl, hB2⟩
  have HB2 := Aside0.mk (HB1.out.trans (hB2.mono HB1.out.size))
  have HC2 := Aside0.mk (Kd.C_below HC.out HB2.out)
  clear hB2 HB1 HC
  go_wp2_with fail
  refine (played_any w2 n A c l hn0 hn1 HC2.out hl).mono ?_
  rintro e w3 ⟨g, v', rfl, hG⟩
  have HGood := Aside0.mk ((play_good (l.take 80) (fresh_good hn0 hn1)).more (show (0 : Int) + ((l.take 80).length : Int) ≤ 80 by simp; omega))
  generalize play (fresh n) (l.take 80) = S at *
  obtain ⟨A1, c1, rfl, _, _⟩ := Kd.R_reads hG.row
  rw [List.length_map] at hG ⊢
  have HG := Aside0.mk hG
  clear hG HC2
  go_wp2_with fail
  have HG4 := Aside0.mk (HG.out.alloc (.cells #[.int .i64 S.size, .int .i64 S.next, .slice A1 S.xs.length c1] 38))
  have hz4 := blk_new w3 (.cells #[.int .i64 S.size, .int .i64 S.next, .slice A1 S.xs.length c1] 38)
  have HZ4 := Aside0.mk hz4
  generalize w3.alloc (.cells #[.int .i64 S.size, .int .i64 S.next, .slice A1 S.xs.length c1] 38) = w4 at *
  generalize w3.heap.size = z38 at *
  have r0 : w4.cell? ⟨z38, 0, none⟩ = some (.int .i64 S.size) := (blk_cell hz4 0).trans rfl
  have r1 : w4.cell? ⟨z38, 1, none⟩ = some (.int .i64 S.next) := (blk_cell hz4 1).trans rfl
  have r2 : w4.cell? ⟨z38, 2, none⟩ = some (.slice A1 S.xs.length c1) := (blk_cell hz4 2).trans rfl
  have hlen := HGood.out.len
  have HSz : ∀ q, Calls Try.prog 18 #[.pointer (some ⟨g, 0, none⟩)] (w4.drewN q) fun e w' => e = .returned (.int .i64 S.size) ∧ w' = w4.drewN q := fun q => (Size_any w2.heap.size g (w4.drewN q) S.size S.next S.xs (SetAt.below HG4.out.at_ (show Below w4.heap.size w4 (w4.drewN q) from pw_below_drewN (Below.refl _ _) q))).mono (by rintro e w' ⟨rfl, rfl⟩; exact ⟨rfl, rfl⟩)
  have HCt : ∀ q, Calls Try.prog 11 #[.pointer (some ⟨g, 0, none⟩)] (w4.drewN q) fun e w' => e = .returned (.int .i64 S.xs.length) ∧ w' = w4.drewN q := fun q => (Count_any w2.heap.size g (w4.drewN q) S.size S.next S.xs (SetAt.below HG4.out.at_ (show Below w4.heap.size w4 (w4.drewN q) from pw_below_drewN (Below.refl _ _) q))).mono (by rintro e w' ⟨rfl, rfl⟩; exact ⟨rfl, rfl⟩)
  have d1 : (S.size != S.size) = false := by simp
  have d2 : ((S.xs.length : Int) != (S.xs.length : Int)) = false := by simp
  clear hz4 HG
  go_quiet (first | (go_at_call 18; exact Calls.quiet_of_same (HSz _)) | (go_at_call 11; exact Calls.quiet_of_same (HCt _)))
  (try simp only [World.drewN_drewN])
  obtain ⟨w5, hw5⟩ : ∃ w5, w5 = w4.drewN nq := ⟨_, rfl⟩
  rw [← hw5]
  have HG5 := Aside0.mk (HG4.out.below' (show Below w4.heap.size w4 w5 by rw [hw5]; exact pw_below_drewN (Below.refl _ _) _))
  have HZ5 := Aside0.mk (show w5.heap[z38]? = some (.cells #[.int .i64 S.size, .int .i64 S.next, .slice A1 S.xs.length c1] 38 (0, 0)) by rw [hw5]; exact HZ4.out)
  clear hw5 HG4 HZ4 HSz HCt r0 r1 r2 d1 d2
  go_wp2_with fail
  refine (M_get id HG5.out.at_ HGood.out).mono ?_
  rintro e w6 ⟨rfl, hB6⟩
  have HG6 := Aside0.mk (HG5.out.below' hB6)
  have hz6 := blk_below HZ5.out hB6
  have HZ6 := Aside0.mk hz6
  have r0 : w6.cell? ⟨z38, 0, none⟩ = some (.int .i64 S.size) := (blk_cell hz6 0).trans rfl
  have r1 : w6.cell? ⟨z38, 1, none⟩ = some (.int .i64 S.next) := (blk_cell hz6 1).trans rfl
  have r2 : w6.cell? ⟨z38, 2, none⟩ = some (.slice A1 S.xs.length c1) := (blk_cell hz6 2).trans rfl
  have hlt6 : z38 < w6.heap.size := blk_lt hz6
  clear hz6 hB6 HG5 HZ5
  go_wp2_with fail
  have hk7 := blk_new w6 (.cells #[.int .i64 (got S id).1.f0, .int .i64 (got S id).1.f1, .bool (got S id).1.f2] 46)
  have hba := below_alloc (Below.refl w6.heap.size w6) (.cells #[.int .i64 (got S id).1.f0, .int .i64 (got S id).1.f1, .bool (got S id).1.f2] 46)
  refine (R_get id (HG6.out.below' hba).row HGood.out).mono ?_
  rintro e w7 ⟨rfl, hB7⟩
  have HG7 := Aside0.mk ((HG6.out.below' hba).below' hB7)
  have HZ7 := Aside0.mk (blk_below (blk_below HZ6.out hba) hB7)
  have hk7' := blk_below hk7 hB7
  have hlt7 : w6.heap.size < w7.heap.size := blk_lt hk7'
  have k0 : w7.cell? ⟨w6.heap.size, 0, none⟩ = some (.int .i64 (got S id).1.f0) := (blk_cell hk7' 0).trans rfl
  have k1 : w7.cell? ⟨w6.heap.size, 1, none⟩ = some (.int .i64 (got S id).1.f1) := (blk_cell hk7' 1).trans rfl
  have k2 : w7.cell? ⟨w6.heap.size, 2, none⟩ = some (.bool (got S id).1.f2) := (blk_cell hk7' 2).trans rfl
  clear hk7 hk7' hba hB7 HG6 HZ6 r0 r1 r2 hlt6
  generalize (got S id).1.f0 = x0 at *
  generalize (got S id).1.f1 = x1 at *
  generalize (got S id).1.f2 = x2 at *
  generalize (got S id).2 = xe at *
  have d0 : (xe != xe) = false := by simp
  have d1 : (x0 != x0) = false := by simp
  have d2 : (x1 != x1) = false := by simp
  have d3 : (x2 != x2) = false := by simp
  generalize w6.heap.size = z46 at *
  go_wp2_with fail
  have HG8 := Aside0.mk (HG7.out.alloc (.cells #[.int .i64 x0, .int .i64 x1, .bool x2] 51))
  have hz8 := blk_below HZ7.out (below_alloc (Below.refl w7.heap.size w7) (.cells #[.int .i64 x0, .int .i64 x1, .bool x2] 51))
  have HZ8 := Aside0.mk hz8
  clear k0 k1 k2 hlt7 d0 d1 d2 d3 HG7 HZ7
  generalize w7.alloc (.cells #[.int .i64 x0, .int .i64 x1, .bool x2] 51) = w8 at *
  generalize w7.heap.size = z51 at *
  have r0 : w8.cell? ⟨z38, 0, none⟩ = some (.int .i64 S.size) := (blk_cell hz8 0).trans rfl
  have r1 : w8.cell? ⟨z38, 1, none⟩ = some (.int .i64 S.next) := (blk_cell hz8 1).trans rfl
  have r2 : w8.cell? ⟨z38, 2, none⟩ = some (.slice A1 S.xs.length c1) := (blk_cell hz8 2).trans rfl
  clear hz8
  go_region_with (first
    | (go_at_call 15
       refine (All_any w2.heap.size g w8.drew S.size S.next S.xs (SetAt.below HG8.out.at_ (Below.drew (Below.refl _ _))) (by omega) (HGood.out.bounded (by omega)) HGood.out.rise).mono ?_
       rintro e w9 ⟨v1, rfl, hR9, hB9⟩
       have HR9 := Aside0.mk hR9
       obtain ⟨A9, c9, rfl⟩ := Kd.R_slice hR9
       have HG9 := Aside0.mk ((HG8.out.drew).below' hB9)
       have hz9 := blk_below (blk_drew HZ8.out) hB9
       have HZ9 := Aside0.mk hz9
       have s0 : w9.cell? ⟨z38, 0, none⟩ = some (.int .i64 S.size) := (blk_cell hz9 0).trans rfl
       have s1 : w9.cell? ⟨z38, 1, none⟩ = some (.int .i64 S.next) := (blk_cell hz9 1).trans rfl
       have s2 : w9.cell? ⟨z38, 2, none⟩ = some (.slice A1 S.xs.length c1) := (blk_cell hz9 2).trans rfl
       have HB9 := Aside0.mk hB9
       clear hz9 hB9 hR9)
    | (go_at_call 22
       refine (AllR_any w2.heap.size w9 S.size S.next (.slice A1 S.xs.length c1) (S.xs.map toR) HG9.out.row (by rw [List.length_map]; omega)).mono ?_
       rintro e w10 ⟨v2, rfl, hR10, hB10⟩
       rw [← sort_same S.xs HGood.out.rise] at hR10
       have HR10 := Aside0.mk hR10
       obtain ⟨A10, c10, e10⟩ := Kd.R_slice hR10
       rw [List.length_map] at e10
       subst e10
       have HB10 := Aside0.mk hB10
       clear hB10 hR10))
  all_goals
    have HIN := Aside0.mk (show AtN w8.heap.size w2 w10 g S from (((SetAt.in_ HG8.out.at_).below (Below.drew (Below.refl _ _))).below HB9.out).below HB10.out)
    have HR46 := Aside0.mk (show Kd.R k46 46 w10 w8.heap.size (fun _ => True) (.slice A9 (sortM S.xs).length c9) (sortM S.xs) from Kd.R_below HR9.out HB10.out)
    have HR51 := HR10
    have HBN := Aside0.mk (show Below w.heap.size w w10 from HB2.out.trans ((HG9.out.below.trans (HB10.out.mono HG9.out.below.size)).mono HB2.out.size))
    have HAll := Aside0.mk (show ∀ W, SetAt w2.heap.size W g S.size S.next S.xs → Calls Try.prog 15 #[.pointer (some ⟨g, 0, none⟩)] W fun e w' => ∃ v, e = .returned v ∧ Kd.R k46 46 w' W.heap.size (fun _ => True) v (sortM S.xs) ∧ Below W.heap.size W w' from fun W hW => All_any w2.heap.size g W S.size S.next S.xs hW (by omega) (HGood.out.bounded (by omega)) HGood.out.rise)
    have hlen8 : (sortM S.xs).length ≤ 1024 := by unfold sortM; rw [List.length_mergeSort]; omega
    have HWN := Aside0.mk (show w.heap.size ≤ w8.heap.size from Nat.le_trans HB2.out.size HG8.out.below.size)
    clear HR9 HR10 HB9 HB10 HG8 HG9 HZ8 HZ9 r0 r1 r2 s0 s1 s2
    generalize sortM S.xs = ys at *
    generalize w8.heap.size = N at *
    generalize w9.heap.size = N2 at *
    go_wp2_with fail
    rcases Nat.eq_zero_or_pos ys.length with hz | hz
    · have hx : ys = [] := List.eq_nil_of_length_eq_zero hz
      subst hx
      go_loopw [17] (fun i wr => i = .int .i64 0 ∧ wr = w10) (fun _ _ => 0)
      case atStart => exact ⟨rfl, rfl⟩
      case round =>
        obtain ⟨rfl, rfl⟩ := hrel
        have d1 : ((0 : Int) == 0) = true := rfl
        go_wp2
        go_quiet (fail)
        go_wp2
        go_ret
        exact ⟨rfl, pw_below_drewN HBN.out _⟩
    · obtain ⟨b, cap, hv, hbb, hbl, cells, hty⟩ := Kd.R_form HR46.out hz
      injection hv with hv1 hv2 hv3
      subst hv1 hv3
      clear hv2 hbl
      have HP := Aside0.mk (show PlayAt N N2 w w2 w10 g S (some ⟨b, 0, none⟩) c9 ys A10 c10 ys from ⟨HIN.out, rfl, HR46.out, HR51.out, HBN.out⟩)
      clear hty
      go_loopw [17] (fun i wr => ∃ (m : Nat) (zs : List S46), m ≤ ys.length ∧ i = .int .i64 m ∧ Aside0 (PlayAt N N2 w w2 wr g S (some ⟨b, 0, none⟩) c9 zs A10 c10 ys ∧ ∀ k, m ≤ k → rd_T46 zs (k : Int) = rd_T46 ys (k : Int))) (fun i _ => ys.length - (intOf i).toNat)
      case atStart => exact ⟨0, ys, Nat.zero_le _, rfl, ⟨HP.out, fun _ _ => rfl⟩⟩
      case round =>
        obtain ⟨m, zs, hm, rfl, HR⟩ := hrel
        rename_i wr _
        have hcy := (Kd.R_reads' HR.out.1.ref).2.2
        by_cases hlt : m < ys.length
        · have hzl := HR.out.1.len
          have hcz := (Kd.R_reads' (show Kd.R k46 46 wr N (fun _ => True) (.slice (some ⟨b, 0, none⟩) zs.length c9) zs from HR.out.1.row)).2.2
          obtain ⟨b', cap', hv, hbb', hbl', cells', hty'⟩ := Kd.R_form HR.out.1.row (by omega)
          injection hv with hv1 hv2 hv3
          injection hv1 with hv1
          injection hv1 with hv1
          subst hv1
          have hfz : wr.frozen? ⟨b, m * 3 + 1, none⟩ = false := blk_frozen hty' _
          obtain ⟨ad, he, x0, x1, x2⟩ := at_T46 hcz (m : Int) (by omega) (by omega)
          injection he with he
          subst he
          obtain ⟨ad2, rfl, y0, y1, y2⟩ := at_T51 hcy (m : Int) (by omega) (by rw [List.length_map]; omega)
          rw [Int.toNat_natCast] at x0 x1 x2 y0 y1 y2
          rw [show ((⟨b, 0, none⟩ : Addr).add (m * 3)) = ⟨b, m * 3, none⟩ by rw [addr_add, Nat.zero_add]] at x0 x1 x2
          have HSET := Aside0.mk (HR.out.1.set (m := m) (by omega) hbb HWN.out (-1))
          have HZM := Aside0.mk (show ∀ k, m + 1 ≤ k → rd_T46 (zs.set m (moved (rd_T46 zs m) (-1))) (k : Int) = rd_T46 ys (k : Int) from fun k hk => by
            rw [← HR.out.2 k (by omega)]
            simp [rd_T46, List.getD_eq_getElem?_getD, List.getElem?_set, show ¬ m = k by omega])
          rw [HR.out.2 m (Nat.le_refl _)] at x0 x1 x2
          rw [rd_map _ _ hlt] at y0 y1 y2
          clear hcz hcy hv2 hv3 hbl' hty' hzl
          generalize rd_T46 ys (m : Int) = q at *
          obtain ⟨q0, q1, q2⟩ := q
          dsimp only [toR] at x0 x1 x2 y0 y1 y2
          have d0 : (q0 != q0) = false := by simp
          have d1 : (q1 != q1) = false := by simp
          have d2 : (q2 != q2) = false := by simp
          go_wp2
          go_quiet (fail)
          go_wp2
          go_roundw
          case rel => exact ⟨m + 1, _, by omega, by go_num, ⟨by first | exact HSET.out.below' (pw_below_drewN (Below.refl _ _) _) | exact HSET.out, HZM.out⟩⟩
          case measure => simp [intOf]; omega
        · have hme : m = ys.length := by omega
          have hd : decide ((m : Int) < (ys.length : Int)) = false := by simp; omega
          have hd0 : ((ys.length : Int) == 0) = false := by rw [beq_eq_false_iff_ne]; omega
          obtain ⟨b2, rfl, y1⟩ := R51_first HR.out.1.ref hz
          clear hcy hme
          have HREF := Aside0.mk HR.out.1.ref
          obtain ⟨q, hq⟩ : ∃ q, q = (rd_T46 ys ((0 : Nat) : Int)).f1 := ⟨_, rfl⟩
          rw [← hq] at y1
          have HQ := Aside0.mk hq
          clear hq
          go_wp2_with fail
          refine start_ (n := 16) (S := fun w' => w'.cell? ⟨b2, 1, none⟩ = some (.int .i64 q)) (ds := []) #[false, false, false, false, false, false, false, false, false, false, false, false, false, false, false, false] (by kernel_rfl) rfl rfl y1 (fun hHeld => ?_)
          refine pure_ (i := 0) (N := some 149) (v := ?_) (a' := ?_) #[true, false, false, false, false, false, false, false, false, false, false, false, false, false, false, false] rfl rfl (by kernel_rfl) (fun _ _ _ h => h) (Or.inl ⟨by rfl, ?_⟩) ?_ ?_
          rotate_left
          · intro w'
            go_simp
            with_reducible rfl
          rotate_left
          · simp only [Act.put, List.setIfInBounds_toArray, List.set_cons_zero, List.set_cons_succ, i64_w, i32_w]
            rfl
          refine pure_ (i := 1) (N := some 150) (v := ?_) (a' := ?_) #[true, true, false, false, false, false, false, false, false, false, false, false, false, false, false, false] rfl rfl (by kernel_rfl) (fun _ _ _ h => h) (Or.inl ⟨by rfl, ?_⟩) ?_ ?_
          rotate_left
          · intro w'
            go_simp
            with_reducible rfl
          rotate_left
          · simp only [Act.put, List.setIfInBounds_toArray, List.set_cons_zero, List.set_cons_succ, i64_w, i32_w]
            rfl
          refine pure_ (i := 2) (N := some 151) (v := ?_) (a' := ?_) #[true, true, true, false, false, false, false, false, false, false, false, false, false, false, false, false] rfl rfl (by kernel_rfl) (fun _ _ _ h => h) (Or.inl ⟨by rfl, ?_⟩) ?_ ?_
          rotate_left
          · intro w'
            go_simp
            with_reducible rfl
          rotate_left
          · simp only [Act.put, List.setIfInBounds_toArray, List.set_cons_zero, List.set_cons_succ, i64_w, i32_w]
            rfl
          refine pure_ (i := 3) (N := some 152) (v := ?_) (a' := ?_) #[true, true, true, true, false, false, false, false, false, false, false, false, false, false, false, false] rfl rfl (by kernel_rfl) (fun _ _ _ h => h) (Or.inl ⟨by rfl, ?_⟩) ?_ ?_
          rotate_left
          · intro w'
            go_simp
            with_reducible rfl
          rotate_left
          · simp only [Act.put, List.setIfInBounds_toArray, List.set_cons_zero, List.set_cons_succ, i64_w, i32_w]
            rfl
          refine pure_ (i := 9) (N := some 158) (v := ?_) (a' := ?_) #[true, true, true, true, false, false, false, false, false, true, false, false, false, false, false, false] rfl rfl (by kernel_rfl) (fun _ _ _ h => h) (Or.inl ⟨by rfl, ?_⟩) ?_ ?_
          rotate_left
          · intro w'
            go_simp
            with_reducible rfl
          rotate_left
          · simp only [Act.put, List.setIfInBounds_toArray, List.set_cons_zero, List.set_cons_succ, i64_w, i32_w]
            rfl
          refine pure_ (i := 10) (N := some 159) (v := ?_) (a' := ?_) #[true, true, true, true, false, false, false, false, false, true, true, false, false, false, false, false] rfl rfl (by kernel_rfl) (fun _ _ _ h => h) (Or.inl ⟨by rfl, ?_⟩) ?_ ?_
          rotate_left
          · intro w'
            go_simp
            with_reducible rfl
          rotate_left
          · simp only [Act.put, List.setIfInBounds_toArray, List.set_cons_zero, List.set_cons_succ, i64_w, i32_w]
            rfl
          refine pure_ (i := 11) (N := some 160) (v := ?_) (a' := ?_) #[true, true, true, true, false, false, false, false, false, true, true, true, false, false, false, false] rfl rfl (by kernel_rfl) (fun _ _ _ h => h) (Or.inl ⟨by rfl, ?_⟩) ?_ ?_
          rotate_left
          · intro w'
            go_simp
            with_reducible rfl
          rotate_left
          · simp only [Act.put, List.setIfInBounds_toArray, List.set_cons_zero, List.set_cons_succ, i64_w, i32_w]
            rfl
          refine take_ (i := 12) (N := some 161) (v := ?_) (a' := ?_) #[true, true, true, true, false, false, false, false, false, true, true, true, true, false, false, false] rfl rfl (by kernel_rfl) (fun _ _ _ h => h) (Or.inl ⟨by rfl, ?_⟩) hHeld ?_ ?_
          rotate_left
          · rintro w' s0
            go_simp
            with_reducible rfl
          rotate_left
          · simp only [Act.put, List.setIfInBounds_toArray, List.set_cons_zero, List.set_cons_succ, i64_w, i32_w]
            rfl
          refine pure_ (i := 4) (N := some 153) (v := ?_) (a' := ?_) #[true, true, true, true, true, false, false, false, false, true, true, true, true, false, false, false] rfl rfl (by kernel_rfl) (fun _ _ _ h => h) (Or.inl ⟨by rfl, ?_⟩) ?_ ?_
          rotate_left
          · intro w'
            go_simp
            with_reducible rfl
          rotate_left
          · simp only [Act.put, List.setIfInBounds_toArray, List.set_cons_zero, List.set_cons_succ, i64_w, i32_w]
            rfl
          refine one_ (i := 5) (N := some 154) #[true, true, true, true, true, true, false, false, false, true, true, true, true, false, false, false] rfl rfl (by kernel_rfl) (by decide) (fun K hK => ?_)
          refine goes_ Try.func15 (by kernel_rfl) rfl #[.pointer (some ⟨g, 0, none⟩)] (by rfl) rfl rfl (by first | rfl | (go_simp; done) | (go_simp; rfl)) ?_
          refine (HAll.out wr.drew (SetAt.below HR.out.1.at_.at (Below.drew (Below.refl _ _)))).mono ?_
          rintro e w11 ⟨v3, rfl, hR11, hB11⟩
          refine ⟨_, rfl, ?_⟩
          have HB11 := Aside0.mk (show Below wr.heap.size wr w11 from (Below.drew (Below.refl _ _)).trans hB11)
          obtain ⟨A11, c11, rfl⟩ := Kd.R_slice hR11
          obtain ⟨b3, rfl, t1⟩ := R46_first hR11 hz
          rw [← HQ.out] at t1
          have s1 : w11.cell? ⟨b2, 1, none⟩ = some (.int .i64 q) := (HB11.out.cell (p := ⟨b2, 1, none⟩) (World.block_lt_of_cell? _ _ y1)).trans y1
          clear hR11 hB11
          refine hK.out _ _ s1 (fun hHeld => ?_)
          clear hK K
          refine norm_ (a' := ?_) ?_ ?_
          rotate_left
          · simp only [Act.put, List.setIfInBounds_toArray, List.set_cons_zero, List.set_cons_succ, i64_w, i32_w]
            rfl
          refine pure_ (i := 6) (N := some 155) (v := ?_) (a' := ?_) #[true, true, true, true, true, true, true, false, false, true, true, true, true, false, false, false] rfl rfl (by kernel_rfl) (fun _ _ _ h => h) (Or.inl ⟨by rfl, ?_⟩) ?_ ?_
          rotate_left
          · intro w'
            go_simp
            with_reducible rfl
          rotate_left
          · simp only [Act.put, List.setIfInBounds_toArray, List.set_cons_zero, List.set_cons_succ, i64_w, i32_w]
            rfl
          refine pure_ (i := 7) (N := some 156) (v := ?_) (a' := ?_) #[true, true, true, true, true, true, true, true, false, true, true, true, true, false, false, false] rfl rfl (by kernel_rfl) (fun _ _ _ h => h) (Or.inl ⟨by rfl, ?_⟩) ?_ ?_
          rotate_left
          · intro w'
            go_simp
            with_reducible rfl
          rotate_left
          · simp only [Act.put, List.setIfInBounds_toArray, List.set_cons_zero, List.set_cons_succ, i64_w, i32_w]
            rfl
          refine one_ (i := 8) (N := some 157) #[true, true, true, true, true, true, true, true, true, true, true, true, true, false, false, false] rfl rfl (by kernel_rfl) (by decide) (fun K hK => ?_)
          refine value_ (w1 := w11) (v := .int .i64 q) (by rfl) rfl (by first | (go_simp; done) | (go_simp; rfl)) ?_
          refine hK.out _ _ hHeld (fun hHeld => ?_)
          clear hK K
          refine norm_ (a' := ?_) ?_ ?_
          rotate_left
          · simp only [Act.put, List.setIfInBounds_toArray, List.set_cons_zero, List.set_cons_succ, i64_w, i32_w]
            rfl
          refine pure_ (i := 13) (N := some 162) (v := ?_) (a' := ?_) #[true, true, true, true, true, true, true, true, true, true, true, true, true, true, false, false] rfl rfl (by kernel_rfl) (fun _ _ _ h => h) (Or.inl ⟨by rfl, ?_⟩) ?_ ?_
          rotate_left
          · intro w'
            go_simp
            with_reducible rfl
          rotate_left
          · simp only [Act.put, List.setIfInBounds_toArray, List.set_cons_zero, List.set_cons_succ, i64_w, i32_w]
            rfl
          refine pure_ (i := 14) (N := some 163) (v := ?_) (a' := ?_) #[true, true, true, true, true, true, true, true, true, true, true, true, true, true, true, false] rfl rfl (by kernel_rfl) (fun _ _ _ h => h) (Or.inl ⟨by rfl, ?_⟩) ?_ ?_
          rotate_left
          · intro w'
            go_simp
            with_reducible rfl
          rotate_left
          · simp only [Act.put, List.setIfInBounds_toArray, List.set_cons_zero, List.set_cons_succ, i64_w, i32_w]
            rfl
          refine pure_ (i := 15) (N := some 6) (v := ?_) (a' := ?_) #[true, true, true, true, true, true, true, true, true, true, true, true, true, true, true, true] rfl rfl (by kernel_rfl) (fun _ _ _ h => h) (Or.inl ⟨by rfl, ?_⟩) ?_ ?_
          rotate_left
          · intro w'
            go_simp
            with_reducible rfl
          rotate_left
          · simp only [Act.put, List.setIfInBounds_toArray, List.set_cons_zero, List.set_cons_succ, i64_w, i32_w]
            rfl
          refine done_ (by kernel_rfl) ?_
          go_wp2
          go_ret
          exact ⟨by simp, HR.out.1.below.trans (HB11.out.mono HR.out.1.below.size)⟩
end Go.Proofs.Ytfcaodnfiakdoaa.Mk
