/- Edits leave every mark within the text and never change the order of two: the law's call returns true; no condition beside how the list of calls lies. -/
import Derived.Test.YtfcaodnfiakdoaaNe
import Derived.Test.YtfcaodnfiakdoaaNo
import Derived.Test.YtfcaodnfiakdoaaNp
namespace Go.Proofs.Ytfcaodnfiakdoaa.Mk
open Go.RowKit Go.Sort Go.Proofs.YtfcaodnfiakdoaaW.PrintWords Go.Proofs.YtfcaodnfiakdoaaW.PrintLast Go.Proofs.YtfcaodnfiakdoaaW.PrintMore Go.Proofs.Ytfcaodnfiakdoaa.PMarksPlay
set_option linter.unusedVariables false
set_option linter.unusedSimpArgs false

/-- An Insert or a Delete at both. -/
theorem step_edit (N : Nat) (w0 w : World) (g : Nat) (s : St) (B : Int) (v : Value) (k a b : Int) (st : Bool) (hk : k = 1 ∨ k = 2) (hB : Below w0.heap.size w0 w) (hS : AtN N w0 w g s) (hR : RAt w0 w v s) (hG : Good B s) (hb : B ≤ 900000) :
    Calls Try.prog 16 #[.pointer (some ⟨g, 0, none⟩), .agg #[.int .i64 s.size, .int .i64 s.next, v], .agg #[.int .i64 k, .int .i64 a, .int .i64 b, .bool st]] w fun e w' => ∃ (s' : St) (f : S46 → S46) (v' : Value), e = .returned (.tuple #[.agg #[.int .i64 s'.size, .int .i64 s'.next, v'], .bool true]) ∧ AtN N w0 w' g s' ∧ RAt w0 w' v' s' ∧ Below w0.heap.size w0 w' ∧ WKept N w w' ∧ Good B s' ∧ Edit f s.xs s'.xs := by
  rcases hk with rfl | rfl
  · obtain ⟨f, hf⟩ := ins_edit hG a b
    refine (step1N N w0 w g s B v a b st hB hS hR hG hb).mono ?_
    rintro e w' ⟨v', rfl, h1, h2, h3, h4⟩
    exact ⟨_, f, v', rfl, h1, h2, h3, h4, ins_good hG a b, hf⟩
  · obtain ⟨f, hf⟩ := del_edit hG a b
    refine (step2N N w0 w g s B v a b st hB hS hR hG hb).mono ?_
    rintro e w' ⟨v', rfl, h1, h2, h3, h4⟩
    exact ⟨_, f, v', rfl, h1, h2, h3, h4, del_good hG a b, hf⟩

set_option maxHeartbeats 8000000 in
set_option maxRecDepth 100000 in
theorem order_any (w : World) (n : Int) (A : Option Addr) (c : Nat) (l : List S34) (k a b : Int) (st : Bool) (hC : Kd.C k34 w A l.length l) (hl : l.length ≤ 140737488351232) :
    Calls Try.prog 4 #[.int .i64 n, .slice A l.length c, .agg #[.int .i64 k, .int .i64 a, .int .i64 b, .bool st]] w fun e w' => e = .returned (.bool true) ∧ Below w.heap.size w w' := by
  have HC := Aside0.mk hC
  clear hC
  go_enter Try.func4, Try.ntmps4
  go_wp2_with fail
  refine (awake_any _).mono ?_
  rintro e w1 ⟨rfl, hB1⟩
  have HBOX1 := Aside0.mk (show w1.heap[w.heap.size]? = some (.cells #[.int .i64 k, .int .i64 a, .int .i64 b, .bool st] 34 (0, 0)) from blk_below (by simpa using heap_alloc_new w _) hB1)
  have HB1 := Aside0.mk (show Below w.heap.size w w1 from (below_alloc (Below.refl _ _) _).trans (hB1.mono (by simp)))
  clear hB1
  go_wp2_with fail
  by_cases hn : n < 0 ∨ 65536 < n
  · refine (size_no _ n hn).mono ?_
    rintro e w2 ⟨rfl, hB2⟩
    have HB2 := Aside0.mk (HB1.out.trans (hB2.mono HB1.out.size))
    clear hB2
    go_wp2
    go_ret
    exact ⟨rfl, HB2.out⟩
  have hn0 : 0 ≤ n := by omega
  have hn1 : n ≤ 65536 := by omega
  clear hn
  refine (size_yes _ n hn0 hn1).mono ?_
  rintro e w2 ⟨rfl, hB2⟩
  have HB2 := Aside0.mk (HB1.out.trans (hB2.mono HB1.out.size))
  have HBOX2 := Aside0.mk (blk_below HBOX1.out hB2)
  have HC2 := Aside0.mk (Kd.C_below HC.out HB2.out)
  have q0 : w2.cell? ⟨w.heap.size, 0, none⟩ = some (.int .i64 k) := (blk_cell HBOX2.out 0).trans rfl
  clear hB2 HBOX1 HB1 HC
  by_cases hk : k = 1 ∨ k = 2
  · rcases hk with rfl | rfl
    all_goals
      go_wp2_with fail
      refine (played_any w2 n A c l hn0 hn1 HC2.out hl).mono ?_
      rintro e w3 ⟨g, v', rfl, hG⟩
      have HGood := Aside0.mk ((play_good (l.take 80) (fresh_good hn0 hn1)).more (show (0 : Int) + ((l.take 80).length : Int) ≤ 80 by simp; omega))
      generalize play (fresh n) (l.take 80) = S at *
      obtain ⟨A1, n1, c1, rfl⟩ := hG.row.form
      have HG := Aside0.mk hG
      have HBOX3 := Aside0.mk (blk_below HBOX2.out hG.below)
      clear hG HBOX2 HC2 q0
      go_wp2_with fail
      have HG4 := Aside0.mk (HG.out.alloc (.cells #[.int .i64 S.size, .int .i64 S.next, .slice A1 n1 c1] 38))
      have HBOX4 := Aside0.mk (blk_below HBOX3.out (below_alloc (Below.refl _ _) (.cells #[.int .i64 S.size, .int .i64 S.next, .slice A1 n1 c1] 38)))
      have HZ4 := Aside0.mk (blk_new w3 (.cells #[.int .i64 S.size, .int .i64 S.next, .slice A1 n1 c1] 38))
      generalize w3.alloc (.cells #[.int .i64 S.size, .int .i64 S.next, .slice A1 n1 c1] 38) = w4 at *
      generalize w3.heap.size = z38 at *
      have hlen := HGood.out.len
      refine (All_any _ g w4 S.size S.next S.xs HG4.out.at_ (by omega) (HGood.out.bounded (by omega)) HGood.out.rise).mono ?_
      rintro e w5 ⟨v1, rfl, hR5, hB5⟩
      have HIN5 := Aside0.mk (show AtN w4.heap.size w2 w5 g S from (SetAt.in_ HG4.out.at_).below hB5)
      have HBOX5 := blk_below HBOX4.out hB5
      have HZ5 := blk_below HZ4.out hB5
      have HG5 := Aside0.mk (HG4.out.below' hB5)
      have HR5 := Aside0.mk hR5
      obtain ⟨A2, c2, rfl⟩ := Kd.R_slice hR5
      clear hR5 hB5 HBOX3 HBOX4 HG HG4 HZ4
      generalize w4.heap.size = N at *
      have q0 : w5.cell? ⟨w.heap.size, 0, none⟩ = some _ := (blk_cell HBOX5 0).trans rfl
      have q1 : w5.cell? ⟨w.heap.size, 1, none⟩ = some (.int .i64 a) := (blk_cell HBOX5 1).trans rfl
      have q2 : w5.cell? ⟨w.heap.size, 2, none⟩ = some (.int .i64 b) := (blk_cell HBOX5 2).trans rfl
      have q3 : w5.cell? ⟨w.heap.size, 3, none⟩ = some (.bool st) := (blk_cell HBOX5 3).trans rfl
      have r0 : w5.cell? ⟨z38, 0, none⟩ = some (.int .i64 S.size) := (blk_cell HZ5 0).trans rfl
      have r1 : w5.cell? ⟨z38, 1, none⟩ = some (.int .i64 S.next) := (blk_cell HZ5 1).trans rfl
      have r2 : w5.cell? ⟨z38, 2, none⟩ = some (.slice A1 n1 c1) := (blk_cell HZ5 2).trans rfl
      clear HBOX5 HZ5
      go_wp2_with fail
      refine (step_edit N w2 w5 g S 80 _ _ a b st (by omega) HG5.out.below HIN5.out HG5.out.row HGood.out (by omega)).mono ?_
      rintro e w6 ⟨S', f, v6, rfl, hS6, hR6, hB6, hW6, hG6, hE6⟩
      obtain ⟨A6, n6, c6, rfl⟩ := hR6.form
      have HC6 := Aside0.mk (Kd.R_reads' (hW6.row HR5.out)).2.2
      have HS6 := Aside0.mk hS6.at
      have HB6 := Aside0.mk (show Below w.heap.size w w6 from HB2.out.trans (hB6.mono HB2.out.size))
      have HG6 := Aside0.mk hG6
      have HGet := Aside0.mk (show ∀ i : Nat, i < (sortM S.xs).length → got S' (rd_T46 (sortM S.xs) i).f0 = (f (rd_T46 (sortM S.xs) i), 0) from fun i hi => got_edit HGood.out hE6 (sortM_mem hi))
      have HFine := Aside0.mk (show ∀ i : Nat, i < (sortM S.xs).length → 0 ≤ (f (rd_T46 (sortM S.xs) i)).f1 ∧ (f (rd_T46 (sortM S.xs) i)).f1 ≤ S'.size from fun i hi => hG6.fine _ (by rw [hE6.eq]; exact List.mem_map_of_mem (sortM_mem hi)))
      have HMono := Aside0.mk hE6.mono
      have hlen8 : (sortM S.xs).length ≤ 1024 := by rw [sortM_length]; omega
      clear hS6 hR6 hB6 hW6 hG6 hE6 q0 q1 q2 q3 r0 r1 r2 HR5 HG5 HIN5
      generalize sortM S.xs = ys at *
      go_wp2_with fail
      have HB7 := Aside0.mk (show Below w.heap.size w (w6.alloc (.cells #[.int .i64 S'.size, .int .i64 S'.next, .slice A6 n6 c6] 38)) from below_alloc HB6.out _)
      have HC7 := Aside0.mk (Kd.C_below HC6.out (below_alloc (Below.refl _ _) (.cells #[.int .i64 S'.size, .int .i64 S'.next, .slice A6 n6 c6] 38)))
      have HS7 := Aside0.mk (HS6.out.below (below_alloc (Below.refl _ _) (.cells #[.int .i64 S'.size, .int .i64 S'.next, .slice A6 n6 c6] 38)))
      generalize w6.alloc (.cells #[.int .i64 S'.size, .int .i64 S'.next, .slice A6 n6 c6] 38) = w7 at *
      clear HB6 HC6 HS6
      go_loopw [12] (fun i wr => ∃ m : Nat, m ≤ ys.length ∧ i = .int .i64 m ∧ Aside0 (Below w7.heap.size w7 wr)) (fun i _ => ys.length - (intOf i).toNat)
      case atStart => exact ⟨0, Nat.zero_le _, rfl, ⟨Below.refl _ _⟩⟩
      case round =>
        obtain ⟨m, hm, rfl, HB⟩ := hrel
        by_cases hlt : m < ys.length
        · obtain ⟨ad, rfl, x0, x1, x2⟩ := at_T46 (Kd.C_below HC7.out HB.out) (m : Int) (by omega) (by omega)
          rw [Int.toNat_natCast] at x0 x1 x2
          go_wp2_with fail
          refine (M_get (rd_T46 ys m).f0 (HS7.out.below HB.out) HG6.out).mono ?_
          rintro e w8 ⟨rfl, hB8⟩
          rw [HGet.out m hlt]
          dsimp only
          have HB8 := Aside0.mk (show Below w7.heap.size w7 w8 from HB.out.trans (hB8.mono HB.out.size))
          obtain ⟨p0, p1⟩ := HFine.out m hlt
          clear hB8 x0 x1 x2
          go_wp2_with fail
          have HB9 := Aside0.mk (show Below w7.heap.size w7 (w8.alloc (.cells #[.int .i64 (f (rd_T46 ys m)).f0, .int .i64 (f (rd_T46 ys m)).f1, .bool (f (rd_T46 ys m)).f2] 46)) from below_alloc HB8.out _)
          have hz := blk_new w8 (.cells #[.int .i64 (f (rd_T46 ys m)).f0, .int .i64 (f (rd_T46 ys m)).f1, .bool (f (rd_T46 ys m)).f2] 46)
          have HZ := Aside0.mk hz
          generalize w8.alloc (.cells #[.int .i64 (f (rd_T46 ys m)).f0, .int .i64 (f (rd_T46 ys m)).f1, .bool (f (rd_T46 ys m)).f2] 46) = w9 at *
          have z1 : w9.cell? ⟨w8.heap.size, 1, none⟩ = some (.int .i64 (f (rd_T46 ys m)).f1) := (blk_cell hz 1).trans rfl
          generalize w8.heap.size = z13 at *
          clear hz HB8
          have d1 : decide ((f (rd_T46 ys m)).f1 < 0) = false := by simp; omega
          have d2 : decide (S'.size < (f (rd_T46 ys m)).f1) = false := by simp; omega
          have HSz : ∀ q, Calls Try.prog 18 #[.pointer (some ⟨g, 0, none⟩)] (w9.drewN q) fun e w' => e = .returned (.int .i64 S'.size) ∧ w' = w9.drewN q := fun q => (Size_any w2.heap.size g (w9.drewN q) S'.size S'.next S'.xs (SetAt.below (HS7.out.below HB9.out) (show Below w9.heap.size w9 (w9.drewN q) from pw_below_drewN (Below.refl _ _) q))).mono (by rintro e w' ⟨rfl, rfl⟩; exact ⟨rfl, rfl⟩)
          go_quiet ((go_at_call 18; exact Calls.quiet_of_same (HSz _)))
          (try simp only [World.drewN_drewN])
          have HZ' := HZ
          obtain ⟨wq, hwq⟩ : ∃ wq, wq = w9.drewN nq := ⟨_, rfl⟩
          rw [← hwq]
          have HBq := Aside0.mk (show Below w7.heap.size w7 wq by rw [hwq]; exact pw_below_drewN HB9.out _)
          have HZq := Aside0.mk (show wq.heap[z13]? = some (.cells #[.int .i64 (f (rd_T46 ys m)).f0, .int .i64 (f (rd_T46 ys m)).f1, .bool (f (rd_T46 ys m)).f2] 46 (0, 0)) by rw [hwq]; exact HZ.out)
          clear hwq z1 d1 d2 HSz HZ HZ' HB9
          go_wp2_with fail
          go_loopw [15] (fun i2 wr2 => ∃ k : Nat, k ≤ m ∧ i2 = .int .i64 k ∧ Aside0 (Below wq.heap.size wq wr2)) (fun i2 _ => m - (intOf i2).toNat)
          case atStart => exact ⟨0, Nat.zero_le _, rfl, ⟨Below.refl _ _⟩⟩
          case round =>
            obtain ⟨k, hk, rfl, HBk⟩ := hrel
            rename_i wr2 _
            have HB27 := Aside0.mk (HBq.out.trans (HBk.out.mono HBq.out.size))
            by_cases hlt2 : k < m
            · have hkl : k < ys.length := by omega
              obtain ⟨_, e, y0, y1, y2⟩ := at_T46 (Kd.C_below HC7.out HB27.out) (k : Int) (by omega) (by omega)
              cases e
              rw [Int.toNat_natCast] at y0 y1 y2
              go_wp2_with fail
              refine (M_get (rd_T46 ys k).f0 (HS7.out.below HB27.out) HG6.out).mono ?_
              rintro e w10 ⟨rfl, hB10⟩
              rw [HGet.out k hkl]
              dsimp only
              have HB10 := Aside0.mk (show Below w7.heap.size w7 w10 from HB27.out.trans (hB10.mono HB27.out.size))
              have HBq10 := Aside0.mk (show Below wq.heap.size wq w10 from HBk.out.trans (hB10.mono HBk.out.size))
              clear hB10 y0 y1 y2
              go_wp2_with fail
              have HB11 := Aside0.mk (show Below w7.heap.size w7 (w10.alloc (.cells #[.int .i64 (f (rd_T46 ys k)).f0, .int .i64 (f (rd_T46 ys k)).f1, .bool (f (rd_T46 ys k)).f2] 46)) from below_alloc HB10.out _)
              have HBq11 := Aside0.mk (show Below wq.heap.size wq (w10.alloc (.cells #[.int .i64 (f (rd_T46 ys k)).f0, .int .i64 (f (rd_T46 ys k)).f1, .bool (f (rd_T46 ys k)).f2] 46)) from below_alloc HBq10.out _)
              have hz := blk_new w10 (.cells #[.int .i64 (f (rd_T46 ys k)).f0, .int .i64 (f (rd_T46 ys k)).f1, .bool (f (rd_T46 ys k)).f2] 46)
              generalize w10.alloc (.cells #[.int .i64 (f (rd_T46 ys k)).f0, .int .i64 (f (rd_T46 ys k)).f1, .bool (f (rd_T46 ys k)).f2] 46) = w11 at *
              have t1 : w11.cell? ⟨w10.heap.size, 1, none⟩ = some (.int .i64 (f (rd_T46 ys k)).f1) := (blk_cell hz 1).trans rfl
              generalize w10.heap.size = z16 at *
              have t2 : w11.cell? ⟨z13, 1, none⟩ = some (.int .i64 (f (rd_T46 ys m)).f1) := (blk_cell (blk_below HZq.out HBq11.out) 1).trans rfl
              obtain ⟨_, e, _, y1, _⟩ := at_T46 (Kd.C_below HC7.out HB11.out) (k : Int) (by omega) (by omega)
              cases e
              obtain ⟨_, e, _, x1, _⟩ := at_T46 (Kd.C_below HC7.out HB11.out) (m : Int) (by omega) (by omega)
              cases e
              rw [Int.toNat_natCast] at y1 x1
              have hkm2 : (k : Int) < (ys.length : Int) := by omega
              have hmm2 : (m : Int) < (ys.length : Int) := by omega
              have hmn := HMono.out (rd_T46 ys k) (rd_T46 ys m)
              clear hz HB10 HBq10
              by_cases hlp : (rd_T46 ys k).f1 < (rd_T46 ys m).f1
              · have d3 : decide ((rd_T46 ys k).f1 < (rd_T46 ys m).f1) = true := decide_eq_true hlp
                have d4 : decide ((f (rd_T46 ys m)).f1 < (f (rd_T46 ys k)).f1) = false := by have := hmn hlp; simp; omega
                clear hmn hlp
                go_quiet (fail)
                (try simp only [World.drewN_drewN])
                go_wp2
                go_roundw
                case rel => exact ⟨k + 1, by omega, by go_num, ⟨pw_below_drewN HBq11.out _⟩⟩
                case measure => simp [intOf]; omega
              · have d3 : decide ((rd_T46 ys k).f1 < (rd_T46 ys m).f1) = false := decide_eq_false hlp
                clear hmn hlp
                go_quiet (fail)
                (try simp only [World.drewN_drewN])
                go_wp2
                go_roundw
                case rel => exact ⟨k + 1, by omega, by go_num, ⟨pw_below_drewN HBq11.out _⟩⟩
                case measure => simp [intOf]; omega
            · have hd : decide ((k : Int) < (m : Int)) = false := by simp; omega
              go_wp2
              go_roundw
              case rel => exact ⟨m + 1, by omega, by go_num, HB27⟩
              case measure => simp [intOf]; omega
        · have hme : m = ys.length := by omega
          have hd : decide ((m : Int) < (ys.length : Int)) = false := by simp; omega
          go_wp2
          go_ret
          exact ⟨rfl, HB7.out.trans (HB.out.mono HB7.out.size)⟩
  · have hk1 : (k != 1) = true := by simp; omega
    have hk2 : (k != 2) = true := by simp; omega
    clear hk
    go_wp2
    go_ret
    exact ⟨rfl, HB2.out⟩
end Go.Proofs.Ytfcaodnfiakdoaa.Mk
