/- What is inserted and deleted again leaves every mark where it was: the law's call returns true; no condition beside how the list of calls lies. -/
import Derived.Test.YtfcaodnfiakdoaaNd
import Derived.Test.YtfcaodnfiakdoaaNm
import Derived.Test.YtfcaodnfiakdoaaWEqStruct
import Derived.BigQuiet
import Derived.Deep.QuietTactic
namespace Go.Proofs.Ytfcaodnfiakdoaa.Mk
open Go.RowKit Go.Sort Go.Proofs.YtfcaodnfiakdoaaW.PrintWords Go.Proofs.YtfcaodnfiakdoaaW.PrintLast Go.Proofs.YtfcaodnfiakdoaaW.PrintMore Go.Proofs.Ytfcaodnfiakdoaa.PMarksPlay
set_option linter.unusedVariables false
set_option linter.unusedSimpArgs false

theorem Good.bounded {B : Int} {s : St} (h : Good B s) (hb : B ≤ 1000000) : ∀ m ∈ s.xs, Bounded m := fun m hm => by
  have h1 := h.fine m hm
  have h2 := h.ids m hm
  have := h.n1
  have := h.s1
  exact ⟨⟨h1.1, by omega⟩, by omega, by omega⟩

theorem back_mark (a n : Int) (hn : 0 ≤ n) (m : S46) : squeeze a (a + n) (bump a n m) = m := by
  obtain ⟨i, p, st⟩ := m
  unfold squeeze bump moved
  dsimp only
  by_cases h : a < p ∨ (p = a ∧ st = false)
  · rw [if_pos h]
    dsimp only
    rw [if_pos (by omega)]
    congr 1; omega
  · rw [if_neg h]
    dsimp only
    have hp : p ≤ a := by omega
    by_cases h2 : a + n ≤ p
    · rw [if_pos h2]; congr 1; omega
    · rw [if_neg h2, if_neg (by omega)]
theorem back_all (a n : Int) (hn : 0 ≤ n) (xs : List S46) : (xs.map (bump a n)).map (squeeze a (a + n)) = xs := by
  rw [List.map_map]
  conv => rhs; rw [← List.map_id xs]
  apply List.map_congr_left
  intro m _
  exact back_mark a n hn m

set_option maxRecDepth 100000 in
theorem size_yes (w : World) (n : Int) (h0 : 0 ≤ n) (h1 : n ≤ 65536) : Calls Try.prog 13 #[.int .i64 n] w fun e w' => e = .returned (.bool true) ∧ Below w.heap.size w w' := by
  go_enter Try.func13, Try.ntmps13
  go_wp2
  go_ret
  exact ⟨rfl, by first | exact Below.refl _ _ | exact Below.drew (Below.refl _ _)⟩
set_option maxRecDepth 100000 in
theorem size_no (w : World) (n : Int) (h : n < 0 ∨ 65536 < n) : Calls Try.prog 13 #[.int .i64 n] w fun e w' => e = .returned (.bool false) ∧ Below w.heap.size w w' := by
  by_cases h0 : n < 0
  · clear h
    go_enter Try.func13, Try.ntmps13
    go_wp2
    go_ret
    exact ⟨rfl, by first | exact Below.refl _ _ | exact Below.drew (Below.refl _ _)⟩
  · have h1 : 65536 < n := by omega
    have h2 : 0 ≤ n := by omega
    have h3 : decide (n ≤ 65536) = false := by simp; omega
    clear h h0
    go_enter Try.func13, Try.ntmps13
    go_wp2
    go_ret
    exact ⟨rfl, by first | exact Below.refl _ _ | exact Below.drew (Below.refl _ _)⟩

theorem ins_refused {N base g : Nat} {w : World} {size next : Int} {xs : List S46} (a n : Int) (hS : SetAt base w g size next xs) (hs : size ≤ 65536) (h : ¬ (0 ≤ a ∧ a ≤ size ∧ 0 ≤ n ∧ n ≤ 65536 - size)) :
    Calls Try.prog 19 #[.pointer (some ⟨g, 0, none⟩), .int .i64 a, .int .i64 n] w fun e w' => ∃ r : Int, e = .returned (.int .i64 r) ∧ (r == 0) = false ∧ w = w' := by
  by_cases h1 : a < 0 ∨ size < a
  · refine (Insert_where _ g w _ _ a n _ hS h1).mono ?_
    rintro e w' ⟨rfl, rfl⟩
    exact ⟨_, rfl, rfl, rfl⟩
  · by_cases h2 : n < 0
    · refine (Insert_neg _ g w _ _ a n _ hS (by omega) (by omega) h2).mono ?_
      rintro e w' ⟨rfl, rfl⟩
      exact ⟨_, rfl, rfl, rfl⟩
    · refine (Insert_size _ g w _ _ a n _ hS (by omega) (by omega) hs (by omega) (by omega)).mono ?_
      rintro e w' ⟨rfl, rfl⟩
      exact ⟨_, rfl, rfl, rfl⟩

theorem R_pkept {w w' : World} {N : Nat} {v : Value} {xs : List S46} (h : Kd.R k46 46 w N (fun _ => True) v xs) (hp : PKept N w w') : Kd.R k46 46 w' N (fun _ => True) v xs :=
  Kd.R_mono (Kd.R_step (Kd.R_bound h) (fun k hk hlt => hp k hk.2.1 hlt)) (fun _ _ => trivial)

theorem eqA46 (d : Nat) (w : World) (x0 : Int) (x1 : Int) (x2 : Bool) :
    (Op.equalIn (d + 2) 46 (.agg #[.int .i64 x0, .int .i64 x1, .bool x2]) (.agg #[.int .i64 x0, .int .i64 x1, .bool x2])).run Try.prog w = .ok true w := by
  refine eqA_of Try.underlying46 (by kernel_rfl) ?_
  refine eqf_cons (r := true) (s := true) (by rfl) (by go_simp; rfl) (by go_simp; rfl) (by go_simp) ?_
  refine eqf_cons (r := true) (s := true) (by rfl) (by go_simp; rfl) (by go_simp; rfl) (by go_simp) ?_
  exact eqf_last (by rfl) (by go_simp; rfl) (by go_simp; rfl) (by go_simp)

attribute [local go_sem high] eqA46
set_option maxHeartbeats 8000000 in
set_option maxRecDepth 100000 in
theorem back_any (w : World) (n : Int) (A : Option Addr) (c : Nat) (l : List S34) (k a b : Int) (st : Bool) (hC : Kd.C k34 w A l.length l) (hl : l.length ≤ 140737488351232) :
    Calls Try.prog 5 #[.int .i64 n, .slice A l.length c, .agg #[.int .i64 k, .int .i64 a, .int .i64 b, .bool st]] w fun e w' => e = .returned (.bool true) ∧ Below w.heap.size w w' := by
  have HC := Aside0.mk hC
  clear hC
  go_enter Try.func5, Try.ntmps5
  go_wp2_with fail
  refine (awake_any _).mono ?_
  rintro e w1 ⟨rfl, hB1⟩
  have HBOX1 := Aside0.mk (show w1.heap[w.heap.size]? = some (.cells #[.int .i64 k, .int .i64 a, .int .i64 b, .bool st] 34 (0, 0)) from blk_below (by simpa using heap_alloc_new w _) hB1)
  have HB1 := Aside0.mk (show Below w.heap.size w w1 from (below_alloc (Below.refl _ _) _).trans (hB1.mono (by simp)))
  clear hB1
  go_wp2_with fail
  by_cases hn : n < 0 ∨ 65536 < n
  · refine (size_no _ n hn).mono ?_
    rintro e w2 ⟨rfl, hB2⟩
    have HB2 := Aside0.mk (HB1.out.trans (hB2.mono HB1.out.size))
    clear hB2
    go_wp2
    go_ret
    exact ⟨rfl, HB2.out⟩
  have hn0 : 0 ≤ n := by omega
  have hn1 : n ≤ 65536 := by omega
  clear hn
  refine (size_yes _ n hn0 hn1).mono ?_
  rintro e w2 ⟨rfl, hB2⟩
  have HB2 := Aside0.mk (HB1.out.trans (hB2.mono HB1.out.size))
  have HBOX2 := Aside0.mk (blk_below HBOX1.out hB2)
  have HC2 := Aside0.mk (Kd.C_below HC.out HB2.out)
  clear hB2 HBOX1 HB1 HC
  have HBX := HBOX2
  go_wp2_with fail
  refine (played_any w2 n A c l hn0 hn1 HC2.out hl).mono ?_
  rintro e w3 ⟨g, v', rfl, hG⟩
  have HGood := Aside0.mk ((play_good (l.take 80) (fresh_good hn0 hn1)).more (show (0 : Int) + ((l.take 80).length : Int) ≤ 80 by simp; omega))
  generalize play (fresh n) (l.take 80) = S at *
  obtain ⟨A1, n1, c1, rfl⟩ := hG.row.form
  have HG := Aside0.mk hG
  have HBOX3 := Aside0.mk (blk_below HBOX2.out hG.below)
  clear hG HBOX2 HC2
  go_wp2_with fail
  have HG4 := Aside0.mk (HG.out.alloc (.cells #[.int .i64 S.size, .int .i64 S.next, .slice A1 n1 c1] 38))
  have HBOX4 := Aside0.mk (blk_below HBOX3.out (below_alloc (Below.refl _ _) (.cells #[.int .i64 S.size, .int .i64 S.next, .slice A1 n1 c1] 38)))
  generalize w3.alloc (.cells #[.int .i64 S.size, .int .i64 S.next, .slice A1 n1 c1] 38) = w4 at *
  have hlen := HGood.out.len
  refine (All_any _ g w4 S.size S.next S.xs HG4.out.at_ (by omega) (HGood.out.bounded (by omega)) HGood.out.rise).mono ?_
  rintro e w5 ⟨v1, rfl, hR5, hB5⟩
  have HIN5 := Aside0.mk ((SetAt.in_ HG4.out.at_).below hB5)
  have HBOX5 := Aside0.mk (blk_below HBOX4.out hB5)
  have HB5 := Aside0.mk (show Below w2.heap.size w2 w5 from HG4.out.below.trans (hB5.mono HG4.out.below.size))
  have HR5 := Aside0.mk hR5
  obtain ⟨A2, c2, rfl⟩ := Kd.R_slice hR5
  clear hR5 hB5 HBOX3 HBOX4 HG HG4
  generalize w4.heap.size = N at *
  have q0 : w5.cell? ⟨w.heap.size, 1, none⟩ = some (.int .i64 a) := (blk_cell HBOX5.out 1).trans rfl
  have q1 : w5.cell? ⟨w.heap.size, 2, none⟩ = some (.int .i64 b) := (blk_cell HBOX5.out 2).trans rfl
  go_wp2_with fail
  have hs0 := HGood.out.s0
  have hs1 := HGood.out.s1
  by_cases hok : 0 ≤ a ∧ a ≤ S.size ∧ 0 ≤ b ∧ b ≤ 65536 - S.size
  · obtain ⟨ha0, ha1, hb0, hb1⟩ := hok
    refine (Insert_yesN N w2 w5 g S.size S.next a b S.xs HB5.out HIN5.out (by omega) HGood.out.fine ha0 ha1 hs1 hb0 hb1).mono ?_
    rintro e w6 ⟨rfl, hS6, hB6, hK6⟩
    have HR6 := Aside0.mk (R_pkept HR5.out hK6.2)
    have HS6 := Aside0.mk hS6
    have HB6 := Aside0.mk hB6
    have HF6 := Aside0.mk (show Fine (S.size + b) (S.xs.map (bump a b)) by
      have h := (ins_good HGood.out a b).fine
      unfold ins at h
      rw [if_neg (by omega), if_neg (by omega), if_neg (by omega)] at h
      exact h)
    have q2 : w6.cell? ⟨w.heap.size, 1, none⟩ = some (.int .i64 a) := (blk_cell (blk_below HBX.out hB6) 1).trans rfl
    have q3 : w6.cell? ⟨w.heap.size, 2, none⟩ = some (.int .i64 b) := (blk_cell (blk_below HBX.out hB6) 2).trans rfl
    clear hS6 hB6 hK6 q0 q1 HR5 HIN5 HBOX5 HB5
    go_wp2_with fail
    refine (Delete_yesN N w2 w6 g (S.size + b) S.next a (a + b) (S.xs.map (bump a b)) HB6.out HS6.out (by rw [List.length_map]; omega) HF6.out ha0 (by omega) (by omega) (by omega)).mono ?_
    rintro e w7 ⟨rfl, hS7, hB7, hK7⟩
    rw [back_all _ _ hb0] at hS7
    have HR7 := Aside0.mk (R_pkept HR6.out hK7.2)
    have HB7 := Aside0.mk hB7
    have HS7 := Aside0.mk hS7.at_
    clear hS7 hB7 hK7 q2 q3 HR6 HS6 HB6 HF6
    go_wp2_with fail
    refine (All_any _ g w7 _ S.next S.xs HS7.out (by omega) (HGood.out.bounded (by omega)) HGood.out.rise).mono ?_
    rintro e w8 ⟨v2, rfl, hR8, hB8⟩
    have HC1 := Aside0.mk (Kd.R_reads' (Kd.R_below HR7.out hB8)).2.2
    obtain ⟨A3, c3, rfl⟩ := Kd.R_slice hR8
    have HC2 := Aside0.mk (Kd.R_reads' hR8).2.2
    have HB8 := Aside0.mk (show Below w.heap.size w w8 from (HB2.out.trans (HB7.out.mono HB2.out.size)).trans (hB8.mono (by have h1 := HB2.out.size; have h2 := HB7.out.size; omega)))
    have hlen8 : (sortM S.xs).length ≤ 1024 := by unfold sortM; rw [List.length_mergeSort]; omega
    clear hR8 hB8 HR7 HS7 HB7
    generalize sortM S.xs = ys at *
    go_wp2_with fail
    go_loopw [11] (fun i wr => ∃ m : Nat, m ≤ ys.length ∧ i = .int .i64 m ∧ Aside0 (Below w8.heap.size w8 wr)) (fun i _ => ys.length - (intOf i).toNat)
    case atStart => exact ⟨0, Nat.zero_le _, rfl, ⟨Below.refl _ _⟩⟩
    case round =>
      obtain ⟨m, hm, rfl, HB⟩ := hrel
      by_cases hlt : m < ys.length
      · obtain ⟨ad1, rfl, x0, x1, x2⟩ := at_T46 (Kd.C_below HC1.out HB.out) (m : Int) (by omega) (by omega)
        obtain ⟨ad2, rfl, y0, y1, y2⟩ := at_T46 (Kd.C_below HC2.out HB.out) (m : Int) (by omega) (by omega)
        rw [Int.toNat_natCast] at x0 x1 x2 y0 y1 y2
        generalize (rd_T46 ys m).f0 = z0 at *
        generalize (rd_T46 ys m).f1 = z1 at *
        generalize (rd_T46 ys m).f2 = z2 at *
        go_wp2
        go_quiet (fail)
        (try simp only [World.drewN_drewN])
        go_wp2
        go_roundw
        case rel => exact ⟨m + 1, by omega, by go_num, ⟨pw_below_drewN HB.out _⟩⟩
        case measure => simp [intOf]; omega
      · have hme : m = ys.length := by omega
        have hd : decide ((m : Int) < (ys.length : Int)) = false := by simp; omega
        go_wp2
        go_ret
        exact ⟨rfl, HB8.out.trans (HB.out.mono HB8.out.size)⟩
  · refine (ins_refused (N := N) a b HIN5.out.at_ hs1 hok).mono ?_
    rintro e w6 ⟨r, rfl, hr, rfl⟩
    go_wp2
    go_ret
    exact ⟨rfl, HB2.out.trans (HB5.out.mono HB2.out.size)⟩
end Go.Proofs.Ytfcaodnfiakdoaa.Mk
