/- A text has so many marks and no more, and their numbers are given out once: the law's call returns true for every two numbers. -/
import Derived.Test.YtfcaodnfiakdoaaMx
namespace Go.Proofs.Ytfcaodnfiakdoaa.Mk
open Go.RowKit Go.Proofs.YtfcaodnfiakdoaaW.PrintWords Go.Proofs.YtfcaodnfiakdoaaW.PrintLast Go.Proofs.YtfcaodnfiakdoaaW.PrintMore Go.Proofs.Ytfcaodnfiakdoaa.PMarksPlay
attribute [local go_sem] max2_int min2_int
set_option linter.unusedVariables false
set_option linter.unusedSimpArgs false

def marksOf (k : Nat) : List S46 := (List.range k).map fun (j : Nat) => (⟨(j : Int) + 1, (j : Int) % 10, (j : Int) % 2 == 0⟩ : S46)
def many (k : Nat) : St := ⟨9, ((min k 1024 : Nat) : Int), marksOf (min k 1024)⟩
theorem marksOf_length (k : Nat) : (marksOf k).length = k := by simp [marksOf]
theorem marksOf_succ (k : Nat) : marksOf (k + 1) = marksOf k ++ [⟨(k : Int) + 1, (k : Int) % 10, (k : Int) % 2 == 0⟩] := by simp [marksOf, List.range_succ]
theorem marksOf_get (k j : Nat) (h : j < k) : rd_T46 (marksOf k) j = ⟨(j : Int) + 1, (j : Int) % 10, (j : Int) % 2 == 0⟩ := by simp [rd_T46, marksOf, h]
theorem many_lt (k : Nat) (h : k < 1024) : put (many k) ((k : Int) % 10) ((k : Int) % 2 == 0) = (many (k + 1), (k : Int) + 1, 0) := by
  unfold put many
  rw [if_neg (by dsimp only; omega), if_neg (by rw [marksOf_length]; omega), show min k 1024 = k by omega, show min (k + 1) 1024 = k + 1 by omega, marksOf_succ]
  simp
theorem many_ge (k : Nat) (h : 1024 ≤ k) : put (many k) ((k : Int) % 10) ((k : Int) % 2 == 0) = (many (k + 1), 0, 2) := by
  unfold put many
  rw [if_neg (by dsimp only; omega), if_pos (by rw [marksOf_length]; omega), show min k 1024 = 1024 by omega, show min (k + 1) 1024 = 1024 by omega]
theorem many_good (k : Nat) : Good 1024 (many k) := by
  refine ⟨by show (0:Int) ≤ 9; omega, by show (9:Int) ≤ 65536; omega, by show (0:Int) ≤ ((min k 1024 : Nat) : Int); omega, by show ((min k 1024 : Nat) : Int) ≤ 1024; omega, ?_, ?_, ?_, ?_⟩
  · show (marksOf _).length ≤ 1024
    rw [marksOf_length]; omega
  · intro m hm
    obtain ⟨j, hj, rfl⟩ := List.mem_map.1 hm
    show 0 ≤ (j : Int) % 10 ∧ (j : Int) % 10 ≤ 9
    omega
  · intro m hm
    obtain ⟨j, hj, rfl⟩ := List.mem_map.1 hm
    have := List.mem_range.1 hj
    show 1 ≤ (j : Int) + 1 ∧ (j : Int) + 1 ≤ ((min k 1024 : Nat) : Int)
    omega
  · show (marksOf _).Pairwise _
    unfold marksOf
    rw [List.pairwise_map]
    refine List.Pairwise.imp ?_ List.pairwise_lt_range
    intro a b hab
    show (a : Int) + 1 < (b : Int) + 1
    omega
theorem many_zero : many 0 = fresh 9 := rfl
theorem marksOf_place (m : Nat) (d : Int) : place (marksOf m) d = if 1 ≤ d ∧ d ≤ m then d - 1 else -1 := by
  split
  · rename_i h
    obtain ⟨j, hj⟩ : ∃ j : Nat, d = (j : Int) + 1 := ⟨(d - 1).toNat, by omega⟩
    subst hj
    have := place_at (xs := marksOf m) (id := (j : Int) + 1) (k := j) (by rw [marksOf_length]; omega) (by rw [marksOf_get m j (by omega)]) (fun i hi => by rw [marksOf_get m i (by omega)]; show ¬ (i : Int) + 1 = (j : Int) + 1; omega)
    rw [this]; omega
  · rename_i h
    apply place_no
    intro j hj
    rw [marksOf_length] at hj
    rw [marksOf_get m j hj]
    show ¬ (j : Int) + 1 = d
    omega

/-- A mark that is gone isn't found, nor among those and one of another number. -/
theorem place_gone {xs : List S46} (hr : xs.Pairwise (fun a b => a.f0 < b.f0)) {k : Nat} (hk : k < xs.length) (p : S46) (hp : p.f0 ≠ (rd_T46 xs k).f0) : place (xs.eraseIdx k ++ [p]) (rd_T46 xs k).f0 = -1 := by
  have e : rd_T46 xs k = xs[k] := by simp [rd_T46, hk]
  have hno : (xs.eraseIdx k ++ [p]).findIdx? (fun m => m.f0 == (rd_T46 xs k).f0) = none := by
    rw [List.findIdx?_eq_none_iff]
    intro m hm
    rcases List.mem_append.1 hm with hm | hm
    · obtain ⟨i, hi, rfl⟩ := List.getElem_of_mem hm
      rw [List.pairwise_iff_getElem] at hr
      have hle : (xs.eraseIdx k).length = xs.length - 1 := List.length_eraseIdx_of_lt hk
      rw [List.getElem_eraseIdx, e]
      split
      · rename_i h
        have := hr i k (by omega) hk h
        simp; omega
      · rename_i h
        have := hr k (i + 1) hk (by omega) (by omega)
        simp; omega
    · rw [List.mem_singleton.1 hm]
      simpa using hp
  simp [place, hno]

def allOf (m : Nat) : St := ⟨9, m, marksOf m⟩
def less (m j : Nat) : St := ⟨9, m, (marksOf m).eraseIdx j⟩
def onceMore (m j : Nat) : St := ⟨9, (m : Int) + 1, (marksOf m).eraseIdx j ++ [⟨(m : Int) + 1, 0, true⟩]⟩
theorem many_eq (k : Nat) : many k = allOf (min k 1024) := rfl
theorem drp_in (m j : Nat) (h : j < m) : drp (allOf m) ((j : Int) + 1) = (less m j, 0) := by
  unfold drp
  have e : place (allOf m).xs ((j : Int) + 1) = (j : Int) := by
    show place (marksOf m) _ = _
    rw [marksOf_place, if_pos (by omega)]; omega
  rw [e, if_neg (by omega)]
  rfl
theorem drp_out (m : Nat) (d : Int) (h : d < 1 ∨ m < d) : drp (allOf m) d = (allOf m, 160) := by
  unfold drp
  have e : place (allOf m).xs d = -1 := by
    show place (marksOf m) _ = _
    rw [marksOf_place, if_neg (by omega)]
  rw [e, if_pos (by omega)]
theorem put_less (m j : Nat) (h : j < m) (hm : m ≤ 1024) : put (less m j) 0 true = (onceMore m j, (m : Int) + 1, 0) := by
  unfold put
  have hl : (less m j).xs.length = m - 1 := by
    show ((marksOf m).eraseIdx j).length = _
    rw [List.length_eraseIdx_of_lt (by rw [marksOf_length]; exact h), marksOf_length]
  rw [if_neg (by show ¬ ((0 : Int) < 0 ∨ (9 : Int) < 0); omega), if_neg (by omega)]
  rfl
theorem onceMore_length (m j : Nat) (h : j < m) : (onceMore m j).xs.length = m := by
  show ((marksOf m).eraseIdx j ++ [_]).length = _
  rw [List.length_append, List.length_eraseIdx_of_lt (by rw [marksOf_length]; exact h), marksOf_length]
  simp; omega
theorem drp_again (m j : Nat) (h : j < m) (hm : m ≤ 1024) : drp (onceMore m j) ((j : Int) + 1) = (onceMore m j, 160) := by
  unfold drp
  have hr : (marksOf m).Pairwise (fun a b => a.f0 < b.f0) := by
    have := (many_good m).rise
    rwa [many_eq, show min m 1024 = m by omega] at this
  have e : place (onceMore m j).xs ((j : Int) + 1) = -1 := by
    have h1 := place_gone hr (k := j) (by rw [marksOf_length]; exact h) ⟨(m : Int) + 1, 0, true⟩ (by rw [marksOf_get m j h]; show ¬ (m : Int) + 1 = (j : Int) + 1; omega)
    rw [marksOf_get m j h] at h1
    exact h1
  rw [e, if_pos (by omega)]
theorem allOf_good (m : Nat) (hm : m ≤ 1024) : Good 1024 (allOf m) := by have := many_good m; rwa [many_eq, show min m 1024 = m by omega] at this
theorem less_good (m j : Nat) (h : j < m) (hm : m ≤ 1024) : Good 1024 (less m j) := by have := drp_good (allOf_good m hm) ((j : Int) + 1); rwa [drp_in m j h] at this
theorem onceMore_good (m j : Nat) (h : j < m) (hm : m ≤ 1024) : Good 1025 (onceMore m j) := by have := put_good (less_good m j h hm) 0 true; rwa [put_less m j h hm] at this

set_option maxHeartbeats 4000000 in
set_option maxRecDepth 100000 in
theorem many_low (w : World) (n d : Int) (h : n < 0 ∨ 1100 < n) : Calls Try.prog 3 #[.int .i64 n, .int .i64 d] w fun e w' => e = .returned (.bool true) ∧ Below w.heap.size w w' := by
  by_cases h0 : n < 0
  · clear h
    go_enter Try.func3, Try.ntmps3
    go_wp2_with (go_at_call 8; refine (awake_any _).mono ?_; rintro e w1 ⟨rfl, hB⟩)
    go_ret
    exact ⟨rfl, hB⟩
  · have h1 : 1100 < n := by omega
    clear h
    go_enter Try.func3, Try.ntmps3
    go_wp2_with (go_at_call 8; refine (awake_any _).mono ?_; rintro e w1 ⟨rfl, hB⟩)
    go_ret
    exact ⟨rfl, hB⟩

set_option maxHeartbeats 8000000 in
set_option maxRecDepth 100000 in
theorem many_any (w : World) (n d : Int) (h0 : 0 ≤ n) (h1 : n ≤ 1100) : Calls Try.prog 3 #[.int .i64 n, .int .i64 d] w fun e w' => e = .returned (.bool true) ∧ Below w.heap.size w w' := by
  obtain ⟨n, rfl⟩ := Int.eq_ofNat_of_zero_le h0
  go_enter Try.func3, Try.ntmps3
  go_wp2_with fail
  refine (awake_any _).mono ?_
  rintro e w1 ⟨rfl, hB⟩
  go_wp2_with fail
  refine (New_yes 9 (by omega) (by omega) _).mono ?_
  rintro e w2 ⟨rfl, hw2⟩
  have HB2 := Aside0.mk (show Below w.heap.size w w2 by rw [hw2]; exact below_alloc hB _)
  have HS2 := Aside0.mk (show At w w2 w1.heap.size (many 0) by rw [hw2]; exact ⟨hB.size, _, blk_new w1 _, Kd.R_nil _ _ _ _ _⟩)
  clear hw2 hB
  generalize w1.heap.size = g at *
  go_wp2_with fail
  go_loopw [7] (fun i wr => ∃ k : Nat, k ≤ n ∧ i = .int .i64 k ∧ Aside0 (At w wr g (many k)) ∧ Aside0 (Below w.heap.size w wr)) (fun i _ => n - (intOf i).toNat)
  case atStart => exact ⟨0, Nat.zero_le _, rfl, HS2, HB2⟩
  case round =>
    obtain ⟨k, hk, rfl, HS, HB⟩ := hrel
    by_cases hlt : k < n
    · go_wp2_with fail
      refine (M_put _ _ HB.out HS.out (many_good k) (by omega)).mono ?_
      rintro e w3 ⟨rfl, hS3, hB3, _⟩
      have HS3 := Aside0.mk hS3
      have HB3 := Aside0.mk hB3
      clear hS3 hB3
      by_cases h8 : k < 1024
      · rw [many_lt k h8] at HS3 ⊢
        dsimp only at HS3 ⊢
        go_wp2
        go_roundw
        case rel => exact ⟨k + 1, by omega, by go_num, HS3, HB3⟩
        case measure => simp [intOf]; omega
      · rw [many_ge k (by omega)] at HS3 ⊢
        dsimp only at HS3 ⊢
        go_wp2
        go_roundw
        case rel => exact ⟨k + 1, by omega, by go_num, HS3, HB3⟩
        case measure => simp [intOf]; omega
    · have hd : decide ((k : Int) < (n : Int)) = false := by simp; omega
      have hkn : k = n := by omega
      subst hkn
      by_cases hm : k ≤ 1024
      · have hm' : (k : Int) ≤ 1024 := by omega
        have HS2 := Aside0.mk (show At w wr g (allOf k) by have h := HS.out; rw [many_eq, show min k 1024 = k by omega] at h; exact h)
        go_wp2_with fail
        refine (Count_any _ g _ _ _ _ HS2.out).mono ?_
        rintro e w4 ⟨rfl, rfl⟩
        rw [show (allOf k).xs.length = k from marksOf_length _]
        go_wp2_with fail
        by_cases hdr : 1 ≤ d ∧ d ≤ (k : Int)
        · obtain ⟨j, hj⟩ : ∃ j : Nat, d = (j : Int) + 1 := ⟨(d - 1).toNat, by omega⟩
          have hjm : j < k := by omega
          subst hj
          clear hdr
          refine (M_drp _ HB.out HS2.out (allOf_good _ (by omega))).mono ?_
          rintro e w5 ⟨rfl, hS5, hB5, _⟩
          rw [drp_in _ j hjm] at hS5 ⊢
          dsimp only at hS5 ⊢
          have HS5 := Aside0.mk hS5
          have HB5 := Aside0.mk hB5
          clear hS5 hB5
          go_wp2_with fail
          refine (M_put _ _ HB5.out HS5.out (less_good _ j hjm (by omega)) (by omega)).mono ?_
          rintro e w6 ⟨rfl, hS6, hB6, _⟩
          rw [put_less _ j hjm (by omega)] at hS6 ⊢
          dsimp only at hS6 ⊢
          have HS6 := Aside0.mk hS6
          have HB6 := Aside0.mk hB6
          clear hS6 hB6
          go_wp2_with fail
          refine (Count_any _ g _ _ _ _ HS6.out).mono ?_
          rintro e w7 ⟨rfl, rfl⟩
          rw [onceMore_length _ j hjm]
          go_wp2_with fail
          refine (M_drp _ HB6.out HS6.out (onceMore_good _ j hjm (by omega))).mono ?_
          rintro e w8 ⟨rfl, hS8, hB8, _⟩
          rw [drp_again _ j hjm (by omega)]
          dsimp only
          clear hS8
          go_wp2
          go_ret
          exact ⟨rfl, hB8⟩
        · refine (M_drp _ HB.out HS2.out (allOf_good _ (by omega))).mono ?_
          rintro e w5 ⟨rfl, hS5, hB5, _⟩
          rw [drp_out _ d (by omega)]
          dsimp only
          clear hS5
          by_cases hd1 : d < 1
          · clear hdr
            go_wp2
            go_ret
            exact ⟨rfl, hB5⟩
          · have hd2 : (k : Int) < d := by omega
            clear hdr
            go_wp2
            go_ret
            exact ⟨rfl, hB5⟩
      · have hm' : (1024 : Int) < (k : Int) := by omega
        have HS2 := Aside0.mk (show At w wr g (allOf 1024) by have h := HS.out; rw [many_eq, show min k 1024 = 1024 by omega] at h; exact h)
        go_wp2_with fail
        refine (Count_any _ g _ _ _ _ HS2.out).mono ?_
        rintro e w4 ⟨rfl, rfl⟩
        rw [show (allOf 1024).xs.length = 1024 from marksOf_length _]
        go_wp2_with fail
        by_cases hdr : 1 ≤ d ∧ d ≤ 1024
        · obtain ⟨j, hj⟩ : ∃ j : Nat, d = (j : Int) + 1 := ⟨(d - 1).toNat, by omega⟩
          have hjm : j < 1024 := by omega
          subst hj
          clear hdr
          refine (M_drp _ HB.out HS2.out (allOf_good _ (by omega))).mono ?_
          rintro e w5 ⟨rfl, hS5, hB5, _⟩
          rw [drp_in _ j hjm] at hS5 ⊢
          dsimp only at hS5 ⊢
          have HS5 := Aside0.mk hS5
          have HB5 := Aside0.mk hB5
          clear hS5 hB5
          go_wp2_with fail
          refine (M_put _ _ HB5.out HS5.out (less_good _ j hjm (by omega)) (by omega)).mono ?_
          rintro e w6 ⟨rfl, hS6, hB6, _⟩
          rw [put_less _ j hjm (by omega)] at hS6 ⊢
          dsimp only at hS6 ⊢
          have HS6 := Aside0.mk hS6
          have HB6 := Aside0.mk hB6
          clear hS6 hB6
          go_wp2_with fail
          refine (Count_any _ g _ _ _ _ HS6.out).mono ?_
          rintro e w7 ⟨rfl, rfl⟩
          rw [onceMore_length _ j hjm]
          go_wp2_with fail
          refine (M_drp _ HB6.out HS6.out (onceMore_good _ j hjm (by omega))).mono ?_
          rintro e w8 ⟨rfl, hS8, hB8, _⟩
          rw [drp_again _ j hjm (by omega)]
          dsimp only
          clear hS8
          go_wp2
          go_ret
          exact ⟨rfl, hB8⟩
        · refine (M_drp _ HB.out HS2.out (allOf_good _ (by omega))).mono ?_
          rintro e w5 ⟨rfl, hS5, hB5, _⟩
          rw [drp_out _ d (by omega)]
          dsimp only
          clear hS5
          by_cases hd1 : d < 1
          · clear hdr
            go_wp2
            go_ret
            exact ⟨rfl, hB5⟩
          · have hd2 : 1024 < d := by omega
            clear hdr
            go_wp2
            go_ret
            exact ⟨rfl, hB5⟩

end Go.Proofs.Ytfcaodnfiakdoaa.Mk
