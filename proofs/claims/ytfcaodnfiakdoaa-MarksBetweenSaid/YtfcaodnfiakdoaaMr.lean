/- The document's calls come to what the plain data say; no condition beside the bounds that the calls keep. -/
import Derived.Test.YtfcaodnfiakdoaaMs
namespace Go.Proofs.Ytfcaodnfiakdoaa.Mk
open Go.RowKit Go.Proofs.YtfcaodnfiakdoaaW.PrintWords Go.Proofs.YtfcaodnfiakdoaaW.PrintLast Go.Proofs.YtfcaodnfiakdoaaW.PrintMore Go.Proofs.Ytfcaodnfiakdoaa.PMarksPlay
set_option linter.unusedVariables false
set_option linter.unusedSimpArgs false

theorem wrap_in {n : Int} (h0 : -9223372036854775808 ≤ n) (h1 : n ≤ 9223372036854775807) : wrap64 n = n := IntWalk.wrap64_in n ⟨h0, h1⟩

theorem put_f {B : Int} {s : St} (hG : Good B s) (hb : B ≤ 900000) (a : Int) (b : Bool) :
    regletref16_Put.f 1 s.size s.next (s.xs.map toR) a b = some ((put s a b).1.size, (put s a b).1.next, (put s a b).1.xs.map toR, (put s a b).2.1, (put s a b).2.2) := by
  have hn0 := hG.n0
  have hn1 := hG.n1
  have hl := hG.len
  unfold regletref16_Put.f put
  simp only [regletref16_Put.j0]
  by_cases h1 : a < 0
  · rw [if_pos h1, if_pos trivial, if_pos (.inl h1)]
  · rw [if_neg h1]
    by_cases h2 : s.size < a
    · rw [if_pos (show decide (a > s.size) = true by simpa using h2), if_pos (show a < 0 ∨ s.size < a from .inr h2)]
    · rw [if_neg (show ¬ decide (a > s.size) = true by simpa using h2), if_neg (show ¬ (a < 0 ∨ s.size < a) by omega)]
      by_cases h3 : 1024 ≤ s.xs.length
      · rw [if_pos (show ((s.xs.map toR).length : Int) ≥ 1024 by simp; omega), if_pos h3]
      · rw [if_neg (show ¬ ((s.xs.map toR).length : Int) ≥ 1024 by simp; omega), if_neg h3]
        simp only [Option.bind_some, List.nil_append, List.length_map, List.length_nil]
        rw [if_pos (by omega), if_pos (by omega), wrap_in (by omega) (by omega)]
        simp [toR]

theorem rd_map (xs : List S46) (k : Nat) (hk : k < xs.length) : rd_T51 (xs.map toR) k = toR (rd_T46 xs k) := by
  simp [rd_T51, rd_T46, hk]

theorem find_l0 (id size next : Int) (xs : List S46) (hl : xs.length ≤ 1000000) (d : Nat) : ∀ (k i : Nat), i ≤ xs.length → xs.length - i = d → d < k → NotYet xs id i →
    regletref16_find.l0 k id (i : Int) size next (xs.map toR) = some (place xs id) := by
  induction d with
  | zero =>
    intro k i hi hd hk hn
    obtain ⟨k, rfl⟩ : ∃ m, k = m + 1 := ⟨k - 1, by omega⟩
    simp only [regletref16_find.l0]
    rw [if_neg (by simp; omega), place_no (fun j hj => hn j (by omega))]
  | succ d ih =>
    intro k i hi hd hk hn
    obtain ⟨k, rfl⟩ : ∃ m, k = m + 1 := ⟨k - 1, by omega⟩
    have hlt : i < xs.length := by omega
    simp only [regletref16_find.l0]
    rw [if_pos (by simp; omega), if_pos (by omega), rd_map _ _ hlt]
    by_cases he : (rd_T46 xs i).f0 = id
    · rw [if_pos (show (toR (rd_T46 xs i)).f0 = id from he), place_at hlt he hn]
    · rw [if_neg (show ¬ (toR (rd_T46 xs i)).f0 = id from he), wrap_in (by omega) (by omega)]
      have := ih k (i + 1) (by omega) (by omega) (by omega) (fun j hj => by
        rcases Nat.lt_or_ge j i with h | h
        · exact hn j h
        · obtain rfl : j = i := by omega
          exact he)
      simpa using this

theorem find_f (id size next : Int) (xs : List S46) (hl : xs.length ≤ 1000000) (k : Nat) (hk : xs.length < k) : regletref16_find.f k size next (xs.map toR) id = some (place xs id) := by
  unfold regletref16_find.f
  exact find_l0 id size next xs hl xs.length k 0 (by omega) (by omega) hk (fun j hj => by omega)

theorem mov_f {B : Int} {s : St} (hG : Good B s) (id a : Int) :
    regletref16_Move.f (s.xs.length + 1) s.size s.next (s.xs.map toR) id a = some ((mov s id a).1.size, (mov s id a).1.next, (mov s id a).1.xs.map toR, (mov s id a).2) := by
  have hl := hG.len
  unfold regletref16_Move.f mov
  rw [find_f id s.size s.next s.xs (by omega) _ (by omega)]
  simp only [Option.bind_some]
  by_cases h1 : place s.xs id < 0
  · rw [if_pos h1, if_pos h1]
  · rw [if_neg h1, if_neg h1]
    obtain ⟨k, hk, hlt⟩ := place_nat h1
    rw [hk]
    by_cases h2 : a < 0
    · rw [if_pos h2, if_pos (.inl h2)]
    · rw [if_neg h2]
      by_cases h3 : s.size < a
      · rw [if_pos h3, if_pos (.inr h3)]
      · rw [if_neg h3, if_neg (show ¬ (a < 0 ∨ s.size < a) by omega)]
        simp only [List.nil_append, List.length_nil, List.length_map, Nat.zero_add]
        rw [if_pos (show s.xs.length < 5864062014805 by omega), if_pos (show (0 : Int) ≤ (k : Int) by omega), if_pos (show (k : Int) < (s.xs.length : Int) by omega), rd_map _ _ hlt]
        simp only [Int.toNat_natCast, List.map_set]
        rfl

theorem drop_l0 (size next : Int) (xs : List S46) (q : Nat) (hl : xs.length ≤ 1000000) (d : Nat) : ∀ (k i : Nat) (acc : List S51), i ≤ xs.length → xs.length - i = d → d < k → acc = ((xs.take i).eraseIdx q).map toR →
    regletref16_Drop.l0 k (q : Int) acc (i : Int) size next (xs.map toR) = some (size, next, (xs.eraseIdx q).map toR, 0) := by
  induction d with
  | zero =>
    intro k i acc hi hd hk ha
    obtain ⟨k, rfl⟩ : ∃ m, k = m + 1 := ⟨k - 1, by omega⟩
    simp only [regletref16_Drop.l0]
    rw [if_neg (by simp; omega), ha, List.take_of_length_le (by omega)]
  | succ d ih =>
    intro k i acc hi hd hk ha
    obtain ⟨k, rfl⟩ : ∃ m, k = m + 1 := ⟨k - 1, by omega⟩
    have hlt : i < xs.length := by omega
    have e : rd_T46 xs i = xs[i] := by simp [rd_T46, hlt]
    simp only [regletref16_Drop.l0]
    rw [if_pos (by simp; omega)]
    have hw : wrap64 ((i : Int) + 1) = ((i + 1 : Nat) : Int) := by rw [wrap_in (by omega) (by omega)]; omega
    by_cases hq : (i : Int) = q
    · rw [if_pos hq, hw]
      refine ih k (i + 1) acc (by omega) (by omega) (by omega) ?_
      rw [ha]
      have hiq : i = q := by omega
      subst hiq
      rw [List.take_succ_eq_append_getElem hlt]
      rw [List.eraseIdx_of_length_le (by simp; omega)]
      rw [List.eraseIdx_append_of_length_le (by simp; omega)]
      simp [Nat.min_eq_left (Nat.le_of_lt hlt)]
    · rw [if_neg hq, if_pos (by omega)]
      have hal : acc.length ≤ 1000000 := by
        rw [ha, List.length_map]
        have := (List.eraseIdx_sublist (xs.take i) q).length_le
        simp at this; omega
      rw [if_pos (by omega), hw]
      refine ih k (i + 1) _ (by omega) (by omega) (by omega) ?_
      rw [ha, rd_map _ _ hlt, e, List.take_succ_eq_append_getElem hlt]
      rcases Nat.lt_or_ge q i with h | h
      · rw [List.eraseIdx_append_of_lt_length (by simp; omega)]
        simp [toR]
      · rw [List.eraseIdx_append_of_length_le (by simp; omega)]
        rw [List.eraseIdx_of_length_le (by simp; omega), List.eraseIdx_of_length_le (by simp; omega)]
        rw [List.map_append]
        rfl

theorem drp_f {B : Int} {s : St} (hG : Good B s) (id : Int) :
    regletref16_Drop.f (s.xs.length + 1) s.size s.next (s.xs.map toR) id = some ((drp s id).1.size, (drp s id).1.next, (drp s id).1.xs.map toR, (drp s id).2) := by
  have hl := hG.len
  unfold regletref16_Drop.f drp
  rw [find_f id s.size s.next s.xs (by omega) _ (by omega)]
  simp only [Option.bind_some]
  by_cases h1 : place s.xs id < 0
  · rw [if_pos h1, if_pos h1]
  · rw [if_neg h1, if_neg h1]
    obtain ⟨k, hk, hlt⟩ := place_nat h1
    rw [hk]
    simp only [Int.toNat_natCast]
    exact drop_l0 _ _ s.xs k (by omega) s.xs.length _ 0 [] (by omega) (by omega) (by omega) (by simp)


theorem bump_toR (a n : Int) (m : S46) : bumpR a n (toR m) = toR (bump a n m) := by
  unfold bumpR bump
  by_cases h : a < m.f1 ∨ (m.f1 = a ∧ m.f2 = false)
  · rw [if_pos (show a < (toR m).f1 ∨ ((toR m).f1 = a ∧ (toR m).f2 = false) from h), if_pos h]; rfl
  · rw [if_neg (show ¬ (a < (toR m).f1 ∨ ((toR m).f1 = a ∧ (toR m).f2 = false)) from h), if_neg h]
theorem bump_R (a n : Int) (xs : List S46) : (xs.map toR).map (bumpR a n) = (xs.map (bump a n)).map toR := by
  rw [List.map_map, List.map_map]
  exact List.map_congr_left (fun m _ => bump_toR a n m)
theorem squeeze_toR (a b : Int) (hab : a ≤ b) (m : S46) : squeezeR a b (toR m) = toR (squeeze a b m) := by
  unfold squeezeR squeeze
  by_cases h : a < m.f1
  · rw [if_pos (show a < (toR m).f1 from h)]
    by_cases h2 : b ≤ m.f1
    · rw [if_pos h2]
      have : mx a ((toR m).f1 - (b - a)) = m.f1 - (b - a) := by show mx a (m.f1 - (b - a)) = _; unfold mx; omega
      rw [this]; rfl
    · rw [if_neg h2, if_pos h]
      have : mx a ((toR m).f1 - (b - a)) = a := by show mx a (m.f1 - (b - a)) = _; unfold mx; omega
      rw [this]; rfl
  · rw [if_neg (show ¬ a < (toR m).f1 from h)]
    by_cases h2 : b ≤ m.f1
    · rw [if_pos h2]
      have : m.f1 - (b - a) = m.f1 := by omega
      rw [this]; rfl
    · rw [if_neg h2, if_neg h]
theorem squeeze_R (a b : Int) (hab : a ≤ b) (xs : List S46) : (xs.map toR).map (squeezeR a b) = (xs.map (squeeze a b)).map toR := by
  rw [List.map_map, List.map_map]
  exact List.map_congr_left (fun m _ => squeeze_toR a b hab m)
theorem fine_R {z : Int} {xs : List S46} (h : Fine z xs) : FineR z (xs.map toR) := by
  intro m hm
  obtain ⟨p, hp, rfl⟩ := List.mem_map.1 hm
  exact h p hp

section
variable {w0 w : World} {s : St} {B : Int} {v : Value}
/-- The document's marks: a row of the call's own. -/
def RAt (w0 w : World) (v : Value) (s : St) : Prop := Kd.R k51 51 w w0.heap.size (fun _ => True) v (s.xs.map toR)
def RKept (w w' : World) : Prop := Kept w w' (fun k => TyIn w 51 k)

theorem RAt.typed (h : RAt w0 w v s) : Kd.R k51 51 w w0.heap.size (fun k => TyIn w 51 k) v (s.xs.map toR) :=
  Kd.R_mono (Kd.R_bound h) (fun k hk => by
    obtain ⟨_, _, _, q, hq, c, hc⟩ := hk
    have : q = 51 := by simpa [k51, Kd.iso, Kd.pair, Kd.int, Kd.bool, Kd.scalar] using hq
    subst this
    exact ⟨c, hc⟩)
theorem RKept.below {w w' : World} (h : Below w.heap.size w w') : RKept w w' := Kept.of_below h _
theorem RKept.at {w w' : World} {g : Nat} (h : RKept w w') (hS : At w0 w g s) : At w0 w' g s := by
  obtain ⟨hg, u, hblk, hrow⟩ := hS
  refine ⟨hg, u, blk_kept hblk h (fun ⟨c, hc⟩ => ?_), ?_⟩
  · rw [hblk] at hc; injection hc with hc; injection hc with _ hc; exact absurd hc (by decide)
  · refine Kd.R_mono (Kd.R_kept (Kd.R_bound hrow) h (fun k hk hs => ?_)) (fun k hk => hk.1)
    obtain ⟨_, _, _, q, hq, c, hc⟩ := hk
    obtain ⟨c2, hc2⟩ := hs
    have : q = 46 := by simpa [k46, Kd.iso, Kd.pair, Kd.int, Kd.bool, Kd.scalar] using hq
    subst this
    rw [hc] at hc2; injection hc2 with hc2; injection hc2 with _ hc2; exact absurd hc2 (by decide)
theorem MKept.row {w w' : World} (h : MKept w w') (hR : RAt w0 w v s) : RAt w0 w' v s := by
  refine Kd.R_mono (Kd.R_kept (RAt.typed hR) h (fun k hk hs => ?_)) (fun _ _ => trivial)
  obtain ⟨c, hc⟩ := hk
  rcases hs with ⟨c2, hc2⟩ | ⟨c2, hc2⟩
  all_goals
    rw [hc] at hc2; injection hc2 with hc2; injection hc2 with _ hc2; exact absurd hc2 (by decide)

theorem R_put (a : Int) (b : Bool) (hB : Below w0.heap.size w0 w) (hR : RAt w0 w v s) (hG : Good B s) (hb : B ≤ 900000) :
    Calls Try.prog 29 #[.agg #[.int .i64 s.size, .int .i64 s.next, v], .int .i64 a, .bool b] w fun e w' => ∃ v', e = .returned (.tuple #[.agg #[.int .i64 (put s a b).1.size, .int .i64 (put s a b).1.next, v'], .int .i64 (put s a b).2.1, .int .i64 (put s a b).2.2]) ∧ RAt w0 w' v' (put s a b).1 ∧ Below w0.heap.size w0 w' ∧ RKept w w' := by
  refine (regletref16_Put.calls 1 s.size s.next (fun k => TyIn w 51 k) v (s.xs.map toR) a b _ _ _ _ _ w0 w hB hR.typed (put_f hG hb a b)).mono ?_
  rintro e w' ⟨v', rfl, h1, h2, h3⟩
  exact ⟨v', rfl, Kd.R_mono h1 (fun _ _ => trivial), h2, h3⟩

theorem R_ins (a n : Int) (hB : Below w0.heap.size w0 w) (hR : RAt w0 w v s) (hG : Good B s) :
    Calls Try.prog 30 #[.agg #[.int .i64 s.size, .int .i64 s.next, v], .int .i64 a, .int .i64 n] w fun e w' => ∃ v', e = .returned (.tuple #[.agg #[.int .i64 (ins s a n).1.size, .int .i64 (ins s a n).1.next, v'], .int .i64 (ins s a n).2]) ∧ RAt w0 w' v' (ins s a n).1 ∧ Below w0.heap.size w0 w' ∧ RKept w w' := by
  have hl := hG.len
  unfold ins
  by_cases h1 : a < 0 ∨ s.size < a
  · rw [if_pos h1]
    refine (InsertR_where _ w _ _ a n v _ hR h1).mono ?_
    rintro e w' ⟨rfl, h⟩
    exact ⟨v, rfl, Kd.R_below hR h, hB.trans (h.mono hB.size), RKept.below h⟩
  · rw [if_neg h1]
    by_cases h2 : n < 0
    · rw [if_pos h2]
      refine (InsertR_neg _ w _ _ a n v _ hR (by omega) (by omega) h2).mono ?_
      rintro e w' ⟨rfl, h⟩
      exact ⟨v, rfl, Kd.R_below hR h, hB.trans (h.mono hB.size), RKept.below h⟩
    · rw [if_neg h2]
      by_cases h3 : 65536 - s.size < n
      · rw [if_pos h3]
        refine (InsertR_size _ w _ _ a n v _ hR (by omega) (by omega) hG.s1 (by omega) h3).mono ?_
        rintro e w' ⟨rfl, h⟩
        exact ⟨v, rfl, Kd.R_below hR h, hB.trans (h.mono hB.size), RKept.below h⟩
      · rw [if_neg h3]
        refine (InsertR_yes _ w _ _ a n v _ hR (by simp; omega) (fine_R hG.fine) (by omega) (by omega) hG.s1 (by omega) (by omega)).mono ?_
        rintro e w' ⟨v', rfl, h, h4⟩
        refine ⟨v', rfl, ?_, hB.trans (h4.mono hB.size), RKept.below h4⟩
        rw [bump_R] at h
        exact Kd.R_lower h hB.size

theorem R_del (a b : Int) (hB : Below w0.heap.size w0 w) (hR : RAt w0 w v s) (hG : Good B s) :
    Calls Try.prog 31 #[.agg #[.int .i64 s.size, .int .i64 s.next, v], .int .i64 a, .int .i64 b] w fun e w' => ∃ v', e = .returned (.tuple #[.agg #[.int .i64 (del s a b).1.size, .int .i64 (del s a b).1.next, v'], .int .i64 (del s a b).2]) ∧ RAt w0 w' v' (del s a b).1 ∧ Below w0.heap.size w0 w' ∧ RKept w w' := by
  have hl := hG.len
  unfold del
  by_cases h1 : a < 0 ∨ s.size < b ∨ b < a
  · rw [if_pos h1]
    refine (DeleteR_no _ w _ _ a b v _ hR h1).mono ?_
    rintro e w' ⟨rfl, h⟩
    exact ⟨v, rfl, Kd.R_below hR h, hB.trans (h.mono hB.size), RKept.below h⟩
  · rw [if_neg h1]
    refine (DeleteR_yes _ w _ _ a b v _ hR (by simp; omega) (fine_R hG.fine) (by omega) (by omega) (by omega) hG.s1).mono ?_
    rintro e w' ⟨v', rfl, h, h4⟩
    refine ⟨v', rfl, ?_, hB.trans (h4.mono hB.size), RKept.below h4⟩
    rw [squeeze_R _ _ (by omega)] at h
    exact Kd.R_lower h hB.size

theorem R_mov (id a : Int) (hB : Below w0.heap.size w0 w) (hR : RAt w0 w v s) (hG : Good B s) :
    Calls Try.prog 32 #[.agg #[.int .i64 s.size, .int .i64 s.next, v], .int .i64 id, .int .i64 a] w fun e w' => ∃ v', e = .returned (.tuple #[.agg #[.int .i64 (mov s id a).1.size, .int .i64 (mov s id a).1.next, v'], .int .i64 (mov s id a).2]) ∧ RAt w0 w' v' (mov s id a).1 ∧ Below w0.heap.size w0 w' ∧ RKept w w' := by
  refine (regletref16_Move.calls _ s.size s.next (fun k => TyIn w 51 k) v (s.xs.map toR) id a _ _ _ _ w0 w hB hR.typed (mov_f hG id a)).mono ?_
  rintro e w' ⟨v', rfl, h1, h2, h3⟩
  exact ⟨v', rfl, Kd.R_mono h1 (fun _ _ => trivial), h2, h3⟩

theorem R_drp (id : Int) (hB : Below w0.heap.size w0 w) (hR : RAt w0 w v s) (hG : Good B s) :
    Calls Try.prog 34 #[.agg #[.int .i64 s.size, .int .i64 s.next, v], .int .i64 id] w fun e w' => ∃ v', e = .returned (.tuple #[.agg #[.int .i64 (drp s id).1.size, .int .i64 (drp s id).1.next, v'], .int .i64 (drp s id).2]) ∧ RAt w0 w' v' (drp s id).1 ∧ Below w0.heap.size w0 w' ∧ RKept w w' := by
  refine (regletref16_Drop.calls _ s.size s.next (fun k => TyIn w 51 k) v (s.xs.map toR) id _ _ _ _ w0 w hB hR.typed (drp_f hG id)).mono ?_
  rintro e w' ⟨v', rfl, h1, h2, h3⟩
  exact ⟨v', rfl, Kd.R_mono h1 (fun _ _ => trivial), h2, h3⟩
end

end Go.Proofs.Ytfcaodnfiakdoaa.Mk
