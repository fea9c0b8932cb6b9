/- Marks by their places: the comparison, and the copy of a row; no condition beside the sizes that are written. -/
import Derived.Test.YtfcaodnfiakdoaaMx
import Derived.WalkSpells
namespace Go.Proofs.Ytfcaodnfiakdoaa.Mk
open Go.RowKit Go.Proofs.YtfcaodnfiakdoaaW.PrintWords Go.Proofs.YtfcaodnfiakdoaaW.PrintLast Go.Proofs.YtfcaodnfiakdoaaW.PrintMore Go.Proofs.Ytfcaodnfiakdoaa.PMarksPlay
set_option linter.unusedVariables false
set_option linter.unusedSimpArgs false

/-- Less: by places, of one place by numbers. -/
def before (a b : S46) : Bool := decide (a.f1 < b.f1) || (a.f1 == b.f1 && decide (a.f0 < b.f0))
def cmpM (a b : S46) : Int := if a.f1 = b.f1 then a.f0 - b.f0 else a.f1 - b.f1

set_option maxRecDepth 100000 in
theorem cmp_any (a b : S46) (w : World) (ha : 0 ≤ a.f1 ∧ a.f1 ≤ 65536) (hb : 0 ≤ b.f1 ∧ b.f1 ≤ 65536) (ha0 : 0 ≤ a.f0 ∧ a.f0 ≤ 1000000) (hb0 : 0 ≤ b.f0 ∧ b.f0 ≤ 1000000) :
    Calls Try.prog 28 #[.agg #[.int .i64 a.f0, .int .i64 a.f1, .bool a.f2], .agg #[.int .i64 b.f0, .int .i64 b.f1, .bool b.f2]] w fun e w' => e = .returned (.int .i64 (cmpM a b)) ∧ w' = (w.alloc (.cells #[.int .i64 a.f0, .int .i64 a.f1, .bool a.f2] 46)).alloc (.cells #[.int .i64 b.f0, .int .i64 b.f1, .bool b.f2] 46) := by
  obtain ⟨ha1, ha2⟩ := ha
  obtain ⟨hb1, hb2⟩ := hb
  obtain ⟨ha3, ha4⟩ := ha0
  obtain ⟨hb3, hb4⟩ := hb0
  unfold cmpM
  by_cases he : a.f1 = b.f1
  · have hn : (a.f1 != b.f1) = false := by simpa using he
    rw [if_pos he]
    clear he
    go_enter Try.func28, Try.ntmps28
    go_wp2
    go_ret
    exact ⟨rfl, rfl⟩
  · have hn : (a.f1 != b.f1) = true := by simpa using he
    rw [if_neg he]
    clear he
    go_enter Try.func28, Try.ntmps28
    go_wp2
    go_ret
    exact ⟨rfl, rfl⟩

set_option maxHeartbeats 1000000 in
set_option maxRecDepth 100000 in
theorem clone_nil (w : World) (n c : Nat) : Calls Try.prog 26 #[.slice none n c] w fun e w' => e = .returned (.slice none 0 0) ∧ w = w' := by
  have h1 := fun w => Lib.run_eql_slice_nil (P := Try.prog) w 41 46 none n c 0 0 Try.underlying41
  go_enter Try.func26, Try.ntmps26
  go_wp2
  go_ret
  exact ⟨rfl, rfl⟩

/-- The empty row that a literal makes. -/
theorem R46_made (w : World) (base : Nat) (h : base ≤ w.heap.size) (ok : Nat → Prop) (hok : ok w.heap.size) : Kd.R k46 46 (w.alloc (.cells #[] 46)) base ok (.slice (some ⟨w.heap.size, 0, none⟩) 0 0) [] :=
  ⟨fun k hk => by simp [Value.ownBlock] at hk; subst hk; exact hok, [], World.ownsRow_made w #[] 0 h (by unfold maxLen; omega) (by simp), Reps.none _ _⟩
theorem C46_reads {w W : World} {A : Option Addr} {n : Nat} {xs : List S46} (h : Kd.C k46 w A n xs) (hb : Below w.heap.size w W) : ReadsRow (fun (x : S46) (cs : List Value) => cs = [.int .i64 x.f0, .int .i64 x.f1, .bool x.f2]) k46.sz W A n xs :=
  ReadsRow.imp_ h hb (fun x cs hp => k46_open hp)

set_option maxHeartbeats 1000000 in
set_option maxRecDepth 100000 in
theorem clone_some (w : World) (ad : Addr) (c : Nat) (xs : List S46) (hC : Kd.C k46 w (some ad) xs.length xs) (hl : xs.length ≤ 1000000) :
    Calls Try.prog 26 #[.slice (some ad) xs.length c] w fun e w' => ∃ v, e = .returned v ∧ Kd.R k46 46 w' w.heap.size (fun _ => True) v xs ∧ Below w.heap.size w w' := by
  have h1 := fun w => Lib.run_eql_slice_nil (P := Try.prog) w 41 46 (some ad) xs.length c 0 0 Try.underlying41
  have HC := Aside0.mk hC
  clear hC
  go_enter Try.func26, Try.ntmps26
  go_wp2_with (at_builtin; refine Kd.R_append_rows k46 (w0 := w) w.heap.size rfl (.tmp 5) (.tmp 6) 41 46 _ 24 rfl Try.underlying41 info46 rfl (by decide) (by decide) (.slice (some ⟨w.heap.size, 0, none⟩) 0 0) [] xs (some ad) xs.length c (fun _ => True) (fun _ => False) rfl rfl (R46_made w _ (Nat.le_refl _) _ trivial) (C46_reads HC.out (below_alloc (Below.refl _ _) _)) (fun x cs e => by subst e; exact k46_mkM _ _ _ _) (fun _ h => h.elim) (fun _ _ => trivial) (below_alloc (Below.refl _ _) _) (by simp) (by simp; omega) ?_; intro v1 w1 hR1 hB1 _ _; have HR1 := Aside0.mk hR1; have HB1 := Aside0.mk hB1; clear hR1 hB1)
  go_ret
  exact ⟨_, rfl, by simpa using HR1.out, HB1.out⟩

/-- A copy of a row of marks. -/
theorem clone_any (w : World) (A : Option Addr) (c : Nat) (xs : List S46) (hC : Kd.C k46 w A xs.length xs) (hl : xs.length ≤ 1000000) :
    Calls Try.prog 26 #[.slice A xs.length c] w fun e w' => ∃ v, e = .returned v ∧ Kd.R k46 46 w' w.heap.size (fun _ => True) v xs ∧ Below w.heap.size w w' := by
  cases A with
  | some ad => exact clone_some w ad c xs hC hl
  | none =>
    have hx : xs = [] := by
      rcases Nat.eq_zero_or_pos xs.length with h | h
      · exact List.eq_nil_of_length_eq_zero h
      · obtain ⟨ad, e, _⟩ := hC.2.2 h
        cases e
    subst hx
    refine (clone_nil w _ c).mono ?_
    rintro e w' ⟨rfl, rfl⟩
    exact ⟨_, rfl, Kd.R_nil _ _ _ _ _, Below.refl _ _⟩
end Go.Proofs.Ytfcaodnfiakdoaa.Mk
