/- The marks of a text as plain data, and that the program's and the document's calls come to the same of them; no condition beside the bounds that the calls keep. -/
import Derived.Test.YtfcaodnfiakdoaaRa
import Derived.Test.YtfcaodnfiakdoaaRc
import Derived.Test.YtfcaodnfiakdoaaRd
namespace Go.Proofs.Ytfcaodnfiakdoaa.Mk
open Go.RowKit Go.Proofs.YtfcaodnfiakdoaaW.PrintWords Go.Proofs.YtfcaodnfiakdoaaW.PrintLast Go.Proofs.YtfcaodnfiakdoaaW.PrintMore Go.Proofs.Ytfcaodnfiakdoaa.PMarksPlay
set_option linter.unusedVariables false
set_option linter.unusedSimpArgs false

structure St where
  size : Int
  next : Int
  xs : List S46

def toR (m : S46) : S51 := ⟨m.f0, m.f1, m.f2⟩

def put (s : St) (a : Int) (b : Bool) : St × Int × Int := if a < 0 ∨ s.size < a then (s, 0, 30) else if 1024 ≤ s.xs.length then (s, 0, 2) else (⟨s.size, s.next + 1, s.xs ++ [⟨s.next + 1, a, b⟩]⟩, s.next + 1, 0)
def ins (s : St) (a n : Int) : St × Int := if a < 0 ∨ s.size < a then (s, 30) else if n < 0 then (s, 1) else if 65536 - s.size < n then (s, 31) else (⟨s.size + n, s.next, s.xs.map (bump a n)⟩, 0)
def del (s : St) (a b : Int) : St × Int := if a < 0 ∨ s.size < b ∨ b < a then (s, 30) else (⟨s.size - (b - a), s.next, s.xs.map (squeeze a b)⟩, 0)
def mov (s : St) (id a : Int) : St × Int := if place s.xs id < 0 then (s, 160) else if a < 0 ∨ s.size < a then (s, 30) else (⟨s.size, s.next, s.xs.set (place s.xs id).toNat (moved (rd_T46 s.xs (place s.xs id)) a)⟩, 0)
def drp (s : St) (id : Int) : St × Int := if place s.xs id < 0 then (s, 160) else (⟨s.size, s.next, s.xs.eraseIdx (place s.xs id).toNat⟩, 0)

structure Good (B : Int) (s : St) : Prop where
  s0 : 0 ≤ s.size
  s1 : s.size ≤ 65536
  n0 : 0 ≤ s.next
  n1 : s.next ≤ B
  len : s.xs.length ≤ 1024
  fine : Fine s.size s.xs
  ids : ∀ m ∈ s.xs, 1 ≤ m.f0 ∧ m.f0 ≤ s.next
  rise : s.xs.Pairwise (fun a b => a.f0 < b.f0)

theorem Good.more {B : Int} {s : St} (h : Good B s) {C : Int} (hc : B ≤ C) : Good C s := ⟨h.s0, h.s1, h.n0, by have := h.n1; omega, h.len, h.fine, h.ids, h.rise⟩

theorem place_nat {xs : List S46} {id : Int} (h : ¬ place xs id < 0) : ∃ k : Nat, place xs id = k ∧ k < xs.length := by
  rcases place_range xs id with h1 | ⟨h1, h2⟩
  · omega
  · exact ⟨(place xs id).toNat, by omega, by omega⟩

theorem put_good {B : Int} {s : St} (h : Good B s) (a : Int) (b : Bool) : Good (B + 1) (put s a b).1 := by
  unfold put
  split
  · exact h.more (by omega)
  · split
    · exact h.more (by omega)
    · rename_i h1 h2
      have hn := h.n0
      have hn1 := h.n1
      refine ⟨h.s0, h.s1, by show 0 ≤ s.next + 1; omega, by show s.next + 1 ≤ B + 1; omega, by simp; omega, ?_, ?_, ?_⟩
      · intro m hm
        rcases List.mem_append.1 hm with hm | hm
        · exact h.fine m hm
        · rw [List.mem_singleton.1 hm]; show 0 ≤ a ∧ a ≤ s.size; omega
      · intro m hm
        rcases List.mem_append.1 hm with hm | hm
        · have := h.ids m hm; show 1 ≤ m.f0 ∧ m.f0 ≤ s.next + 1; omega
        · rw [List.mem_singleton.1 hm]; show 1 ≤ s.next + 1 ∧ s.next + 1 ≤ s.next + 1; omega
      · rw [List.pairwise_append]
        refine ⟨h.rise, by simp, fun m hm p hp => ?_⟩
        rw [List.mem_singleton.1 hp]
        have := (h.ids m hm).2
        show m.f0 < s.next + 1
        omega

theorem map_good {B : Int} {s : St} (h : Good B s) (f : S46 → S46) (z : Int) (z0 : 0 ≤ z) (z1 : z ≤ 65536) (hid : ∀ m, (f m).f0 = m.f0) (hf : ∀ m ∈ s.xs, 0 ≤ (f m).f1 ∧ (f m).f1 ≤ z) : Good B ⟨z, s.next, s.xs.map f⟩ := by
  refine ⟨z0, z1, h.n0, h.n1, by simpa using h.len, ?_, ?_, ?_⟩
  · intro m hm
    obtain ⟨p, hp, rfl⟩ := List.mem_map.1 hm
    exact hf p hp
  · intro m hm
    obtain ⟨p, hp, rfl⟩ := List.mem_map.1 hm
    rw [hid]; exact h.ids p hp
  · rw [List.pairwise_map]
    exact h.rise.imp (fun {a b} hab => by rw [hid, hid]; exact hab)

theorem bump_id (a n : Int) (m : S46) : (bump a n m).f0 = m.f0 := by unfold bump moved; split <;> rfl
theorem squeeze_id (a b : Int) (m : S46) : (squeeze a b m).f0 = m.f0 := by unfold squeeze moved; split; rfl; split <;> rfl

theorem ins_good {B : Int} {s : St} (h : Good B s) (a n : Int) : Good B (ins s a n).1 := by
  unfold ins
  split
  · exact h
  · split
    · exact h
    · split
      · exact h
      · have := h.s0
        refine map_good h _ _ (by omega) (by omega) (bump_id a n) (fun m hm => ?_)
        have := h.fine m hm
        unfold bump moved
        split <;> (constructor <;> first | omega | (dsimp only; omega))

theorem del_good {B : Int} {s : St} (h : Good B s) (a b : Int) : Good B (del s a b).1 := by
  unfold del
  split
  · exact h
  · have := h.s0
    have := h.s1
    refine map_good h _ _ (by omega) (by omega) (squeeze_id a b) (fun m hm => ?_)
    have := h.fine m hm
    unfold squeeze moved
    split
    · constructor <;> first | omega | (dsimp only; omega)
    · split <;> (constructor <;> first | omega | (dsimp only; omega))

theorem mov_good {B : Int} {s : St} (h : Good B s) (id a : Int) : Good B (mov s id a).1 := by
  unfold mov
  split
  · exact h
  · split
    · exact h
    · rename_i h1 h2
      obtain ⟨k, hk, hlt⟩ := place_nat h1
      rw [hk]
      simp only [Int.toNat_natCast]
      have e : rd_T46 s.xs k = s.xs[k] := by simp [rd_T46, hlt]
      have hmap : s.xs.set k (moved (rd_T46 s.xs k) a) = s.xs.set k (moved s.xs[k] a) := by rw [e]
      refine ⟨h.s0, h.s1, h.n0, h.n1, by simpa using h.len, ?_, ?_, ?_⟩
      · intro m hm
        rcases List.mem_or_eq_of_mem_set hm with hm | rfl
        · exact h.fine m hm
        · show 0 ≤ a ∧ a ≤ s.size; omega
      · intro m hm
        rcases List.mem_or_eq_of_mem_set hm with hm | rfl
        · exact h.ids m hm
        · show 1 ≤ (rd_T46 s.xs k).f0 ∧ (rd_T46 s.xs k).f0 ≤ s.next
          rw [e]; exact h.ids _ (List.getElem_mem hlt)
      · have hr := h.rise
        rw [List.pairwise_iff_getElem] at hr ⊢
        intro i j hi hj hij
        simp only [List.length_set] at hi hj
        have h3 := hr i j hi hj hij
        have g : ∀ q (hq : q < s.xs.length), ((s.xs.set k (moved (rd_T46 s.xs k) a))[q]'(by simpa using hq)).f0 = s.xs[q].f0 := by
          intro q hq
          rw [List.getElem_set]
          split
          · rename_i e2; subst e2; show (rd_T46 s.xs k).f0 = _; rw [e]
          · rfl
        rw [g i hi, g j hj]
        exact h3

theorem drp_good {B : Int} {s : St} (h : Good B s) (id : Int) : Good B (drp s id).1 := by
  unfold drp
  split
  · exact h
  · have hsub : ∀ m ∈ s.xs.eraseIdx (place s.xs id).toNat, m ∈ s.xs := fun m hm => List.mem_of_mem_eraseIdx hm
    refine ⟨h.s0, h.s1, h.n0, h.n1, ?_, fun m hm => h.fine m (hsub m hm), fun m hm => h.ids m (hsub m hm), h.rise.sublist (List.eraseIdx_sublist _ _)⟩
    have := (List.eraseIdx_sublist s.xs (place s.xs id).toNat).length_le
    have := h.len
    show (s.xs.eraseIdx _).length ≤ 1024
    omega


/-! ### the program's calls -/
section
variable {w0 w : World} {g : Nat} {s : St} {B : Int}
/-- A text's marks lie in memory as the data say. -/
def At (w0 w : World) (g : Nat) (s : St) : Prop := SetAt w0.heap.size w g s.size s.next s.xs

theorem M_put (a : Int) (b : Bool) (hB : Below w0.heap.size w0 w) (hS : At w0 w g s) (hG : Good B s) (hb : B ≤ 900000) :
    Calls Try.prog 10 #[.pointer (some ⟨g, 0, none⟩), .int .i64 a, .bool b] w fun e w' => e = .returned (.tuple #[.int .i64 (put s a b).2.1, .int .i64 (put s a b).2.2]) ∧ At w0 w' g (put s a b).1 ∧ Below w0.heap.size w0 w' ∧ MKept w w' := by
  have hn1 := hG.n1
  unfold put
  by_cases h1 : a < 0 ∨ s.size < a
  · rw [if_pos h1]
    refine (Put_where _ g w _ _ a b _ hS h1).mono ?_
    rintro e w' ⟨rfl, rfl⟩
    exact ⟨rfl, hS, hB, MKept.refl _⟩
  · rw [if_neg h1]
    by_cases h2 : 1024 ≤ s.xs.length
    · rw [if_pos h2]
      refine (Put_long _ g w _ _ a b _ hS (by omega) (by omega) h2).mono ?_
      rintro e w' ⟨rfl, rfl⟩
      exact ⟨rfl, hS, hB, MKept.refl _⟩
    · rw [if_neg h2]
      refine (Put_yes w0 w g _ _ a b _ hB hS (by omega) (by omega) (by omega) hG.s1 hG.n0 (by omega)).mono ?_
      rintro e w' ⟨rfl, h3, h4, h5⟩
      exact ⟨rfl, h3, h4, h5⟩

theorem M_ins (a n : Int) (hB : Below w0.heap.size w0 w) (hS : At w0 w g s) (hG : Good B s) :
    Calls Try.prog 19 #[.pointer (some ⟨g, 0, none⟩), .int .i64 a, .int .i64 n] w fun e w' => e = .returned (.int .i64 (ins s a n).2) ∧ At w0 w' g (ins s a n).1 ∧ Below w0.heap.size w0 w' ∧ MKept w w' := by
  have hl := hG.len
  unfold ins
  by_cases h1 : a < 0 ∨ s.size < a
  · rw [if_pos h1]
    refine (Insert_where _ g w _ _ a n _ hS h1).mono ?_
    rintro e w' ⟨rfl, rfl⟩
    exact ⟨rfl, hS, hB, MKept.refl _⟩
  · rw [if_neg h1]
    by_cases h2 : n < 0
    · rw [if_pos h2]
      refine (Insert_neg _ g w _ _ a n _ hS (by omega) (by omega) h2).mono ?_
      rintro e w' ⟨rfl, rfl⟩
      exact ⟨rfl, hS, hB, MKept.refl _⟩
    · rw [if_neg h2]
      by_cases h3 : 65536 - s.size < n
      · rw [if_pos h3]
        refine (Insert_size _ g w _ _ a n _ hS (by omega) (by omega) hG.s1 (by omega) h3).mono ?_
        rintro e w' ⟨rfl, rfl⟩
        exact ⟨rfl, hS, hB, MKept.refl _⟩
      · rw [if_neg h3]
        refine (Insert_yes w0 w g _ _ a n _ hB hS (by omega) hG.fine (by omega) (by omega) hG.s1 (by omega) (by omega)).mono ?_
        rintro e w' ⟨rfl, h3, h4, h5⟩
        exact ⟨rfl, h3, h4, h5⟩

theorem M_del (a b : Int) (hB : Below w0.heap.size w0 w) (hS : At w0 w g s) (hG : Good B s) :
    Calls Try.prog 20 #[.pointer (some ⟨g, 0, none⟩), .int .i64 a, .int .i64 b] w fun e w' => e = .returned (.int .i64 (del s a b).2) ∧ At w0 w' g (del s a b).1 ∧ Below w0.heap.size w0 w' ∧ MKept w w' := by
  have hl := hG.len
  unfold del
  by_cases h1 : a < 0 ∨ s.size < b ∨ b < a
  · rw [if_pos h1]
    refine (Delete_no _ g w _ _ a b _ hS h1).mono ?_
    rintro e w' ⟨rfl, rfl⟩
    exact ⟨rfl, hS, hB, MKept.refl _⟩
  · rw [if_neg h1]
    refine (Delete_yes w0 w g _ _ a b _ hB hS (by omega) hG.fine (by omega) (by omega) (by omega) hG.s1).mono ?_
    rintro e w' ⟨rfl, h3, h4, h5⟩
    exact ⟨rfl, h3, h4, h5⟩

theorem M_mov (id a : Int) (hB : Below w0.heap.size w0 w) (hS : At w0 w g s) (hG : Good B s) :
    Calls Try.prog 33 #[.pointer (some ⟨g, 0, none⟩), .int .i64 id, .int .i64 a] w fun e w' => e = .returned (.int .i64 (mov s id a).2) ∧ At w0 w' g (mov s id a).1 ∧ Below w0.heap.size w0 w' ∧ MKept w w' := by
  have hl := hG.len
  unfold mov
  by_cases h1 : place s.xs id < 0
  · rw [if_pos h1]
    refine (Move_no _ g w _ _ id a _ hS (by omega) (by rcases place_range s.xs id with h | h <;> omega)).mono ?_
    rintro e w' ⟨rfl, hb⟩
    exact ⟨rfl, hS.below hb, hB.trans (hb.mono hB.size), (MKept.refl _).below hb⟩
  · rw [if_neg h1]
    obtain ⟨k, hk, hlt⟩ := place_nat h1
    by_cases h2 : a < 0 ∨ s.size < a
    · rw [if_pos h2]
      refine (Move_where _ g w _ _ id a k _ hS (by omega) hk h2).mono ?_
      rintro e w' ⟨rfl, hb⟩
      exact ⟨rfl, hS.below hb, hB.trans (hb.mono hB.size), (MKept.refl _).below hb⟩
    · rw [if_neg h2, hk]
      refine (Move_yes w0 w g _ _ id a k _ hB hS (by omega) hk hlt (by omega) (by omega)).mono ?_
      rintro e w' ⟨rfl, h3, h4, h5⟩
      exact ⟨rfl, h3, h4, h5⟩

theorem M_drp (id : Int) (hB : Below w0.heap.size w0 w) (hS : At w0 w g s) (hG : Good B s) :
    Calls Try.prog 12 #[.pointer (some ⟨g, 0, none⟩), .int .i64 id] w fun e w' => e = .returned (.int .i64 (drp s id).2) ∧ At w0 w' g (drp s id).1 ∧ Below w0.heap.size w0 w' ∧ MKept w w' := by
  have hl := hG.len
  unfold drp
  by_cases h1 : place s.xs id < 0
  · rw [if_pos h1]
    refine (Drop_no _ g w _ _ id _ hS (by omega) (by rcases place_range s.xs id with h | h <;> omega)).mono ?_
    rintro e w' ⟨rfl, hb⟩
    exact ⟨rfl, hS.below hb, hB.trans (hb.mono hB.size), (MKept.refl _).below hb⟩
  · rw [if_neg h1]
    obtain ⟨k, hk, hlt⟩ := place_nat h1
    rw [hk]
    refine (Drop_yes w0 w g _ _ id k _ hB hS (by omega) hk hlt).mono ?_
    rintro e w' ⟨rfl, h3, h4, h5⟩
    exact ⟨rfl, h3, h4, h5⟩

/-- What is read of a number: the mark, the fault's number. -/
def got (s : St) (id : Int) : S46 × Int := if place s.xs id < 0 then (⟨0, 0, false⟩, 160) else (rd_T46 s.xs (place s.xs id), 0)

theorem M_get (id : Int) (hS : At w0 w g s) (hG : Good B s) :
    Calls Try.prog 17 #[.pointer (some ⟨g, 0, none⟩), .int .i64 id] w fun e w' => e = .returned (.tuple #[.agg #[.int .i64 (got s id).1.f0, .int .i64 (got s id).1.f1, .bool (got s id).1.f2], .int .i64 (got s id).2]) ∧ Below w.heap.size w w' := by
  have hl := hG.len
  unfold got
  by_cases h1 : place s.xs id < 0
  · rw [if_pos h1]
    exact Get_no _ g w _ _ id _ hS (by omega) (by rcases place_range s.xs id with h | h <;> omega)
  · rw [if_neg h1]
    obtain ⟨k, hk, hlt⟩ := place_nat h1
    rw [hk]
    exact Get_yes _ g w _ _ id k _ hS (by omega) hk hlt
end

end Go.Proofs.Ytfcaodnfiakdoaa.Mk
