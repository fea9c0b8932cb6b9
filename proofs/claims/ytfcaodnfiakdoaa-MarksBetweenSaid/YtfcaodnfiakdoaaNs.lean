/- The library's sort and the document's sort of marks come to the same: plain law, no program in sight; the marks' numbers part them. -/
import Derived.Test.YtfcaodnfiakdoaaNb
import Derived.Test.YtfcaodnfiakdoaaNd
namespace Go.Proofs.Ytfcaodnfiakdoaa.Mk
open Go.RowKit Go.Proofs.YtfcaodnfiakdoaaW.PrintWords Go.Proofs.YtfcaodnfiakdoaaW.PrintLast Go.Proofs.YtfcaodnfiakdoaaW.PrintMore Go.Proofs.Ytfcaodnfiakdoaa.PMarksPlay
set_option linter.unusedVariables false
set_option linter.unusedSimpArgs false

theorem beforeR_iff (a b : S51) : beforeR a b = true ↔ a.f1 < b.f1 ∨ (a.f1 = b.f1 ∧ a.f0 < b.f0) := by simp [beforeR]
theorem insertR_perm (out : List S51) (m : S51) : (insertR out m).Perm (m :: out) := by
  unfold insertR
  have h : (out.take (spotR out m) ++ [m] ++ out.drop (spotR out m)).Perm (m :: (out.take (spotR out m) ++ out.drop (spotR out m))) := by
    rw [List.append_assoc, List.singleton_append]
    exact List.perm_middle
  rwa [List.take_append_drop] at h
theorem insAll_perm (ys : List S51) : (insAll ys).Perm ys := by
  have h : ∀ (l acc : List S51), (l.foldl insertR acc).Perm (acc ++ l) := by
    intro l
    induction l with
    | nil => intro acc; simp
    | cons a l ih =>
      intro acc
      rw [List.foldl_cons]
      refine (ih _).trans ?_
      refine ((insertR_perm acc a).append_right l).trans ?_
      rw [List.cons_append]
      exact List.perm_middle.symm
  have := h ys []
  simpa [insAll] using this

/-- In order: none stands ahead of an earlier one. -/
def InOrder (l : List S51) : Prop := l.Pairwise (fun a b => beforeR b a = false)
theorem insertR_order (out : List S51) (m : S51) (h : InOrder out) : InOrder (insertR out m) := by
  unfold InOrder insertR
  have htd := List.take_append_drop (spotR out m) out
  have h' : (out.take (spotR out m) ++ out.drop (spotR out m)).Pairwise (fun a b => beforeR b a = false) := by rw [htd]; exact h
  rw [List.pairwise_append] at h'
  obtain ⟨h1, h2, h3⟩ := h'
  have hlt : ∀ x ∈ out.take (spotR out m), beforeR x m = true := fun x hx => by
    obtain ⟨i, hi, rfl⟩ := List.getElem_of_mem hx
    have hi' : i < spotR out m := by rw [List.length_take] at hi; omega
    obtain ⟨h4, h5⟩ := spotR_lt out m i hi'
    rw [rd51_get h4] at h5
    simpa using h5
  have hge : ∀ x ∈ out.drop (spotR out m), beforeR x m = false := fun x hx => by
    obtain ⟨i, hi, rfl⟩ := List.getElem_of_mem hx
    rw [List.length_drop] at hi
    have h4 : spotR out m < out.length := by omega
    have h5 := spotR_at out m h4
    rw [rd51_get h4] at h5
    rw [List.getElem_drop]
    rcases Nat.eq_zero_or_pos i with rfl | hp
    · simpa using h5
    · have h6 := List.pairwise_iff_getElem.1 h (spotR out m) (spotR out m + i) h4 (by omega) (by omega)
      cases hb : beforeR out[spotR out m + i] m
      · rfl
      · rw [beforeR_iff] at hb
        have h7 : ¬ beforeR out[spotR out m] m = true := by rw [h5]; simp
        have h8 : ¬ beforeR out[spotR out m + i] out[spotR out m] = true := by rw [h6]; simp
        rw [beforeR_iff] at h7 h8
        omega
  rw [List.append_assoc, List.pairwise_append]
  refine ⟨h1, ?_, ?_⟩
  · rw [List.singleton_append, List.pairwise_cons]
    exact ⟨hge, h2⟩
  · intro x hx y hy
    rw [List.singleton_append] at hy
    rcases List.mem_cons.1 hy with rfl | hy
    · have h4 := hlt x hx
      cases hb : beforeR y x
      · rfl
      · rw [beforeR_iff] at h4 hb; omega
    · exact h3 x hx y hy
theorem insAll_order (ys : List S51) : InOrder (insAll ys) := by
  have h : ∀ (l acc : List S51), InOrder acc → InOrder (l.foldl insertR acc) := by
    intro l
    induction l with
    | nil => intro acc h; exact h
    | cons a l ih => intro acc h; rw [List.foldl_cons]; exact ih _ (insertR_order acc a h)
  exact h ys [] List.Pairwise.nil

theorem sortM_order (xs : List S46) : InOrder ((sortM xs).map toR) := by
  unfold InOrder
  rw [List.pairwise_map]
  have h := List.pairwise_mergeSort (le := fun x y : S46 => !before y x) (fun a b c h1 h2 => by
    have h1' : before b a = false := by simpa using h1
    have h2' : before c b = false := by simpa using h2
    rw [before_no] at h1' h2'
    have : before c a = false := by rw [before_no]; omega
    simp [this]) (fun a b => by
    cases h1 : before b a
    · simp
    · have : before a b = false := by rw [before_iff] at h1; rw [before_no]; omega
      simp [this]) xs
  refine h.imp (fun {a b} hab => ?_)
  have : before b a = false := by simpa using hab
  exact this

theorem sort_same (xs : List S46) (hr : xs.Pairwise (fun a b => a.f0 < b.f0)) : (sortM xs).map toR = insAll (xs.map toR) := by
  refine List.Perm.eq_of_pairwise (le := fun a b => beforeR b a = false) ?_ (sortM_order xs) (insAll_order _) ((List.Perm.map toR (List.mergeSort_perm xs _)).trans (insAll_perm _).symm)
  intro a b ha hb h1 h2
  have ha' := (List.Perm.mem_iff (List.Perm.map toR (List.mergeSort_perm xs _))).1 ha
  have hb' := (List.Perm.mem_iff (insAll_perm _)).1 hb
  obtain ⟨x, hx, rfl⟩ := List.mem_map.1 ha'
  obtain ⟨y, hy, rfl⟩ := List.mem_map.1 hb'
  have n1 : ¬ beforeR (toR y) (toR x) = true := by rw [h1]; simp
  have n2 : ¬ beforeR (toR x) (toR y) = true := by rw [h2]; simp
  rw [beforeR_iff] at n1 n2
  have : x.f0 = y.f0 := by
    have e1 : (toR x).f0 = x.f0 := rfl
    have e2 : (toR y).f0 = y.f0 := rfl
    omega
  rw [ids_eq hr hx hy this]
end Go.Proofs.Ytfcaodnfiakdoaa.Mk
