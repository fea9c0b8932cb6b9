/- What an Insert or a Delete does to two marks' order: plain law, no program in sight; no condition beside the bounds that are written. -/
import Derived.Test.YtfcaodnfiakdoaaNd
namespace Go.Proofs.Ytfcaodnfiakdoaa.Mk
open Go.RowKit Go.Proofs.YtfcaodnfiakdoaaW.PrintWords Go.Proofs.YtfcaodnfiakdoaaW.PrintLast Go.Proofs.YtfcaodnfiakdoaaW.PrintMore Go.Proofs.Ytfcaodnfiakdoaa.PMarksPlay
set_option linter.unusedVariables false
set_option linter.unusedSimpArgs false

/-- An edit: every mark is carried, none past another that stood behind it. -/
structure Edit (f : S46 → S46) (xs xs' : List S46) : Prop where
  eq : xs' = xs.map f
  num : ∀ m, (f m).f0 = m.f0
  mono : ∀ m n, m.f1 < n.f1 → (f m).f1 ≤ (f n).f1

theorem Edit.same (xs : List S46) : Edit (fun m => m) xs xs := ⟨by simp, fun _ => rfl, fun m n h => by show m.f1 ≤ n.f1; omega⟩
theorem ins_edit {B : Int} {s : St} (h : Good B s) (a n : Int) : ∃ f, Edit f s.xs (ins s a n).1.xs := by
  unfold ins
  split
  · exact ⟨_, Edit.same _⟩
  · split
    · exact ⟨_, Edit.same _⟩
    · split
      · exact ⟨_, Edit.same _⟩
      · refine ⟨bump a n, rfl, bump_id a n, fun x y hxy => ?_⟩
        unfold bump moved
        split <;> split <;> (first | omega | (dsimp only; omega))
theorem del_edit {B : Int} {s : St} (h : Good B s) (a b : Int) : ∃ f, Edit f s.xs (del s a b).1.xs := by
  unfold del
  split
  · exact ⟨_, Edit.same _⟩
  · refine ⟨squeeze a b, rfl, squeeze_id a b, fun x y hxy => ?_⟩
    have e : ∀ m, (squeeze a b m).f1 = if b ≤ m.f1 then m.f1 - (b - a) else if a < m.f1 then a else m.f1 := by
      intro m
      unfold squeeze moved
      split
      · rfl
      · split <;> rfl
    rw [e, e]
    repeat' split
    all_goals omega

theorem got_edit {B : Int} {s s' : St} {f : S46 → S46} (h : Good B s) (he : Edit f s.xs s'.xs) {m : S46} (hm : m ∈ s.xs) : got s' m.f0 = (f m, 0) := by
  obtain ⟨k, hk, rfl⟩ := List.getElem_of_mem hm
  have hk' : k < s'.xs.length := by rw [he.eq, List.length_map]; exact hk
  have hrd : ∀ j (hj : j < s.xs.length), rd_T46 s'.xs j = f s.xs[j] := fun j hj => by
    rw [rd46_get (by rw [he.eq, List.length_map]; exact hj)]
    simp [he.eq]
  have hp : place s'.xs (s.xs[k]).f0 = k := place_at (xs := s'.xs) (id := (s.xs[k]).f0) (k := k) hk' (by rw [hrd k hk, he.num]) (fun j hj => by
    rw [hrd j (by omega), he.num]
    have := List.pairwise_iff_getElem.1 h.rise j k (by omega) hk hj
    omega)
  unfold got
  rw [hp, if_neg (by omega), hrd k hk]

theorem sortM_mem {xs : List S46} {k : Nat} (hk : k < (sortM xs).length) : rd_T46 (sortM xs) k ∈ xs := by
  rw [rd46_get hk]
  exact List.mem_mergeSort.1 (List.getElem_mem hk)
theorem sortM_length (xs : List S46) : (sortM xs).length = xs.length := by unfold sortM; rw [List.length_mergeSort]
end Go.Proofs.Ytfcaodnfiakdoaa.Mk
