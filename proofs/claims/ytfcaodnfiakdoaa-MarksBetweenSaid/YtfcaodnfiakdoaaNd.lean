/- Marks are sorted by their places: the library's SortFunc with the comparison of this program, and All; no condition beside the bounds that are written. -/
import Derived.Test.YtfcaodnfiakdoaaNc
namespace Go.Proofs.Ytfcaodnfiakdoaa.Mk
open Go.RowKit Go.Sort Go.Proofs.YtfcaodnfiakdoaaW.PrintWords Go.Proofs.YtfcaodnfiakdoaaW.PrintLast Go.Proofs.YtfcaodnfiakdoaaW.PrintMore Go.Proofs.Ytfcaodnfiakdoaa.PMarksPlay
set_option linter.unusedVariables false
set_option linter.unusedSimpArgs false

theorem cmpLays46 (xs : List S46) [Inhabited (In46 xs)] (hb : ∀ m ∈ xs, Bounded m) (b size : Nat) (w : World) : CmpLays Try.prog 28 #[] (encM (xs := xs)) 3 cmpIn b 0 size w :=
  fun m os dk hs x y => (cmp_any x.1 y.1 _ (hb _ x.2).1 (hb _ y.2).1 (hb _ x.2).2 (hb _ y.2).2).mono (by
    rintro e w' ⟨rfl, rfl⟩
    exact ⟨rfl, 0, _, by rw [alloc_eq_grow, alloc_eq_grow, grow_grow]; rfl⟩)

theorem ids_eq {xs : List S46} (hr : xs.Pairwise (fun a b => a.f0 < b.f0)) {x y : S46} (hx : x ∈ xs) (hy : y ∈ xs) (h : x.f0 = y.f0) : x = y := by
  induction xs with
  | nil => cases hx
  | cons a l ih =>
    rw [List.pairwise_cons] at hr
    rcases List.mem_cons.1 hx with e1 | hx1
    · rcases List.mem_cons.1 hy with e2 | hy1
      · rw [e1, e2]
      · have := hr.1 y hy1; rw [e1] at h; omega
    · rcases List.mem_cons.1 hy with e2 | hy1
      · have := hr.1 x hx1; rw [e2] at h; omega
      · exact ih hr.2 hx1 hy1

theorem sortM_attach (xs : List S46) : ((xs.attach.mergeSort (fun x y => !(ltOf cmpIn) y x)).map (·.1)) = sortM xs := by
  unfold sortM
  rw [List.map_mergeSort (s := fun x y => !before y x) (fun a _ b _ => congrArg Bool.not (cmpM_before b.1 a.1))]
  congr 1
  exact List.attach_map_subtype_val xs

theorem below_sort {α : Type} [Inhabited α] {enc : α → List Value} {w0 w : World} {b n : Nat} {d : Array α} {os : Array Obj} (hb : w0.heap.size ≤ b) (h : Below w0.heap.size w0 w) : Below w0.heap.size w0 (sortWorldK enc 3 w b 0 n d os) := by
  refine ⟨h.os, h.tape, h.output, by have := h.size; rw [show (sortWorldK enc 3 w b 0 n d os).heap.size = w.heap.size + os.size by unfold sortWorldK; rw [size_grow, size_putRowK]; rfl]; omega, fun k hk => ?_⟩
  have hk1 : k < w.heap.size := Nat.lt_of_lt_of_le hk h.size
  unfold sortWorldK putRowK
  rw [heap_grow_old _ _ (by simpa [putRow, mapBlock] using hk1)]
  have : b ≠ k := by omega
  simp only [putRow, mapBlock, Sort.ahead, Array.getElem?_modify, if_neg this]
  exact h.block k hk

theorem sort_some (w0 w : World) (b c : Nat) (ok : Nat → Prop) (xs : List S46) (hne : xs ≠ []) (hB : Below w0.heap.size w0 w) (hR : Kd.R k46 46 w w0.heap.size ok (.slice (some ⟨b, 0, none⟩) xs.length c) xs) (hl : xs.length ≤ 1000000) (hb : ∀ m ∈ xs, Bounded m) (hr : xs.Pairwise (fun a b => a.f0 < b.f0)) :
    Calls Try.prog 27 #[.slice (some ⟨b, 0, none⟩) xs.length c, .func (.func 28) #[] #[]] w fun e w' => e = .returned (.tuple #[]) ∧ Kd.R k46 46 w' w0.heap.size ok (.slice (some ⟨b, 0, none⟩) xs.length c) (sortM xs) ∧ Below w0.heap.size w0 w' := by
  obtain ⟨m0, hm0⟩ := List.exists_mem_of_ne_nil xs hne
  haveI : Inhabited (In46 xs) := ⟨⟨m0, hm0⟩⟩
  obtain ⟨cur, hblk, _, _, _⟩ := R46_room hR
  have hbl : b < w.heap.size := (Array.getElem?_eq_some_iff.1 hblk).1
  have eg : ∀ args w, (callFunc 28 args).run Try.prog w = .ok (.enter 28 args) w := enters_of Try.func28 (by kernel_rfl) rfl
  have hsz : (xs.attach.toArray).size = xs.length := by simp
  have hT : ∀ x y : In46 xs, (ltOf cmpIn) x y = false → (ltOf cmpIn) y x = false → x = y := fun x y h1 h2 => by
    have e : ∀ x y : In46 xs, ltOf cmpIn x y = before x.1 y.1 := fun x y => cmpM_before x.1 y.1
    rw [e, before_no] at h1 h2
    exact Subtype.ext (ids_eq hr x.2 y.2 (by omega))
  have h := AnyQ.slices_SortFunc_total Try.sortMarks 3 agg46 size46 (encM (xs := xs)) (fun _ => rfl) (fun x v hv => by simp [encM] at hv; rcases hv with rfl | rfl | rfl <;> rfl) cmpIn (swoIn xs) 28 #[] b 0 c xs.attach.toArray w eg (cmpLays46 xs hb b _ w) (holds46 hR) hbl (by rw [hsz]; omega) hT
  rw [hsz] at h
  refine Calls.mono (show Calls Try.prog 27 _ w _ from h) ?_
  rintro e w' ⟨rfl, n, os, rfl⟩
  refine ⟨rfl, ?_, below_sort (by
    obtain ⟨h0, inner, ho, _⟩ := hR
    exact own_base ho b rfl) hB⟩
  rw [← sortM_attach]
  exact sorted46 _ (by simp) hR

theorem sort_any (w0 w : World) (v : Value) (ok : Nat → Prop) (xs : List S46) (hB : Below w0.heap.size w0 w) (hR : Kd.R k46 46 w w0.heap.size ok v xs) (hl : xs.length ≤ 1000000) (hb : ∀ m ∈ xs, Bounded m) (hr : xs.Pairwise (fun a b => a.f0 < b.f0)) :
    Calls Try.prog 27 #[v, .func (.func 28) #[] #[]] w fun e w' => e = .returned (.tuple #[]) ∧ Kd.R k46 46 w' w0.heap.size ok v (sortM xs) ∧ Below w0.heap.size w0 w' := by
  obtain ⟨A, c, rfl⟩ := Kd.R_slice hR
  by_cases hne : xs = []
  · subst hne
    have h := AnyF.slices_SortFunc_none { Try.sortMarks with } A c (.func (.func 28) #[] #[]) w
    refine Calls.mono (show Calls Try.prog 27 _ w _ from h) ?_
    rintro e w' ⟨rfl, rfl⟩
    exact ⟨rfl, by simpa [sortM] using hR, hB⟩
  · have hA : ∃ b, A = some ⟨b, 0, none⟩ := by
      obtain ⟨h0, inner, ⟨hl0, ho⟩, hr⟩ := hR
      rcases ho with ⟨e1, _⟩ | ⟨g', cap, cur, e1, _⟩
      · injection e1 with _ e2 _
        exact absurd (List.eq_nil_of_length_eq_zero e2) hne
      · injection e1 with e1
        exact ⟨g', e1⟩
    obtain ⟨b, rfl⟩ := hA
    exact sort_some w0 w b c ok xs hne hB hR hl hb hr

set_option maxHeartbeats 1000000 in
set_option maxRecDepth 100000 in
/-- All: the marks by their places. -/
theorem All_any (base g : Nat) (w : World) (size next : Int) (xs : List S46) (hS : SetAt base w g size next xs) (hl : xs.length ≤ 1000000) (hb : ∀ m ∈ xs, Bounded m) (hr : xs.Pairwise (fun a b => a.f0 < b.f0)) :
    Calls Try.prog 15 #[.pointer (some ⟨g, 0, none⟩)] w fun e w' => ∃ v, e = .returned v ∧ Kd.R k46 46 w' w.heap.size (fun _ => True) v (sortM xs) ∧ Below w.heap.size w w' := by
  obtain ⟨A, c, hblk, hrow, hc, hC, hg, hlt, c0, c1, c2, f0, f1, f2⟩ := hS.open'
  have HC := Aside0.mk hC
  have HB := Aside0.mk hb
  have HR := Aside0.mk hr
  clear hblk hrow hC hb hr
  go_enter Try.func15, Try.ntmps15
  go_wp2_with fail
  refine (clone_any w A c xs HC.out hl).mono ?_
  rintro e w1 ⟨v, rfl, hR1, hB1⟩
  have HR1 := Aside0.mk hR1
  have HB1 := Aside0.mk hB1
  obtain ⟨A1, c3, rfl⟩ := Kd.R_slice hR1
  clear hR1 hB1
  go_wp2_with fail
  refine (sort_any w w1 _ _ xs HB1.out HR1.out hl HB.out HR.out).mono ?_
  rintro e w2 ⟨rfl, hR2, hB2⟩
  have HR2 := Aside0.mk hR2
  have HB2 := Aside0.mk hB2
  clear hR2 hB2
  go_wp2
  go_ret
  exact ⟨_, rfl, HR2.out, HB2.out⟩
end Go.Proofs.Ytfcaodnfiakdoaa.Mk
