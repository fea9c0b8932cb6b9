/- Marks are sorted by their places: what the library's SortFunc makes of a row of the call's own; no condition beside the bounds that are written. -/
import Derived.Test.YtfcaodnfiakdoaaNa
import Derived.Test.YtfcaodnfiakdoaaShelf
import Derived.Shelf.SlSortCmp.NoneTotal
namespace Go.Proofs.Ytfcaodnfiakdoaa.Mk
open Go.RowKit Go.Sort Go.Proofs.YtfcaodnfiakdoaaW.PrintWords Go.Proofs.YtfcaodnfiakdoaaW.PrintLast Go.Proofs.YtfcaodnfiakdoaaW.PrintMore Go.Proofs.Ytfcaodnfiakdoaa.PMarksPlay
set_option linter.unusedVariables false
set_option linter.unusedSimpArgs false

def Bounded (m : S46) : Prop := (0 ≤ m.f1 ∧ m.f1 ≤ 65536) ∧ (0 ≤ m.f0 ∧ m.f0 ≤ 1000000)
/-- The marks of a row, as a type of their own. -/
abbrev In46 (xs : List S46) : Type := { m : S46 // m ∈ xs }
def encM {xs : List S46} (x : In46 xs) : List Value := [.int .i64 x.1.f0, .int .i64 x.1.f1, .bool x.1.f2]
def cmpIn {xs : List S46} (x y : In46 xs) : Int := cmpM x.1 y.1
def sortM (xs : List S46) : List S46 := xs.mergeSort (fun x y => !before y x)

theorem cmpM_before (a b : S46) : decide (cmpM a b < 0) = before a b := by
  unfold cmpM before
  by_cases h : a.f1 = b.f1
  · rw [if_pos h]
    have h1 : decide (a.f1 < b.f1) = false := by simp; omega
    have h2 : (a.f1 == b.f1) = true := by simpa using h
    rw [h1, h2, Bool.false_or, Bool.true_and]
    by_cases h3 : a.f0 < b.f0
    · rw [decide_eq_true h3, decide_eq_true (by omega)]
    · rw [decide_eq_false h3, decide_eq_false (by omega)]
  · rw [if_neg h]
    have h2 : (a.f1 == b.f1) = false := by simpa using h
    rw [h2, Bool.false_and, Bool.or_false]
    by_cases h3 : a.f1 < b.f1
    · rw [decide_eq_true h3, decide_eq_true (by omega)]
    · rw [decide_eq_false h3, decide_eq_false (by omega)]

theorem before_iff (a b : S46) : before a b = true ↔ a.f1 < b.f1 ∨ (a.f1 = b.f1 ∧ a.f0 < b.f0) := by simp [before]
theorem before_no (a b : S46) : before a b = false ↔ ¬ (a.f1 < b.f1 ∨ (a.f1 = b.f1 ∧ a.f0 < b.f0)) := by rw [← before_iff]; simp

theorem swoIn (xs : List S46) : SWO (ltOf (cmpIn (xs := xs))) := by
  have e : ∀ x y : In46 xs, ltOf cmpIn x y = before x.1 y.1 := fun x y => cmpM_before x.1 y.1
  refine ⟨fun x => ?_, fun x y z h1 h2 => ?_, fun x y z h1 h2 => ?_⟩
  · rw [e, before_no]; omega
  · rw [e, before_iff] at h1 h2 ⊢; omega
  · rw [e, before_no] at h1 h2 ⊢; omega

theorem agg46 (w : World) : (isAgg 46).run Try.prog w = .ok true w := by kernel_rfl
theorem size46 (w : World) : (Go.sizeOf 46).run Try.prog w = .ok 3 w := by kernel_rfl

theorem flat_get {α : Type} [Inhabited α] (enc : α → List Value) (d : Array α) (j t : Nat) (hj : j < d.size) (ht : t < 3) : (flatK enc 3 d)[j * 3 + t]! = (enc d[j]!)[t]! := by
  rw [get_flatK _ _ _ _ (by omega)]
  congr 2
  · congr 1
    omega
  · omega

theorem rd46_get {xs : List S46} {k : Nat} (hk : k < xs.length) : rd_T46 xs k = xs[k] := by simp [rd_T46, hk]

theorem holds46 {w : World} {base b c : Nat} {ok : Nat → Prop} {xs : List S46} [Inhabited (In46 xs)] (hR : Kd.R k46 46 w base ok (.slice (some ⟨b, 0, none⟩) xs.length c) xs) : HoldsK (encM (xs := xs)) 3 w b 0 xs.attach.toArray := by
  obtain ⟨cur, hb, hsz, _, hc⟩ := R46_room hR
  obtain ⟨A, c', e, _, hC⟩ := Kd.R_reads hR
  cases e
  intro t ht
  have ht' : t < xs.length * 3 := by simpa using ht
  have hj : t / 3 < xs.length := by omega
  obtain ⟨ad, e, h0, h1, h2⟩ := at_T46 hC ((t / 3 : Nat) : Int) (by omega) (by omega)
  cases e
  rw [Int.toNat_natCast] at h0 h1 h2
  have hd : (xs.attach.toArray)[t / 3]!.1 = rd_T46 xs (t / 3 : Nat) := by
    rw [rd46_get hj]; simp [hj]
  have e1 : t = t / 3 * 3 + t % 3 := by omega
  have hf : (flatK (encM (xs := xs)) 3 xs.attach.toArray)[t]! = [.int .i64 (rd_T46 xs (t / 3 : Nat)).f0, .int .i64 (rd_T46 xs (t / 3 : Nat)).f1, .bool (rd_T46 xs (t / 3 : Nat)).f2][t % 3]! := by
    rw [← hd]
    conv => lhs; rw [e1]
    rw [flat_get _ _ _ _ (by simpa using hj) (by omega)]
    rfl
  refine ⟨?_, blk_frozen hb _⟩
  rw [hf]
  rw [addr_add] at h0 h1 h2
  simp only [Nat.zero_add] at h0 h1 h2
  have h3 : t % 3 = 0 ∨ t % 3 = 1 ∨ t % 3 = 2 := by omega
  rcases h3 with h3 | h3 | h3
  · have : 0 + t = t / 3 * 3 := by omega
    rw [h3, this]; exact h0
  · have : 0 + t = t / 3 * 3 + 1 := by omega
    rw [h3, this]; exact h1
  · have : 0 + t = t / 3 * 3 + 2 := by omega
    rw [h3, this]; exact h2

theorem sorted46 {w : World} {base b c n : Nat} {ok : Nat → Prop} {os : Array Obj} {xs : List S46} [Inhabited (In46 xs)] (ys : List (In46 xs)) (hl : ys.length = xs.length) (hR : Kd.R k46 46 w base ok (.slice (some ⟨b, 0, none⟩) xs.length c) xs) :
    Kd.R k46 46 (sortWorldK (encM (xs := xs)) 3 w b 0 n ys.toArray os) base ok (.slice (some ⟨b, 0, none⟩) xs.length c) (ys.map (·.1)) := by
  obtain ⟨h0, inner, ⟨hl0, ho⟩, hr⟩ := hR
  rcases ho with ⟨e1, _⟩ | ⟨g', cap, cur, e1, hg, hb, h1, h2, h3, h4⟩
  · cases e1
  cases e1
  have h3' : cur.size = c * 3 := h3
  have hbl : b < w.heap.size := (Array.getElem?_eq_some_iff.1 hb).1
  have hheap : (sortWorldK (encM (xs := xs)) 3 w b 0 n ys.toArray os).heap[b]? = some (.cells (putCells id 0 (flatK (encM (xs := xs)) 3 ys.toArray) cur) 46 (0, 0)) := by
    unfold sortWorldK putRowK
    rw [heap_grow_old _ _ (by simpa [putRow, mapBlock] using hbl)]
    simp [putRow, mapBlock, Sort.ahead, Array.getElem?_modify, hb, onCells]
  have hF : (flatK (encM (xs := xs)) 3 ys.toArray).size = xs.length * 3 := by simp [hl]
  refine ⟨h0, (flatK (encM (xs := xs)) 3 ys.toArray).toList, ⟨by simp [hl]; rfl, .inr ⟨b, c, _, by simp [hl], hg, hheap, by simpa [hl] using h1, h2, by rw [show k46.sz = 3 from rfl]; simpa [putCells] using h3', ?_⟩⟩, ⟨by simp; rfl, ?_⟩⟩
  · have hk : (List.map (·.1) ys).length * k46.sz = xs.length * 3 := by simp [hl]; rfl
    rw [hk]
    apply List.ext_getElem?
    intro j
    by_cases hj : j < xs.length * 3
    · rw [List.getElem?_take_of_lt hj, Array.getElem?_toList, Array.getElem?_toList]
      have hjc : j < cur.size := by have : xs.length ≤ c := h1; omega
      simp [putCells, hF, hj, hjc, hl]
    · rw [List.getElem?_take_eq_none (by omega), Array.getElem?_toList, Array.getElem?_eq_none (by omega)]
  · intro j p hp
    obtain ⟨hj, hpe⟩ := List.getElem?_eq_some_iff.1 hp
    have hj' : j < ys.length := by simpa using hj
    have he : ((flatK (encM (xs := xs)) 3 ys.toArray).toList.drop (j * k46.sz)).take k46.sz = [.int .i64 p.f0, .int .i64 p.f1, .bool p.f2] := by
      have hsz : k46.sz = 3 := rfl
      rw [hsz]
      have hg : ∀ t, t < 3 → (flatK (encM (xs := xs)) 3 ys.toArray)[j * 3 + t]? = (encM ys[j])[t]? := fun t ht => by
        have hb1 : j * 3 + t < (flatK (encM (xs := xs)) 3 ys.toArray).size := by omega
        have := flat_get (encM (xs := xs)) ys.toArray j t (by simpa using hj') ht
        rw [getElem!_pos (flatK (encM (xs := xs)) 3 ys.toArray) _ hb1] at this
        rw [Array.getElem?_eq_getElem hb1, this]
        have hy : ys.toArray[j]! = ys[j] := by rw [getElem!_pos ys.toArray _ (by simpa using hj')]; simp
        rw [hy]
        have h5 : t = 0 ∨ t = 1 ∨ t = 2 := by omega
        rcases h5 with rfl | rfl | rfl <;> rfl
      have hpv : p = ys[j].1 := by rw [← hpe]; simp
      subst hpv
      apply List.ext_getElem?
      intro t
      by_cases ht : t < 3
      · rw [List.getElem?_take_of_lt ht, List.getElem?_drop, Array.getElem?_toList, hg t ht]; rfl
      · rw [List.getElem?_take_eq_none (by omega), List.getElem?_eq_none (by simp; omega)]
    rw [he]
    exact k46_mkM _ _ _ _
end Go.Proofs.Ytfcaodnfiakdoaa.Mk
