/- Where a number stands in a set of marks; no condition beside the length that is written. -/
import Derived.Test.YtfcaodnfiakdoaaMb
namespace Go.Proofs.Ytfcaodnfiakdoaa.Mk
open Go.RowKit Go.Proofs.YtfcaodnfiakdoaaW.PrintWords Go.Proofs.YtfcaodnfiakdoaaW.PrintLast Go.Proofs.YtfcaodnfiakdoaaW.PrintMore Go.Proofs.Ytfcaodnfiakdoaa.PMarksPlay
set_option linter.unusedVariables false
set_option linter.unusedSimpArgs false

set_option maxRecDepth 100000 in
theorem same_id (a b c : Int) (s : Bool) (p : Addr) (w : World) (hid : w.cell? p = some (.int .i64 c)) (hp : p.block < w.heap.size) :
    Calls Try.prog 37 #[.agg #[.int .i64 a, .int .i64 b, .bool s], .pointer (some p)] w fun e w' => e = .returned (.bool (a == c)) ∧ w' = w.alloc (.cells #[.int .i64 a, .int .i64 b, .bool s] 46) := by
  go_enter Try.func37, Try.ntmps37
  go_wp2
  go_ret
  exact ⟨rfl, rfl⟩

/-- Where a number stands in a list: -1 where it does not. -/
def place (xs : List S46) (id : Int) : Int := match xs.findIdx? (fun m => m.f0 == id) with
  | some k => k
  | none => -1

theorem place_at {xs : List S46} {id : Int} {k : Nat} (hk : k < xs.length) (h : (rd_T46 xs k).f0 = id) (hn : ∀ j, j < k → (rd_T46 xs j).f0 ≠ id) : place xs id = k := by
  have : xs.findIdx? (fun m => m.f0 == id) = some k := by
    rw [List.findIdx?_eq_some_iff_getElem]
    refine ⟨hk, ?_, fun j hj => ?_⟩
    · have : rd_T46 xs k = xs[k] := by simp [rd_T46, hk]
      rw [← this]; simpa using h
    · have := hn j hj
      have e : rd_T46 xs j = xs[j] := by simp [rd_T46, Nat.lt_trans hj hk]
      rw [e] at this
      simpa using this
  simp [place, this]
theorem place_no {xs : List S46} {id : Int} (hn : ∀ j, j < xs.length → (rd_T46 xs j).f0 ≠ id) : place xs id = -1 := by
  have : xs.findIdx? (fun m => m.f0 == id) = none := by
    rw [List.findIdx?_eq_none_iff]
    intro m hm
    obtain ⟨j, hj, rfl⟩ := List.getElem_of_mem hm
    have := hn j hj
    have e : rd_T46 xs j = xs[j] := by simp [rd_T46, hj]
    rw [e] at this
    simpa using this
  simp [place, this]

def NotYet (xs : List S46) (id : Int) (k : Nat) : Prop := ∀ j, j < k → (rd_T46 xs j).f0 ≠ id

set_option maxHeartbeats 1000000 in
set_option maxRecDepth 100000 in
theorem index_any (w : World) (A : Option Addr) (c b : Nat) (id : Int) (xs : List S46) (hC : Kd.C k46 w A xs.length xs) (hl : xs.length ≤ 1000000) (hid : w.cell? ⟨b, 0, none⟩ = some (.int .i64 id)) :
    Calls Try.prog 36 #[.slice A xs.length c, .func (.func 37) #[] #[.pointer (some ⟨b, 0, none⟩)]] w fun e w' => e = .returned (.int .i64 (place xs id)) ∧ Below w.heap.size w w' := by
  have hb : b < w.heap.size := World.block_lt_of_cell? w _ hid
  have HC := Aside0.mk hC
  clear hC
  go_enter Try.func36, Try.ntmps36
  go_wp2_with fail
  go_loopw [5, 8] (fun u i wr => ∃ k : Nat, k ≤ xs.length ∧ i = .int .i64 k ∧ Aside0 (NotYet xs id k) ∧ Aside0 (Below w.heap.size w wr)) (fun _ i _ => xs.length - (intOf i).toNat)
  case atStart => exact ⟨0, Nat.zero_le _, rfl, ⟨fun j hj => by omega⟩, ⟨Below.refl _ _⟩⟩
  case round =>
    obtain ⟨k, hk, rfl, HN, HB⟩ := hrel
    by_cases hlt : k < xs.length
    · obtain ⟨ad, rfl, hx0, hx1, hx2⟩ := at_T46 (Kd.C_below HC.out HB.out) (k : Int) (by omega) (by omega)
      rw [Int.toNat_natCast] at hx0 hx1 hx2
      have hcell : wr.cell? ⟨b, 0, none⟩ = some (.int .i64 id) := (HB.out.cell (p := ⟨b, 0, none⟩) hb).trans hid
      have hbr : b < wr.heap.size := Nat.lt_of_lt_of_le hb HB.out.size
      go_wp2_with fail
      refine (same_id _ _ _ _ _ _ hcell hbr).mono ?_
      rintro e w' ⟨rfl, rfl⟩
      by_cases heq : (rd_T46 xs (k : Int)).f0 = id
      · have hq : ((rd_T46 xs (k : Int)).f0 == id) = true := by simpa using heq
        rw [hq]
        clear hq
        have hp := Aside0.mk (place_at hlt heq HN.out)
        clear heq
        go_wp2
        go_ret
        exact ⟨by rw [hp.out]; rfl, HB.out.alloc (by have := HB.out.size; omega) _⟩
      · have hq : ((rd_T46 xs (k : Int)).f0 == id) = false := by simpa using heq
        rw [hq]
        clear hq
        have hn : NotYet xs id (k + 1) := fun j hj => by
          rcases Nat.lt_or_ge j k with h | h
          · exact HN.out j h
          · obtain rfl : j = k := by omega
            exact heq
        have HN2 := Aside0.mk hn
        clear heq hn
        go_wp2
        go_roundw
        case rel => exact ⟨k + 1, by omega, by go_num, HN2, ⟨HB.out.alloc (by have := HB.out.size; omega) _⟩⟩
        case measure => simp [intOf]; omega
    · have hd : decide ((k : Int) < (xs.length : Int)) = false := by simp; omega
      have hp := Aside0.mk (place_no (xs := xs) (id := id) (fun j hj => HN.out j (by omega)))
      go_wp2
      go_ret
      exact ⟨by rw [hp.out]; rfl, HB.out⟩

set_option maxHeartbeats 1000000 in
set_option maxRecDepth 100000 in
theorem find_any (base : Nat) (w : World) (g : Nat) (size next id : Int) (xs : List S46) (hS : SetAt base w g size next xs) (hl : xs.length ≤ 1000000) :
    Calls Try.prog 24 #[.pointer (some ⟨g, 0, none⟩), .int .i64 id] w fun e w' => e = .returned (.int .i64 (place xs id)) ∧ Below w.heap.size w w' := by
  obtain ⟨hg, v, hblk, hrow⟩ := hS
  obtain ⟨A, c, rfl, hc, hC⟩ := Kd.R_reads hrow
  have c2 : w.cell? ⟨g, 2, none⟩ = some (.slice A xs.length c) := (blk_cell hblk 2).trans rfl
  have hlt : g < w.heap.size := blk_lt hblk
  go_enter Try.func24, Try.ntmps24
  go_wp2_with fail
  refine (index_any _ A c _ id xs (Kd.C_below hC (below_alloc (Below.refl _ _) _)) hl (by simp)).mono ?_
  rintro e w' ⟨rfl, hb⟩
  go_wp2
  go_ret
  exact ⟨rfl, (below_alloc (Below.refl _ _) _).trans (hb.mono (by simp))⟩

theorem place_range (xs : List S46) (id : Int) : place xs id = -1 ∨ (0 ≤ place xs id ∧ place xs id < xs.length) := by
  unfold place
  split
  · rename_i k h
    have := (List.findIdx?_eq_some_iff_getElem.1 h).1
    omega
  · exact .inl rfl

theorem SetAt.below {base g : Nat} {w w1 : World} {size next : Int} {xs : List S46} (h : SetAt base w g size next xs) (hb : Below w.heap.size w w1) : SetAt base w1 g size next xs := by
  obtain ⟨hg, v, hblk, hrow⟩ := h
  exact ⟨hg, v, blk_below hblk hb, Kd.R_below hrow hb⟩
end Go.Proofs.Ytfcaodnfiakdoaa.Mk
