/- What Put refuses, and what Drop and Move do to a set of marks; no condition beside the sizes that are written. -/
import Derived.Test.YtfcaodnfiakdoaaMe
namespace Go.Proofs.Ytfcaodnfiakdoaa.Mk
open Go.RowKit Go.Proofs.YtfcaodnfiakdoaaW.PrintWords Go.Proofs.YtfcaodnfiakdoaaW.PrintLast Go.Proofs.YtfcaodnfiakdoaaW.PrintMore Go.Proofs.Ytfcaodnfiakdoaa.PMarksPlay
set_option linter.unusedVariables false
set_option linter.unusedSimpArgs false

/-- A mark's place is written in a row of the call's own. -/
theorem R46_put {w : World} {base b c k : Nat} {ok : Nat → Prop} {xs : List S46} (h : Kd.R k46 46 w base ok (.slice (some ⟨b, 0, none⟩) xs.length c) xs) (hk : k < xs.length) (a : Int) :
    Kd.R k46 46 (w.setCell ⟨b, k * 3 + 1, none⟩ (.int .i64 a)) base ok (.slice (some ⟨b, 0, none⟩) xs.length c) (xs.set k ⟨(rd_T46 xs k).f0, a, (rd_T46 xs k).f2⟩) := by
  obtain ⟨h0, inner, ⟨hl, ho⟩, hr⟩ := h
  have hl' : inner.length = xs.length * 3 := hl
  rcases ho with ⟨e1, _⟩ | ⟨g', cap, cur, e1, hg, hb, h1, h2, h3, h4⟩
  · cases e1
  · cases e1
    have h4' : cur.toList.take (xs.length * 3) = inner := h4
    refine ⟨h0, inner.set (k * 3 + 1) (.int .i64 a), ⟨by simp only [List.length_set]; exact hl, .inr ⟨b, c, cur.setIfInBounds (k * 3 + 1) (.int .i64 a), by simp, hg, blk_set hb _ _, by simpa using h1, h2, by simpa using h3, ?_⟩⟩, ?_⟩
    · rw [List.length_set, ← h4]
      apply List.ext_getElem?
      intro i
      simp only [List.getElem?_take, Array.toList_setIfInBounds, List.getElem?_set, List.length_take]
      have e3 : xs.length * k46.sz = xs.length * 3 := rfl
      rw [e3]
      by_cases hi : i < xs.length * 3
      · have hc3 : xs.length * 3 ≤ cur.toList.length := by rw [← hl', ← h4', List.length_take]; omega
        simp only [if_pos hi]
        by_cases he : k * 3 + 1 = i
        · simp only [if_pos he]
          rw [if_pos (by omega), if_pos (by omega)]
        · simp only [if_neg he]
      · simp only [if_neg hi]
        rw [if_neg (by omega)]
    · refine ⟨by simp only [List.length_set]; exact hl, fun j p hj => ?_⟩
      show k46.M _ _ _ p (((inner.set (k * 3 + 1) (.int .i64 a)).drop (j * 3)).take 3)
      by_cases hjk : j = k
      · subst hjk
        rw [List.getElem?_set_self hk] at hj
        obtain rfl := Option.some.inj hj
        have hold := hr.2 j _ (List.getElem?_eq_getElem hk)
        have hold' := k46_openM hold
        have e : ((inner.drop (j * 3)).take 3) = [.int .i64 (rd_T46 xs j).f0, .int .i64 (rd_T46 xs j).f1, .bool (rd_T46 xs j).f2] := by
          have e2 : xs[j] = rd_T46 xs j := by simp [rd_T46, hk]
          rw [← e2]; exact hold'
        have e2 : ((inner.set (j * 3 + 1) (.int .i64 a)).drop (j * 3)).take 3 = ((inner.drop (j * 3)).take 3).set 1 (.int .i64 a) := by
          apply List.ext_getElem?
          intro i
          simp only [List.getElem?_take, List.getElem?_drop, List.getElem?_set, List.length_take, List.length_drop]
          by_cases hi : i < 3
          · simp only [if_pos hi]
            by_cases h1i : 1 = i
            · subst h1i
              simp
              split <;> split <;> first | rfl | omega
            · rw [if_neg (by omega), if_neg h1i]
          · simp only [if_neg hi]
            rw [if_neg (by omega)]
        rw [e2, e]
        exact k46_mkM _ _ _ ⟨(rd_T46 xs j).f0, a, (rd_T46 xs j).f2⟩
      · rw [List.getElem?_set_ne (by omega)] at hj
        have hold := hr.2 j p hj
        have e2 : ((inner.set (k * 3 + 1) (.int .i64 a)).drop (j * 3)).take 3 = (inner.drop (j * 3)).take 3 := by
          apply List.ext_getElem?
          intro i
          simp only [List.getElem?_take, List.getElem?_drop, List.getElem?_set]
          by_cases hi : i < 3
          · simp only [if_pos hi]
            rw [if_neg (by omega)]
          · simp only [if_neg hi]
        rw [e2]
        obtain hq := k46_openM hold
        rw [show (List.take 3 (List.drop (j * 3) inner)) = _ from hq]
        exact k46_mkM _ _ _ _

set_option maxHeartbeats 1000000 in
set_option maxRecDepth 100000 in
theorem Put_where (base g : Nat) (w : World) (size next at_ : Int) (stays : Bool) (xs : List S46) (hS : SetAt base w g size next xs) (h : at_ < 0 ∨ size < at_) :
    Calls Try.prog 10 #[.pointer (some ⟨g, 0, none⟩), .int .i64 at_, .bool stays] w fun e w' => e = .returned (.tuple #[.int .i64 0, .int .i64 30]) ∧ w = w' := by
  obtain ⟨A, c, hblk, hrow, hc, hC, hg, hlt, c0, c1, c2, f0, f1, f2⟩ := hS.open'
  by_cases h0 : at_ < 0
  · clear h
    go_enter Try.func10, Try.ntmps10
    go_wp2
    go_ret2
    exact ⟨rfl, rfl⟩
  · have h1 : size < at_ := by omega
    clear h
    go_enter Try.func10, Try.ntmps10
    go_wp2
    go_ret2
    exact ⟨rfl, rfl⟩

set_option maxHeartbeats 1000000 in
set_option maxRecDepth 100000 in
theorem Put_long (base g : Nat) (w : World) (size next at_ : Int) (stays : Bool) (xs : List S46) (hS : SetAt base w g size next xs) (h0 : 0 ≤ at_) (h1 : at_ ≤ size) (hl : 1024 ≤ xs.length) :
    Calls Try.prog 10 #[.pointer (some ⟨g, 0, none⟩), .int .i64 at_, .bool stays] w fun e w' => e = .returned (.tuple #[.int .i64 0, .int .i64 2]) ∧ w = w' := by
  obtain ⟨A, c, hblk, hrow, hc, hC, hg, hlt, c0, c1, c2, f0, f1, f2⟩ := hS.open'
  have hl' : (1024 : Int) ≤ xs.length := by omega
  go_enter Try.func10, Try.ntmps10
  go_wp2
  go_ret2
  exact ⟨rfl, rfl⟩

set_option maxHeartbeats 1000000 in
set_option maxRecDepth 100000 in
theorem Drop_no (base g : Nat) (w : World) (size next id : Int) (xs : List S46) (hS : SetAt base w g size next xs) (hl : xs.length ≤ 1000000) (hp : place xs id = -1) :
    Calls Try.prog 12 #[.pointer (some ⟨g, 0, none⟩), .int .i64 id] w fun e w' => e = .returned (.int .i64 160) ∧ Below w.heap.size w w' := by
  have HP := Aside0.mk hp
  clear hp
  go_enter Try.func12, Try.ntmps12
  go_wp2_with fail
  refine (find_any _ _ g size next id xs hS hl).mono ?_
  rintro e w2 ⟨rfl, hb⟩
  rw [HP.out]
  go_wp2
  go_ret
  exact ⟨rfl, hb⟩

set_option maxHeartbeats 1000000 in
set_option maxRecDepth 100000 in
theorem Drop_yes (w0 w : World) (g : Nat) (size next id : Int) (k : Nat) (xs : List S46) (hB : Below w0.heap.size w0 w) (hS : SetAt w0.heap.size w g size next xs) (hl : xs.length ≤ 1000000) (hp : place xs id = k) (hk : k < xs.length) :
    Calls Try.prog 12 #[.pointer (some ⟨g, 0, none⟩), .int .i64 id] w fun e w' => e = .returned (.int .i64 0) ∧ SetAt w0.heap.size w' g size next (xs.eraseIdx k) ∧ Below w0.heap.size w0 w' ∧ MKept w w' := by
  have HP := Aside0.mk hp
  clear hp
  go_enter Try.func12, Try.ntmps12
  go_wp2_with fail
  refine (find_any _ _ g size next id xs hS hl).mono ?_
  rintro e w2 ⟨rfl, hb⟩
  rw [HP.out]
  obtain ⟨A, c, hsb, hrow, hc, hC, hg, hlt, s0, s1, s2, g0, g1, g2⟩ := (SetAt.below hS hb).open'
  obtain ⟨b, cap, hv, hbb, hbl, cells, hty⟩ := Kd.R_form hrow (by omega)
  injection hv with hv1 hv2 hv3
  subst hv1 hv3
  have hgb : b ≠ g := fun e => hrow.1 b rfl e
  have HB2 := Aside0.mk (show Below w0.heap.size w0 w2 from hB.trans (hb.mono hB.size))
  have HK2 := Aside0.mk (show MKept w w2 from (MKept.refl w).below hb)
  have HROW := Aside0.mk hrow
  have HTY := Aside0.mk hty
  have HSB := Aside0.mk hsb
  clear hb hC hrow hty hsb
  go_wp2_with fail
  refine (delete_one w0 _ b c k _ xs HB2.out HROW.out hk hl).mono ?_
  rintro e w3 ⟨rfl, hR3, hB3, hK3⟩
  have hsb3 : w3.heap[g]? = some (.cells #[.int .i64 size, .int .i64 next, .slice (some ⟨b, 0, none⟩) xs.length c] 61 (0, 0)) := blk_kept HSB.out hK3 (fun e => hgb e.symm)
  have t2 : w3.cell? ⟨g, 2, none⟩ = some (.slice (some ⟨b, 0, none⟩) xs.length c) := (blk_cell hsb3 2).trans rfl
  have u2 := blk_frozen hsb3 2
  have HR3 := Aside0.mk hR3
  have HSB3 := Aside0.mk hsb3
  have hlen : (xs.eraseIdx k).length = xs.length - 1 := List.length_eraseIdx_of_lt hk
  have HLEN := Aside0.mk hlen
  clear hR3 hsb3 hlen
  go_wp2
  go_ret
  have hR4 : Kd.R k46 46 (w3.setCell ⟨g, 2, none⟩ (.slice (some ⟨b, 0, none⟩) (xs.length - 1) c)) w0.heap.size (fun k => k ≠ g) (.slice (some ⟨b, 0, none⟩) (xs.length - 1) c) (xs.eraseIdx k) := Kd.R_far (p := ⟨g, 2, none⟩) HR3.out (fun _ h => h) _
  refine ⟨rfl, ⟨hg, _, blk_put HSB3.out 2 _ rfl, hR4⟩, below_set hB3 hg, ?_⟩
  exact MKept.set (MKept.trans HK2.out (Kept.mono hK3 (fun q hq => by subst hq; exact .inl ⟨_, HTY.out⟩))) (.inr ⟨_, HSB3.out⟩) _

theorem addr_add (b o i : Nat) : (⟨b, o, none⟩ : Addr).add i = ⟨b, o + i, none⟩ := by unfold Addr.add; split <;> simp_all

/-- A mark at another place. -/
def moved (m : S46) (a : Int) : S46 := ⟨m.f0, a, m.f2⟩

set_option maxHeartbeats 1000000 in
set_option maxRecDepth 100000 in
theorem Move_no (base g : Nat) (w : World) (size next id at_ : Int) (xs : List S46) (hS : SetAt base w g size next xs) (hl : xs.length ≤ 1000000) (hp : place xs id = -1) :
    Calls Try.prog 33 #[.pointer (some ⟨g, 0, none⟩), .int .i64 id, .int .i64 at_] w fun e w' => e = .returned (.int .i64 160) ∧ Below w.heap.size w w' := by
  have HP := Aside0.mk hp
  clear hp
  go_enter Try.func33, Try.ntmps33
  go_wp2_with fail
  refine (find_any _ _ g size next id xs hS hl).mono ?_
  rintro e w2 ⟨rfl, hb⟩
  rw [HP.out]
  go_wp2
  go_ret
  exact ⟨rfl, hb⟩

set_option maxHeartbeats 1000000 in
set_option maxRecDepth 100000 in
theorem Move_where (base g : Nat) (w : World) (size next id at_ : Int) (k : Nat) (xs : List S46) (hS : SetAt base w g size next xs) (hl : xs.length ≤ 1000000) (hp : place xs id = k) (h : at_ < 0 ∨ size < at_) :
    Calls Try.prog 33 #[.pointer (some ⟨g, 0, none⟩), .int .i64 id, .int .i64 at_] w fun e w' => e = .returned (.int .i64 30) ∧ Below w.heap.size w w' := by
  have HP := Aside0.mk hp
  have HH := Aside0.mk h
  clear hp h
  go_enter Try.func33, Try.ntmps33
  go_wp2_with fail
  refine (find_any _ _ g size next id xs hS hl).mono ?_
  rintro e w2 ⟨rfl, hb⟩
  rw [HP.out]
  obtain ⟨A, c, hsb, hrow, hc, hC, hg, hlt, s0, s1, s2, g0, g1, g2⟩ := (SetAt.below hS hb).open'
  have HB := Aside0.mk hb
  clear hsb hrow hC hb
  by_cases h0 : at_ < 0
  · go_wp2
    go_ret
    exact ⟨rfl, HB.out⟩
  · have h1 : size < at_ := by have := HH.out; omega
    go_wp2
    go_ret
    exact ⟨rfl, HB.out⟩

set_option maxHeartbeats 1000000 in
set_option maxRecDepth 100000 in
theorem Move_yes (w0 w : World) (g : Nat) (size next id at_ : Int) (k : Nat) (xs : List S46) (hB : Below w0.heap.size w0 w) (hS : SetAt w0.heap.size w g size next xs) (hl : xs.length ≤ 1000000) (hp : place xs id = k) (hk : k < xs.length) (h0 : 0 ≤ at_) (h1 : at_ ≤ size) :
    Calls Try.prog 33 #[.pointer (some ⟨g, 0, none⟩), .int .i64 id, .int .i64 at_] w fun e w' => e = .returned (.int .i64 0) ∧ SetAt w0.heap.size w' g size next (xs.set k (moved (rd_T46 xs k) at_)) ∧ Below w0.heap.size w0 w' ∧ MKept w w' := by
  have HP := Aside0.mk hp
  clear hp
  go_enter Try.func33, Try.ntmps33
  go_wp2_with fail
  refine (find_any _ _ g size next id xs hS hl).mono ?_
  rintro e w2 ⟨rfl, hb⟩
  rw [HP.out]
  obtain ⟨A, c, hsb, hrow, hc, hC, hg, hlt, s0, s1, s2, g0, g1, g2⟩ := (SetAt.below hS hb).open'
  obtain ⟨b, cap, hv, hbb, hbl, cells, hty⟩ := Kd.R_form hrow (by omega)
  injection hv with hv1 hv2 hv3
  subst hv1 hv3
  clear hv2
  obtain ⟨ad, he, hx0, hx1, hx2⟩ := at_T46 hC (k : Int) (by omega) (by omega)
  injection he with he
  subst he
  rw [Int.toNat_natCast] at hx0 hx1 hx2
  have e1 : ((⟨b, 0, none⟩ : Addr).add (k * 3)) = ⟨b, k * 3, none⟩ := by rw [addr_add, Nat.zero_add]
  rw [e1] at hx0 hx1 hx2
  clear e1
  have hgb : b ≠ g := fun e => hrow.1 b rfl e
  have hfz : w2.frozen? ⟨b, k * 3 + 1, none⟩ = false := blk_frozen hty _
  have HB2 := Aside0.mk (show Below w0.heap.size w0 w2 from hB.trans (hb.mono hB.size))
  have HK2 := Aside0.mk (show MKept w w2 from (MKept.refl w).below hb)
  have HROW := Aside0.mk hrow
  have HTY := Aside0.mk hty
  have HSB := Aside0.mk hsb
  clear hb hC hrow hty hsb
  go_wp2
  go_ret
  have hR4 := R46_put HROW.out hk at_
  have e2 : (xs.set k (moved (rd_T46 xs k) at_)).length = xs.length := List.length_set
  have hblk : (w2.setCell ⟨b, k * 3 + 1, none⟩ (.int .i64 at_)).heap[g]? = some (.cells #[.int .i64 size, .int .i64 next, .slice (some ⟨b, 0, none⟩) xs.length c] 61 (0, 0)) := blk_far (p := ⟨b, k * 3 + 1, none⟩) HSB.out (fun e => hgb e.symm) _
  exact ⟨rfl, ⟨hg, _, hblk, hR4⟩, below_set HB2.out hbb, MKept.set HK2.out (.inl ⟨_, HTY.out⟩) _⟩

end Go.Proofs.Ytfcaodnfiakdoaa.Mk
