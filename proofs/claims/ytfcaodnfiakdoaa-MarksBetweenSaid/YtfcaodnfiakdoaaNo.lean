/- An Insert or a Delete at the program's and the document's marks, where rows of marks at N or above are left as they are; no condition beside the sizes that are written. (Printed by gen_no.py out of the text Mu.) -/
import Derived.Test.YtfcaodnfiakdoaaMv
import Derived.Test.YtfcaodnfiakdoaaNm
namespace Go.Proofs.Ytfcaodnfiakdoaa.Mk
open Go.RowKit Go.Proofs.YtfcaodnfiakdoaaW.PrintWords Go.Proofs.YtfcaodnfiakdoaaW.PrintLast Go.Proofs.YtfcaodnfiakdoaaW.PrintMore Go.Proofs.Ytfcaodnfiakdoaa.PMarksPlay
set_option linter.unusedVariables false
set_option linter.unusedSimpArgs false

/-- The set at g holds s; its block and its row's lie below N. -/
def AtN (N : Nat) (w0 w : World) (g : Nat) (s : St) : Prop := SetIn N w0.heap.size w g s.size s.next s.xs
theorem AtN.at {N : Nat} {w0 w : World} {g : Nat} {s : St} (h : AtN N w0 w g s) : At w0 w g s := SetIn.at_ h
theorem AtN.below {N : Nat} {w0 w W : World} {g : Nat} {s : St} (h : AtN N w0 w g s) (hb : Below w.heap.size w W) : AtN N w0 W g s := SetIn.below h hb
theorem AtN.set {N : Nat} {w0 w : World} {g : Nat} {s : St} (h : AtN N w0 w g s) {k j t : Nat} {c : Array Value} (hb : w.heap[k]? = some (.cells c t (0, 0))) (h1 : t ≠ 46) (h2 : t ≠ 61) (u : Value) : AtN N w0 (w.setCell ⟨k, j, none⟩ u) g s := by
  obtain ⟨hg, hN, v, hblk, hrow⟩ := h
  refine ⟨hg, hN, v, blk_far (p := ⟨k, j, none⟩) hblk (blk_ne hblk hb (fun e => h2 e.symm)) _, ?_⟩
  exact Kd.R_set hrow hb (fun q hq => by
    have : q = 46 := by simpa [k46, Kd.iso, Kd.pair, Kd.int, Kd.bool, Kd.scalar] using hq
    subst this; exact fun e => h1 e.symm) j u
theorem RKept.atN {N : Nat} {w0 w w' : World} {g : Nat} {s : St} (h : RKept w w') (hS : AtN N w0 w g s) : AtN N w0 w' g s := by
  obtain ⟨hg, hN, u, hblk, hrow⟩ := hS
  refine ⟨hg, hN, u, blk_kept hblk h (fun ⟨c, hc⟩ => ?_), ?_⟩
  · rw [hblk] at hc; injection hc with hc; injection hc with _ hc; exact absurd hc (by decide)
  · refine Kd.R_mono (Kd.R_kept (Kd.R_bound hrow) h (fun k hk hs => ?_)) (fun k hk => hk.1)
    obtain ⟨_, _, _, q, hq, c, hc⟩ := hk
    obtain ⟨c2, hc2⟩ := hs
    have : q = 46 := by simpa [k46, Kd.iso, Kd.pair, Kd.int, Kd.bool, Kd.scalar] using hq
    subst this
    rw [hc] at hc2; injection hc2 with hc2; injection hc2 with _ hc2; exact absurd hc2 (by decide)

/-- No block of marks at N or above has been written. -/
def WKept (N : Nat) (w w' : World) : Prop := ∀ k, N ≤ k → TyIn w 46 k → w'.heap[k]? = w.heap[k]?
theorem TyIn.lt {w : World} {t k : Nat} (h : TyIn w t k) : k < w.heap.size := by obtain ⟨c, hc⟩ := h; exact blk_lt hc
theorem WKept.refl (N : Nat) (w : World) : WKept N w w := fun _ _ _ => rfl
theorem WKept.trans {N : Nat} {w W W2 : World} (h : WKept N w W) (h2 : WKept N W W2) : WKept N w W2 := fun k hk ht => by
  have e := h k hk ht
  obtain ⟨c, hc⟩ := ht
  exact (h2 k hk ⟨c, e.trans hc⟩).trans e
theorem WKept.of_below {N : Nat} {w W : World} (h : Below w.heap.size w W) : WKept N w W := fun k _ ht => h.block k ht.lt
theorem WKept.below {N : Nat} {w W W2 : World} (h : WKept N w W) (hb : Below W.heap.size W W2) : WKept N w W2 := h.trans (WKept.of_below hb)
theorem WKept.r {N : Nat} {w W W2 : World} (h : WKept N w W) (h2 : RKept W W2) : WKept N w W2 := h.trans (fun k _ ht => h2.2 k ht.lt (fun hs => by
  obtain ⟨c, hc⟩ := ht
  obtain ⟨c2, hc2⟩ := hs
  rw [hc] at hc2; injection hc2 with hc2; injection hc2 with _ hc2; exact absurd hc2 (by decide)))
theorem WKept.p {N : Nat} {w W W2 : World} (h : WKept N w W) (h2 : PKept N W W2) : WKept N w W2 := h.trans (fun k hk ht => h2 k hk ht.lt)
theorem WKept.set {N : Nat} {w W : World} (h : WKept N w W) {k j : Nat} {c : Array Value} (hb : W.heap[k]? = some (.cells c 38 (0, 0))) (u : Value) : WKept N w (W.setCell ⟨k, j, none⟩ u) := h.trans (fun q _ ht => Below.heap_setCell W ⟨k, j, none⟩ u q (fun e => by
  obtain ⟨c2, hc2⟩ := ht
  have e' : q = k := e
  subst e'
  rw [hb] at hc2; injection hc2 with hc2; injection hc2 with _ hc2; exact absurd hc2 (by decide)))
theorem WKept.row {N : Nat} {w w' : World} {v : Value} {xs : List S46} (h : WKept N w w') (hr : Kd.R k46 46 w N (fun _ => True) v xs) : Kd.R k46 46 w' N (fun _ => True) v xs :=
  Kd.R_mono (Kd.R_step (Kd.R_bound hr) (fun k hk _ => by
    obtain ⟨_, h1, _, q, hq, c, hc⟩ := hk
    have : q = 46 := by simpa [k46, Kd.iso, Kd.pair, Kd.int, Kd.bool, Kd.scalar] using hq
    subst this
    exact h k h1 ⟨c, hc⟩)) (fun _ _ => trivial)

theorem fin38N {N : Nat} {wA w0 w : World} {g k : Nat} {s : St} {v : Value} {c : Array Value} (hW : WKept N wA w) (hS : AtN N w0 w g s) (hR : RAt w0 w v s) (hB : Below w0.heap.size w0 w) (hk : w.heap[k]? = some (.cells c 38 (0, 0))) (hz : w0.heap.size ≤ k) (x y z : Value) :
    AtN N w0 (((w.setCell ⟨k, 0, none⟩ x).setCell ⟨k, 1, none⟩ y).setCell ⟨k, 2, none⟩ z) g s ∧ RAt w0 (((w.setCell ⟨k, 0, none⟩ x).setCell ⟨k, 1, none⟩ y).setCell ⟨k, 2, none⟩ z) v s ∧ Below w0.heap.size w0 (((w.setCell ⟨k, 0, none⟩ x).setCell ⟨k, 1, none⟩ y).setCell ⟨k, 2, none⟩ z) ∧ WKept N wA (((w.setCell ⟨k, 0, none⟩ x).setCell ⟨k, 1, none⟩ y).setCell ⟨k, 2, none⟩ z) := by
  have h1 := blk_set hk 0 x
  have h2 := blk_set h1 1 y
  exact ⟨((hS.set hk (by decide) (by decide) x).set h1 (by decide) (by decide) y).set h2 (by decide) (by decide) z, ((hR.set hk (by decide) x).set h1 (by decide) y).set h2 (by decide) z, below_set (below_set (below_set hB hz) hz) hz, ((hW.set hk x).set h1 y).set h2 z⟩

section
variable {N B : Int} {w0 w : World} {g : Nat} {s : St}
theorem M_insN (N : Nat) (a n : Int) (hB : Below w0.heap.size w0 w) (hS : AtN N w0 w g s) (hG : Good B s) :
    Calls Try.prog 19 #[.pointer (some ⟨g, 0, none⟩), .int .i64 a, .int .i64 n] w fun e w' => e = .returned (.int .i64 (ins s a n).2) ∧ AtN N w0 w' g (ins s a n).1 ∧ Below w0.heap.size w0 w' ∧ MKept w w' ∧ PKept N w w' := by
  have hl := hG.len
  unfold ins
  by_cases h1 : a < 0 ∨ s.size < a
  · rw [if_pos h1]
    refine (Insert_where _ g w _ _ a n _ hS.at h1).mono ?_
    rintro e w' ⟨rfl, rfl⟩
    exact ⟨rfl, hS, hB, MKept.refl _, PKept.refl _ _⟩
  · rw [if_neg h1]
    by_cases h2 : n < 0
    · rw [if_pos h2]
      refine (Insert_neg _ g w _ _ a n _ hS.at (by omega) (by omega) h2).mono ?_
      rintro e w' ⟨rfl, rfl⟩
      exact ⟨rfl, hS, hB, MKept.refl _, PKept.refl _ _⟩
    · rw [if_neg h2]
      by_cases h3 : 65536 - s.size < n
      · rw [if_pos h3]
        refine (Insert_size _ g w _ _ a n _ hS.at (by omega) (by omega) hG.s1 (by omega) h3).mono ?_
        rintro e w' ⟨rfl, rfl⟩
        exact ⟨rfl, hS, hB, MKept.refl _, PKept.refl _ _⟩
      · rw [if_neg h3]
        refine (Insert_yesN N w0 w g _ _ a n _ hB hS (by omega) hG.fine (by omega) (by omega) hG.s1 (by omega) (by omega)).mono ?_
        rintro e w' ⟨rfl, h3, h4, h5⟩
        exact ⟨rfl, h3, h4, h5.1, h5.2⟩
theorem M_delN (N : Nat) (a b : Int) (hB : Below w0.heap.size w0 w) (hS : AtN N w0 w g s) (hG : Good B s) :
    Calls Try.prog 20 #[.pointer (some ⟨g, 0, none⟩), .int .i64 a, .int .i64 b] w fun e w' => e = .returned (.int .i64 (del s a b).2) ∧ AtN N w0 w' g (del s a b).1 ∧ Below w0.heap.size w0 w' ∧ MKept w w' ∧ PKept N w w' := by
  have hl := hG.len
  unfold del
  by_cases h1 : a < 0 ∨ s.size < b ∨ b < a
  · rw [if_pos h1]
    refine (Delete_no _ g w _ _ a b _ hS.at h1).mono ?_
    rintro e w' ⟨rfl, rfl⟩
    exact ⟨rfl, hS, hB, MKept.refl _, PKept.refl _ _⟩
  · rw [if_neg h1]
    refine (Delete_yesN N w0 w g _ _ a b _ hB hS (by omega) hG.fine (by omega) (by omega) (by omega) hG.s1).mono ?_
    rintro e w' ⟨rfl, h3, h4, h5⟩
    exact ⟨rfl, h3, h4, h5.1, h5.2⟩
end

set_option maxHeartbeats 4000000 in
set_option maxRecDepth 100000 in
theorem step1N (N : Nat) (w0 w : World) (g : Nat) (s : St) (B : Int) (v : Value) (a b : Int) (st : Bool) (hB : Below w0.heap.size w0 w) (hS : AtN N w0 w g s) (hR : RAt w0 w v s) (hG : Good B s) (hb : B ≤ 900000) :
    Calls Try.prog 16 #[.pointer (some ⟨g, 0, none⟩), .agg #[.int .i64 s.size, .int .i64 s.next, v], .agg #[.int .i64 1, .int .i64 a, .int .i64 b, .bool st]] w fun e w' => ∃ v', e = .returned (.tuple #[.agg #[.int .i64 (ins s a b).1.size, .int .i64 (ins s a b).1.next, v'], .bool true]) ∧ AtN N w0 w' g (ins s a b).1 ∧ RAt w0 w' v' (ins s a b).1 ∧ Below w0.heap.size w0 w' ∧ WKept N w w' := by
  obtain ⟨A, n, c, rfl⟩ := hR.form
  have HB := Aside0.mk hB
  have HS := Aside0.mk hS
  have HR := Aside0.mk hR
  have hz0 := hB.size
  clear hB hS hR
  go_enter Try.func16, Try.ntmps16
  go_wp2_with fail
  obtain ⟨W2, hW2⟩ : ∃ W2, W2 = (((w.alloc (.cells #[.int .i64 s.size, .int .i64 s.next, .slice A n c] 38)).alloc (.cells #[.int .i64 1, .int .i64 a, .int .i64 b, .bool st] 34)).alloc (.cells #[.int .i64 0, .int .i64 0, .slice none 0 0] 38)) := ⟨_, rfl⟩
  rw [← hW2]
  have hBW : Below w.heap.size w W2 := by rw [hW2]; exact below_alloc (below_alloc (below_alloc (Below.refl _ _) _) _) _
  have HK4 := Aside0.mk (show W2.heap[w.heap.size + 1]? = some (.cells #[.int .i64 1, .int .i64 a, .int .i64 b, .bool st] 34 (0, 0)) by rw [hW2]; exact blk_alloc (by simpa using heap_alloc_new (w.alloc _) _) _)
  have HK6 := Aside0.mk (show W2.heap[w.heap.size + 1 + 1]? = some (.cells #[.int .i64 0, .int .i64 0, .slice none 0 0] 38 (0, 0)) by rw [hW2]; simpa using heap_alloc_new ((w.alloc _).alloc _) _)
  clear hW2
  refine (R_ins (w0 := w0) a b (HB.out.trans (hBW.mono hz0)) (HR.out.below hBW) hG).mono ?_
  rintro e w1 ⟨v', rfl, hR1, hB1, hK1⟩
  have hS1 := hK1.atN (HS.out.below hBW)
  have HA1 := Aside0.mk (show WKept N w w1 from ((WKept.refl N w).below hBW).r hK1)
  have hk4 := hK1.blk HK4.out (by decide)
  have hk6 := hK1.blk HK6.out (by decide)
  obtain ⟨A1, n1, c1, rfl⟩ := hR1.form
  have s1 : w1.cell? ⟨w.heap.size + 1, 1, none⟩ = some (.int .i64 a) := (blk_cell hk4 1).trans rfl
  have s2 : w1.cell? ⟨w.heap.size + 1, 2, none⟩ = some (.int .i64 b) := (blk_cell hk4 2).trans rfl
  have s3 : w1.cell? ⟨w.heap.size + 1, 3, none⟩ = some (.bool st) := (blk_cell hk4 3).trans rfl
  have hz4 : w.heap.size + 1 < w1.heap.size := blk_lt hk4
  have HS1 := Aside0.mk hS1
  have HR1 := Aside0.mk hR1
  have HB1 := Aside0.mk hB1
  have HK61 := Aside0.mk hk6
  clear hk4 hk6 hS1 hR1 hB1 hK1 hBW
  generalize hp : ins s a b = p at *
  have HP := Aside0.mk hp
  clear hp
  go_wp2_with fail
  have hw1 : Below w1.heap.size w1 (w1.alloc (.cells #[.int .i64 p.1.size, .int .i64 p.1.next, .slice A1 n1 c1] 38)).drew := Below.drew (below_alloc (Below.refl _ _) _)
  go_region_with (refine (M_insN (w0 := w0) N a b (HB1.out.trans (hw1.mono HB1.out.size)) (HS1.out.below hw1) hG).mono ?_; rintro e w2 ⟨rfl, hS2, hB2, hK2, hP2⟩; rw [HP.out] at hS2 ⊢; have HR2 := Aside0.mk (hK2.row (HR1.out.below hw1)); have HA2 := Aside0.mk (show WKept N w w2 from (HA1.out.below hw1).p hP2); have hk8 := hK2.blk (show (w1.alloc (.cells #[.int .i64 p.1.size, .int .i64 p.1.next, .slice A1 n1 c1] 38)).heap[w1.heap.size]? = _ by simpa using heap_alloc_new w1 _) (by decide) (by decide); have hk6 := hK2.blk (blk_alloc HK61.out _) (by decide) (by decide); have r0 : w2.cell? ⟨w1.heap.size, 0, none⟩ = some (.int .i64 p.1.size) := (blk_cell hk8 0).trans rfl; have r1 : w2.cell? ⟨w1.heap.size, 1, none⟩ = some (.int .i64 p.1.next) := (blk_cell hk8 1).trans rfl; have r2 : w2.cell? ⟨w1.heap.size, 2, none⟩ = some (.slice A1 n1 c1) := (blk_cell hk8 2).trans rfl; have t0 : w2.cell? ⟨w.heap.size + 1 + 1, 0, none⟩ = some (.int .i64 0) := (blk_cell hk6 0).trans rfl; have t1 : w2.cell? ⟨w.heap.size + 1 + 1, 1, none⟩ = some (.int .i64 0) := (blk_cell hk6 1).trans rfl; have t2 : w2.cell? ⟨w.heap.size + 1 + 1, 2, none⟩ = some (.slice none 0 0) := (blk_cell hk6 2).trans rfl; have g0 := blk_frozen hk6 0; have g1 := blk_frozen hk6 1; have g2 := blk_frozen hk6 2; have HS2 := Aside0.mk hS2; have HB2 := Aside0.mk hB2; have HK62 := Aside0.mk hk6; clear hk8 hk6 hS2 hB2 hK2 hP2)
  all_goals
    go_wp2
    have hfin := fin38N HA2.out HS2.out HR2.out HB2.out HK62.out (by omega) (.int .i64 p.1.size) (.int .i64 p.1.next) (.slice A1 n1 c1)
    refine bodyPost_ret (results_ct rfl _ _ (w.heap.size + 1 + 1) 38 #[.int .i64 p.1.size, .int .i64 p.1.next, .slice A1 n1 c1] (0, 0) _ rfl (by refine blk_put (cs := #[.int .i64 p.1.size, .int .i64 p.1.next, .slice none 0 0]) ?_ 2 _ rfl; refine blk_put (cs := #[.int .i64 p.1.size, .int .i64 0, .slice none 0 0]) ?_ 1 _ rfl; refine blk_put (cs := #[.int .i64 0, .int .i64 0, .slice none 0 0]) ?_ 0 _ rfl; exact HK62.out) Try.underlying38 rfl (by kernel_rfl)) rfl ?_
    rw [HP.out]
    exact ⟨_, rfl, hfin.1, hfin.2.1, hfin.2.2.1, hfin.2.2.2⟩

set_option maxHeartbeats 4000000 in
set_option maxRecDepth 100000 in
theorem step2N (N : Nat) (w0 w : World) (g : Nat) (s : St) (B : Int) (v : Value) (a b : Int) (st : Bool) (hB : Below w0.heap.size w0 w) (hS : AtN N w0 w g s) (hR : RAt w0 w v s) (hG : Good B s) (hb : B ≤ 900000) :
    Calls Try.prog 16 #[.pointer (some ⟨g, 0, none⟩), .agg #[.int .i64 s.size, .int .i64 s.next, v], .agg #[.int .i64 2, .int .i64 a, .int .i64 b, .bool st]] w fun e w' => ∃ v', e = .returned (.tuple #[.agg #[.int .i64 (del s a b).1.size, .int .i64 (del s a b).1.next, v'], .bool true]) ∧ AtN N w0 w' g (del s a b).1 ∧ RAt w0 w' v' (del s a b).1 ∧ Below w0.heap.size w0 w' ∧ WKept N w w' := by
  obtain ⟨A, n, c, rfl⟩ := hR.form
  have HB := Aside0.mk hB
  have HS := Aside0.mk hS
  have HR := Aside0.mk hR
  have hz0 := hB.size
  clear hB hS hR
  go_enter Try.func16, Try.ntmps16
  go_wp2_with fail
  obtain ⟨W2, hW2⟩ : ∃ W2, W2 = (((w.alloc (.cells #[.int .i64 s.size, .int .i64 s.next, .slice A n c] 38)).alloc (.cells #[.int .i64 2, .int .i64 a, .int .i64 b, .bool st] 34)).alloc (.cells #[.int .i64 0, .int .i64 0, .slice none 0 0] 38)) := ⟨_, rfl⟩
  rw [← hW2]
  have hBW : Below w.heap.size w W2 := by rw [hW2]; exact below_alloc (below_alloc (below_alloc (Below.refl _ _) _) _) _
  have HK4 := Aside0.mk (show W2.heap[w.heap.size + 1]? = some (.cells #[.int .i64 2, .int .i64 a, .int .i64 b, .bool st] 34 (0, 0)) by rw [hW2]; exact blk_alloc (by simpa using heap_alloc_new (w.alloc _) _) _)
  have HK6 := Aside0.mk (show W2.heap[w.heap.size + 1 + 1]? = some (.cells #[.int .i64 0, .int .i64 0, .slice none 0 0] 38 (0, 0)) by rw [hW2]; simpa using heap_alloc_new ((w.alloc _).alloc _) _)
  clear hW2
  refine (R_del (w0 := w0) a b (HB.out.trans (hBW.mono hz0)) (HR.out.below hBW) hG).mono ?_
  rintro e w1 ⟨v', rfl, hR1, hB1, hK1⟩
  have hS1 := hK1.atN (HS.out.below hBW)
  have HA1 := Aside0.mk (show WKept N w w1 from ((WKept.refl N w).below hBW).r hK1)
  have hk4 := hK1.blk HK4.out (by decide)
  have hk6 := hK1.blk HK6.out (by decide)
  obtain ⟨A1, n1, c1, rfl⟩ := hR1.form
  have s1 : w1.cell? ⟨w.heap.size + 1, 1, none⟩ = some (.int .i64 a) := (blk_cell hk4 1).trans rfl
  have s2 : w1.cell? ⟨w.heap.size + 1, 2, none⟩ = some (.int .i64 b) := (blk_cell hk4 2).trans rfl
  have s3 : w1.cell? ⟨w.heap.size + 1, 3, none⟩ = some (.bool st) := (blk_cell hk4 3).trans rfl
  have hz4 : w.heap.size + 1 < w1.heap.size := blk_lt hk4
  have HS1 := Aside0.mk hS1
  have HR1 := Aside0.mk hR1
  have HB1 := Aside0.mk hB1
  have HK61 := Aside0.mk hk6
  clear hk4 hk6 hS1 hR1 hB1 hK1 hBW
  generalize hp : del s a b = p at *
  have HP := Aside0.mk hp
  clear hp
  go_wp2_with fail
  have hw1 : Below w1.heap.size w1 (w1.alloc (.cells #[.int .i64 p.1.size, .int .i64 p.1.next, .slice A1 n1 c1] 38)).drew := Below.drew (below_alloc (Below.refl _ _) _)
  go_region_with (refine (M_delN (w0 := w0) N a b (HB1.out.trans (hw1.mono HB1.out.size)) (HS1.out.below hw1) hG).mono ?_; rintro e w2 ⟨rfl, hS2, hB2, hK2, hP2⟩; rw [HP.out] at hS2 ⊢; have HR2 := Aside0.mk (hK2.row (HR1.out.below hw1)); have HA2 := Aside0.mk (show WKept N w w2 from (HA1.out.below hw1).p hP2); have hk8 := hK2.blk (show (w1.alloc (.cells #[.int .i64 p.1.size, .int .i64 p.1.next, .slice A1 n1 c1] 38)).heap[w1.heap.size]? = _ by simpa using heap_alloc_new w1 _) (by decide) (by decide); have hk6 := hK2.blk (blk_alloc HK61.out _) (by decide) (by decide); have r0 : w2.cell? ⟨w1.heap.size, 0, none⟩ = some (.int .i64 p.1.size) := (blk_cell hk8 0).trans rfl; have r1 : w2.cell? ⟨w1.heap.size, 1, none⟩ = some (.int .i64 p.1.next) := (blk_cell hk8 1).trans rfl; have r2 : w2.cell? ⟨w1.heap.size, 2, none⟩ = some (.slice A1 n1 c1) := (blk_cell hk8 2).trans rfl; have t0 : w2.cell? ⟨w.heap.size + 1 + 1, 0, none⟩ = some (.int .i64 0) := (blk_cell hk6 0).trans rfl; have t1 : w2.cell? ⟨w.heap.size + 1 + 1, 1, none⟩ = some (.int .i64 0) := (blk_cell hk6 1).trans rfl; have t2 : w2.cell? ⟨w.heap.size + 1 + 1, 2, none⟩ = some (.slice none 0 0) := (blk_cell hk6 2).trans rfl; have g0 := blk_frozen hk6 0; have g1 := blk_frozen hk6 1; have g2 := blk_frozen hk6 2; have HS2 := Aside0.mk hS2; have HB2 := Aside0.mk hB2; have HK62 := Aside0.mk hk6; clear hk8 hk6 hS2 hB2 hK2 hP2)
  all_goals
    go_wp2
    have hfin := fin38N HA2.out HS2.out HR2.out HB2.out HK62.out (by omega) (.int .i64 p.1.size) (.int .i64 p.1.next) (.slice A1 n1 c1)
    refine bodyPost_ret (results_ct rfl _ _ (w.heap.size + 1 + 1) 38 #[.int .i64 p.1.size, .int .i64 p.1.next, .slice A1 n1 c1] (0, 0) _ rfl (by refine blk_put (cs := #[.int .i64 p.1.size, .int .i64 p.1.next, .slice none 0 0]) ?_ 2 _ rfl; refine blk_put (cs := #[.int .i64 p.1.size, .int .i64 0, .slice none 0 0]) ?_ 1 _ rfl; refine blk_put (cs := #[.int .i64 0, .int .i64 0, .slice none 0 0]) ?_ 0 _ rfl; exact HK62.out) Try.underlying38 rfl (by kernel_rfl)) rfl ?_
    rw [HP.out]
    exact ⟨_, rfl, hfin.1, hfin.2.1, hfin.2.2.1, hfin.2.2.2⟩

end Go.Proofs.Ytfcaodnfiakdoaa.Mk
