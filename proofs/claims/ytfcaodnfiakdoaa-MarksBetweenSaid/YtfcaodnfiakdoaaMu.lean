/- A call at both sets of marks: they answer alike; no condition beside the bounds that the calls keep. -/
import Derived.Test.YtfcaodnfiakdoaaMr
import Derived.Deep.RegionWith
namespace Go.Proofs.Ytfcaodnfiakdoaa.Mk
open Go.RowKit Go.Proofs.YtfcaodnfiakdoaaW.PrintWords Go.Proofs.YtfcaodnfiakdoaaW.PrintLast Go.Proofs.YtfcaodnfiakdoaaW.PrintMore Go.Proofs.Ytfcaodnfiakdoaa.PMarksPlay
set_option linter.unusedVariables false
set_option linter.unusedSimpArgs false

theorem RKept.blk {w w' : World} (h : RKept w w') {k t : Nat} {c : Array Value} (hb : w.heap[k]? = some (.cells c t (0, 0))) (ht : t ≠ 51) : w'.heap[k]? = some (.cells c t (0, 0)) :=
  blk_kept hb h (fun ⟨c2, hc⟩ => by rw [hb] at hc; injection hc with hc; injection hc with _ hc; exact ht hc)
theorem MKept.blk {w w' : World} (h : MKept w w') {k t : Nat} {c : Array Value} (hb : w.heap[k]? = some (.cells c t (0, 0))) (h1 : t ≠ 46) (h2 : t ≠ 61) : w'.heap[k]? = some (.cells c t (0, 0)) :=
  blk_kept hb h (fun hs => by
    rcases hs with ⟨c2, hc⟩ | ⟨c2, hc⟩
    · rw [hb] at hc; injection hc with hc; injection hc with _ hc; exact h1 hc
    · rw [hb] at hc; injection hc with hc; injection hc with _ hc; exact h2 hc)
theorem At.below {w0 w w1 : World} {g : Nat} {s : St} (h : At w0 w g s) (hb : Below w.heap.size w w1) : At w0 w1 g s := SetAt.below h hb
theorem RAt.below {w0 w w1 : World} {v : Value} {s : St} (h : RAt w0 w v s) (hb : Below w.heap.size w w1) : RAt w0 w1 v s := Kd.R_below h hb
theorem At.set {w0 w : World} {g : Nat} {s : St} (h : At w0 w g s) {k j t : Nat} {c : Array Value} (hb : w.heap[k]? = some (.cells c t (0, 0))) (h1 : t ≠ 46) (h2 : t ≠ 61) (u : Value) : At w0 (w.setCell ⟨k, j, none⟩ u) g s := by
  obtain ⟨hg, v, hblk, hrow⟩ := h
  refine ⟨hg, v, blk_far (p := ⟨k, j, none⟩) hblk (blk_ne hblk hb (fun e => h2 e.symm)) _, ?_⟩
  exact Kd.R_set hrow hb (fun q hq => by
    have : q = 46 := by simpa [k46, Kd.iso, Kd.pair, Kd.int, Kd.bool, Kd.scalar] using hq
    subst this; exact fun e => h1 e.symm) j u
theorem RAt.set {w0 w : World} {v : Value} {s : St} (h : RAt w0 w v s) {k j t : Nat} {c : Array Value} (hb : w.heap[k]? = some (.cells c t (0, 0))) (h1 : t ≠ 51) (u : Value) : RAt w0 (w.setCell ⟨k, j, none⟩ u) v s :=
  Kd.R_set h hb (fun q hq => by
    have : q = 51 := by simpa [k51, Kd.iso, Kd.pair, Kd.int, Kd.bool, Kd.scalar] using hq
    subst this; exact fun e => h1 e.symm) j u
theorem RAt.form {w0 w : World} {v : Value} {s : St} (h : RAt w0 w v s) : ∃ A n c, v = .slice A n c := by
  obtain ⟨A, c, e⟩ := Kd.R_slice h
  exact ⟨A, _, c, e⟩

/-- Nothing but blocks of marks, of the document's marks and of sets has been written. -/
def AKept (w w' : World) : Prop := Kept w w' (fun k => TyIn w 46 k ∨ TyIn w 61 k ∨ TyIn w 51 k)
theorem AKept.refl (w : World) : AKept w w := Kept.refl _ _
theorem AKept.back {w W : World} (h : AKept w W) {k t : Nat} (ht : t = 46 ∨ t = 61 ∨ t = 51) (hk : TyIn W t k) : (TyIn w 46 k ∨ TyIn w 61 k ∨ TyIn w 51 k) ∨ w.heap.size ≤ k := by
  by_cases hs : TyIn w 46 k ∨ TyIn w 61 k ∨ TyIn w 51 k
  · exact .inl hs
  · by_cases hlt : k < w.heap.size
    · have e := h.2 k hlt hs
      obtain ⟨c, hc⟩ := hk
      have h1 : TyIn w t k := ⟨c, e ▸ hc⟩
      rcases ht with rfl | rfl | rfl
      · exact .inl (.inl h1)
      · exact .inl (.inr (.inl h1))
      · exact .inl (.inr (.inr h1))
    · exact .inr (by omega)
theorem AKept.trans {w W W2 : World} (h : AKept w W) (h2 : AKept W W2) : AKept w W2 := Kept.then_ h h2 (fun k hk => by
  rcases hk with hk | hk | hk
  · exact h.back (.inl rfl) hk
  · exact h.back (.inr (.inl rfl)) hk
  · exact h.back (.inr (.inr rfl)) hk)
theorem AKept.below {w W W2 : World} (h : AKept w W) (hb : Below W.heap.size W W2) : AKept w W2 := Kept.below h hb
theorem AKept.r {w W W2 : World} (h : AKept w W) (h2 : RKept W W2) : AKept w W2 := Kept.then_ h h2 (fun k hk => h.back (.inr (.inr rfl)) hk)
theorem AKept.m {w W W2 : World} (h : AKept w W) (h2 : MKept W W2) : AKept w W2 := Kept.then_ h h2 (fun k hk => by
  rcases hk with hk | hk
  · exact h.back (.inl rfl) hk
  · exact h.back (.inr (.inl rfl)) hk)
theorem AKept.new {w W : World} (h : AKept w W) {k : Nat} (hk : w.heap.size ≤ k) (x y z : Value) : AKept w (((W.setCell ⟨k, 0, none⟩ x).setCell ⟨k, 1, none⟩ y).setCell ⟨k, 2, none⟩ z) :=
  Kept.setCell (Kept.setCell (Kept.setCell h (.inr hk) _) (.inr hk) _) (.inr hk) _
theorem AKept.blk {w w' : World} (h : AKept w w') {k t : Nat} {c : Array Value} (hb : w.heap[k]? = some (.cells c t (0, 0))) (h1 : t ≠ 46) (h2 : t ≠ 61) (h3 : t ≠ 51) : w'.heap[k]? = some (.cells c t (0, 0)) :=
  blk_kept hb h (fun hs => by
    rcases hs with ⟨c2, hc⟩ | ⟨c2, hc⟩ | ⟨c2, hc⟩
    · rw [hb] at hc; injection hc with hc; injection hc with _ hc; exact h1 hc
    · rw [hb] at hc; injection hc with hc; injection hc with _ hc; exact h2 hc
    · rw [hb] at hc; injection hc with hc; injection hc with _ hc; exact h3 hc)

/-- The three cells of a result are written: all else is as it was. -/
theorem fin38 {w0 w : World} {g k : Nat} {s : St} {v : Value} {c : Array Value} (hS : At w0 w g s) (hR : RAt w0 w v s) (hB : Below w0.heap.size w0 w) (hk : w.heap[k]? = some (.cells c 38 (0, 0))) (hz : w0.heap.size ≤ k) (x y z : Value) :
    At w0 (((w.setCell ⟨k, 0, none⟩ x).setCell ⟨k, 1, none⟩ y).setCell ⟨k, 2, none⟩ z) g s ∧ RAt w0 (((w.setCell ⟨k, 0, none⟩ x).setCell ⟨k, 1, none⟩ y).setCell ⟨k, 2, none⟩ z) v s ∧ Below w0.heap.size w0 (((w.setCell ⟨k, 0, none⟩ x).setCell ⟨k, 1, none⟩ y).setCell ⟨k, 2, none⟩ z) := by
  have h1 := blk_set hk 0 x
  have h2 := blk_set h1 1 y
  exact ⟨((hS.set hk (by decide) (by decide) x).set h1 (by decide) (by decide) y).set h2 (by decide) (by decide) z, ((hR.set hk (by decide) x).set h1 (by decide) y).set h2 (by decide) z, below_set (below_set (below_set hB hz) hz) hz⟩

set_option maxHeartbeats 4000000 in
set_option maxRecDepth 100000 in
theorem step0 (w0 w : World) (g : Nat) (s : St) (B : Int) (v : Value) (a b : Int) (st : Bool) (hB : Below w0.heap.size w0 w) (hS : At w0 w g s) (hR : RAt w0 w v s) (hG : Good B s) (hb : B ≤ 900000) :
    Calls Try.prog 16 #[.pointer (some ⟨g, 0, none⟩), .agg #[.int .i64 s.size, .int .i64 s.next, v], .agg #[.int .i64 0, .int .i64 a, .int .i64 b, .bool st]] w fun e w' => ∃ v', e = .returned (.tuple #[.agg #[.int .i64 (put s a st).1.size, .int .i64 (put s a st).1.next, v'], .bool true]) ∧ At w0 w' g (put s a st).1 ∧ RAt w0 w' v' (put s a st).1 ∧ Below w0.heap.size w0 w' ∧ AKept w w' := by
  obtain ⟨A, n, c, rfl⟩ := hR.form
  have HB := Aside0.mk hB
  have HS := Aside0.mk hS
  have HR := Aside0.mk hR
  have hz0 := hB.size
  clear hB hS hR
  go_enter Try.func16, Try.ntmps16
  go_wp2_with fail
  obtain ⟨W2, hW2⟩ : ∃ W2, W2 = (((w.alloc (.cells #[.int .i64 s.size, .int .i64 s.next, .slice A n c] 38)).alloc (.cells #[.int .i64 0, .int .i64 a, .int .i64 b, .bool st] 34)).alloc (.cells #[.int .i64 0, .int .i64 0, .slice none 0 0] 38)) := ⟨_, rfl⟩
  rw [← hW2]
  have hBW : Below w.heap.size w W2 := by rw [hW2]; exact below_alloc (below_alloc (below_alloc (Below.refl _ _) _) _) _
  have HK4 := Aside0.mk (show W2.heap[w.heap.size + 1]? = some (.cells #[.int .i64 0, .int .i64 a, .int .i64 b, .bool st] 34 (0, 0)) by rw [hW2]; exact blk_alloc (by simpa using heap_alloc_new (w.alloc _) _) _)
  have HK6 := Aside0.mk (show W2.heap[w.heap.size + 1 + 1]? = some (.cells #[.int .i64 0, .int .i64 0, .slice none 0 0] 38 (0, 0)) by rw [hW2]; simpa using heap_alloc_new ((w.alloc _).alloc _) _)
  clear hW2
  refine (R_put (w0 := w0) a st (HB.out.trans (hBW.mono hz0)) (HR.out.below hBW) hG hb).mono ?_
  rintro e w1 ⟨v', rfl, hR1, hB1, hK1⟩
  have hS1 := hK1.at (HS.out.below hBW)
  have HA1 := Aside0.mk (show AKept w w1 from ((AKept.refl w).below hBW).r hK1)
  have hk4 := hK1.blk HK4.out (by decide)
  have hk6 := hK1.blk HK6.out (by decide)
  obtain ⟨A1, n1, c1, rfl⟩ := hR1.form
  have s1 : w1.cell? ⟨w.heap.size + 1, 1, none⟩ = some (.int .i64 a) := (blk_cell hk4 1).trans rfl
  have s2 : w1.cell? ⟨w.heap.size + 1, 2, none⟩ = some (.int .i64 b) := (blk_cell hk4 2).trans rfl
  have s3 : w1.cell? ⟨w.heap.size + 1, 3, none⟩ = some (.bool st) := (blk_cell hk4 3).trans rfl
  have hz4 : w.heap.size + 1 < w1.heap.size := blk_lt hk4
  have HS1 := Aside0.mk hS1
  have HR1 := Aside0.mk hR1
  have HB1 := Aside0.mk hB1
  have HK61 := Aside0.mk hk6
  clear hk4 hk6 hS1 hR1 hB1 hK1 hBW
  generalize hp : put s a st = p at *
  have HP := Aside0.mk hp
  clear hp
  go_wp2_with fail
  have hw1 : Below w1.heap.size w1 (w1.alloc (.cells #[.int .i64 p.1.size, .int .i64 p.1.next, .slice A1 n1 c1] 38)) := below_alloc (Below.refl _ _) _
  refine (M_put (w0 := w0) a st (HB1.out.trans (hw1.mono HB1.out.size)) (HS1.out.below hw1) hG hb).mono ?_
  rintro e w2 ⟨rfl, hS2, hB2, hK2⟩
  rw [HP.out] at hS2 ⊢
  have HR2 := Aside0.mk (hK2.row (HR1.out.below hw1))
  have HA2 := Aside0.mk (show AKept w w2 from (HA1.out.below hw1).m hK2)
  have hk8 := hK2.blk (show (w1.alloc (.cells #[.int .i64 p.1.size, .int .i64 p.1.next, .slice A1 n1 c1] 38)).heap[w1.heap.size]? = _ by simpa using heap_alloc_new w1 _) (by decide) (by decide)
  have hk6 := hK2.blk (blk_alloc HK61.out _) (by decide) (by decide)
  have r0 : w2.cell? ⟨w1.heap.size, 0, none⟩ = some (.int .i64 p.1.size) := (blk_cell hk8 0).trans rfl
  have r1 : w2.cell? ⟨w1.heap.size, 1, none⟩ = some (.int .i64 p.1.next) := (blk_cell hk8 1).trans rfl
  have r2 : w2.cell? ⟨w1.heap.size, 2, none⟩ = some (.slice A1 n1 c1) := (blk_cell hk8 2).trans rfl
  have t0 : w2.cell? ⟨w.heap.size + 1 + 1, 0, none⟩ = some (.int .i64 0) := (blk_cell hk6 0).trans rfl
  have t1 : w2.cell? ⟨w.heap.size + 1 + 1, 1, none⟩ = some (.int .i64 0) := (blk_cell hk6 1).trans rfl
  have t2 : w2.cell? ⟨w.heap.size + 1 + 1, 2, none⟩ = some (.slice none 0 0) := (blk_cell hk6 2).trans rfl
  have g0 := blk_frozen hk6 0
  have g1 := blk_frozen hk6 1
  have g2 := blk_frozen hk6 2
  have HS2 := Aside0.mk hS2
  have HB2 := Aside0.mk hB2
  have HK62 := Aside0.mk hk6
  clear hk8 hk6 hS2 hB2 hK2
  clear hw1
  go_wp2
  have hfin := fin38 HS2.out HR2.out HB2.out HK62.out (by omega) (.int .i64 p.1.size) (.int .i64 p.1.next) (.slice A1 n1 c1)
  refine bodyPost_ret (results_ct rfl _ _ (w.heap.size + 1 + 1) 38 #[.int .i64 p.1.size, .int .i64 p.1.next, .slice A1 n1 c1] (0, 0) _ rfl (by refine blk_put (cs := #[.int .i64 p.1.size, .int .i64 p.1.next, .slice none 0 0]) ?_ 2 _ rfl; refine blk_put (cs := #[.int .i64 p.1.size, .int .i64 0, .slice none 0 0]) ?_ 1 _ rfl; refine blk_put (cs := #[.int .i64 0, .int .i64 0, .slice none 0 0]) ?_ 0 _ rfl; exact HK62.out) Try.underlying38 rfl (by kernel_rfl)) rfl ?_
  rw [HP.out]
  exact ⟨_, rfl, hfin.1, hfin.2.1, hfin.2.2, HA2.out.new (by omega) _ _ _⟩

set_option maxHeartbeats 4000000 in
set_option maxRecDepth 100000 in
theorem step1 (w0 w : World) (g : Nat) (s : St) (B : Int) (v : Value) (a b : Int) (st : Bool) (hB : Below w0.heap.size w0 w) (hS : At w0 w g s) (hR : RAt w0 w v s) (hG : Good B s) (hb : B ≤ 900000) :
    Calls Try.prog 16 #[.pointer (some ⟨g, 0, none⟩), .agg #[.int .i64 s.size, .int .i64 s.next, v], .agg #[.int .i64 1, .int .i64 a, .int .i64 b, .bool st]] w fun e w' => ∃ v', e = .returned (.tuple #[.agg #[.int .i64 (ins s a b).1.size, .int .i64 (ins s a b).1.next, v'], .bool true]) ∧ At w0 w' g (ins s a b).1 ∧ RAt w0 w' v' (ins s a b).1 ∧ Below w0.heap.size w0 w' ∧ AKept w w' := by
  obtain ⟨A, n, c, rfl⟩ := hR.form
  have HB := Aside0.mk hB
  have HS := Aside0.mk hS
  have HR := Aside0.mk hR
  have hz0 := hB.size
  clear hB hS hR
  go_enter Try.func16, Try.ntmps16
  go_wp2_with fail
  obtain ⟨W2, hW2⟩ : ∃ W2, W2 = (((w.alloc (.cells #[.int .i64 s.size, .int .i64 s.next, .slice A n c] 38)).alloc (.cells #[.int .i64 1, .int .i64 a, .int .i64 b, .bool st] 34)).alloc (.cells #[.int .i64 0, .int .i64 0, .slice none 0 0] 38)) := ⟨_, rfl⟩
  rw [← hW2]
  have hBW : Below w.heap.size w W2 := by rw [hW2]; exact below_alloc (below_alloc (below_alloc (Below.refl _ _) _) _) _
  have HK4 := Aside0.mk (show W2.heap[w.heap.size + 1]? = some (.cells #[.int .i64 1, .int .i64 a, .int .i64 b, .bool st] 34 (0, 0)) by rw [hW2]; exact blk_alloc (by simpa using heap_alloc_new (w.alloc _) _) _)
  have HK6 := Aside0.mk (show W2.heap[w.heap.size + 1 + 1]? = some (.cells #[.int .i64 0, .int .i64 0, .slice none 0 0] 38 (0, 0)) by rw [hW2]; simpa using heap_alloc_new ((w.alloc _).alloc _) _)
  clear hW2
  refine (R_ins (w0 := w0) a b (HB.out.trans (hBW.mono hz0)) (HR.out.below hBW) hG).mono ?_
  rintro e w1 ⟨v', rfl, hR1, hB1, hK1⟩
  have hS1 := hK1.at (HS.out.below hBW)
  have HA1 := Aside0.mk (show AKept w w1 from ((AKept.refl w).below hBW).r hK1)
  have hk4 := hK1.blk HK4.out (by decide)
  have hk6 := hK1.blk HK6.out (by decide)
  obtain ⟨A1, n1, c1, rfl⟩ := hR1.form
  have s1 : w1.cell? ⟨w.heap.size + 1, 1, none⟩ = some (.int .i64 a) := (blk_cell hk4 1).trans rfl
  have s2 : w1.cell? ⟨w.heap.size + 1, 2, none⟩ = some (.int .i64 b) := (blk_cell hk4 2).trans rfl
  have s3 : w1.cell? ⟨w.heap.size + 1, 3, none⟩ = some (.bool st) := (blk_cell hk4 3).trans rfl
  have hz4 : w.heap.size + 1 < w1.heap.size := blk_lt hk4
  have HS1 := Aside0.mk hS1
  have HR1 := Aside0.mk hR1
  have HB1 := Aside0.mk hB1
  have HK61 := Aside0.mk hk6
  clear hk4 hk6 hS1 hR1 hB1 hK1 hBW
  generalize hp : ins s a b = p at *
  have HP := Aside0.mk hp
  clear hp
  go_wp2_with fail
  have hw1 : Below w1.heap.size w1 (w1.alloc (.cells #[.int .i64 p.1.size, .int .i64 p.1.next, .slice A1 n1 c1] 38)).drew := Below.drew (below_alloc (Below.refl _ _) _)
  go_region_with (refine (M_ins (w0 := w0) a b (HB1.out.trans (hw1.mono HB1.out.size)) (HS1.out.below hw1) hG).mono ?_; rintro e w2 ⟨rfl, hS2, hB2, hK2⟩; rw [HP.out] at hS2 ⊢; have HR2 := Aside0.mk (hK2.row (HR1.out.below hw1)); have HA2 := Aside0.mk (show AKept w w2 from (HA1.out.below hw1).m hK2); have hk8 := hK2.blk (show (w1.alloc (.cells #[.int .i64 p.1.size, .int .i64 p.1.next, .slice A1 n1 c1] 38)).heap[w1.heap.size]? = _ by simpa using heap_alloc_new w1 _) (by decide) (by decide); have hk6 := hK2.blk (blk_alloc HK61.out _) (by decide) (by decide); have r0 : w2.cell? ⟨w1.heap.size, 0, none⟩ = some (.int .i64 p.1.size) := (blk_cell hk8 0).trans rfl; have r1 : w2.cell? ⟨w1.heap.size, 1, none⟩ = some (.int .i64 p.1.next) := (blk_cell hk8 1).trans rfl; have r2 : w2.cell? ⟨w1.heap.size, 2, none⟩ = some (.slice A1 n1 c1) := (blk_cell hk8 2).trans rfl; have t0 : w2.cell? ⟨w.heap.size + 1 + 1, 0, none⟩ = some (.int .i64 0) := (blk_cell hk6 0).trans rfl; have t1 : w2.cell? ⟨w.heap.size + 1 + 1, 1, none⟩ = some (.int .i64 0) := (blk_cell hk6 1).trans rfl; have t2 : w2.cell? ⟨w.heap.size + 1 + 1, 2, none⟩ = some (.slice none 0 0) := (blk_cell hk6 2).trans rfl; have g0 := blk_frozen hk6 0; have g1 := blk_frozen hk6 1; have g2 := blk_frozen hk6 2; have HS2 := Aside0.mk hS2; have HB2 := Aside0.mk hB2; have HK62 := Aside0.mk hk6; clear hk8 hk6 hS2 hB2 hK2)
  all_goals
    go_wp2
    have hfin := fin38 HS2.out HR2.out HB2.out HK62.out (by omega) (.int .i64 p.1.size) (.int .i64 p.1.next) (.slice A1 n1 c1)
    refine bodyPost_ret (results_ct rfl _ _ (w.heap.size + 1 + 1) 38 #[.int .i64 p.1.size, .int .i64 p.1.next, .slice A1 n1 c1] (0, 0) _ rfl (by refine blk_put (cs := #[.int .i64 p.1.size, .int .i64 p.1.next, .slice none 0 0]) ?_ 2 _ rfl; refine blk_put (cs := #[.int .i64 p.1.size, .int .i64 0, .slice none 0 0]) ?_ 1 _ rfl; refine blk_put (cs := #[.int .i64 0, .int .i64 0, .slice none 0 0]) ?_ 0 _ rfl; exact HK62.out) Try.underlying38 rfl (by kernel_rfl)) rfl ?_
    rw [HP.out]
    exact ⟨_, rfl, hfin.1, hfin.2.1, hfin.2.2, HA2.out.new (by omega) _ _ _⟩

set_option maxHeartbeats 4000000 in
set_option maxRecDepth 100000 in
theorem step2 (w0 w : World) (g : Nat) (s : St) (B : Int) (v : Value) (a b : Int) (st : Bool) (hB : Below w0.heap.size w0 w) (hS : At w0 w g s) (hR : RAt w0 w v s) (hG : Good B s) (hb : B ≤ 900000) :
    Calls Try.prog 16 #[.pointer (some ⟨g, 0, none⟩), .agg #[.int .i64 s.size, .int .i64 s.next, v], .agg #[.int .i64 2, .int .i64 a, .int .i64 b, .bool st]] w fun e w' => ∃ v', e = .returned (.tuple #[.agg #[.int .i64 (del s a b).1.size, .int .i64 (del s a b).1.next, v'], .bool true]) ∧ At w0 w' g (del s a b).1 ∧ RAt w0 w' v' (del s a b).1 ∧ Below w0.heap.size w0 w' ∧ AKept w w' := by
  obtain ⟨A, n, c, rfl⟩ := hR.form
  have HB := Aside0.mk hB
  have HS := Aside0.mk hS
  have HR := Aside0.mk hR
  have hz0 := hB.size
  clear hB hS hR
  go_enter Try.func16, Try.ntmps16
  go_wp2_with fail
  obtain ⟨W2, hW2⟩ : ∃ W2, W2 = (((w.alloc (.cells #[.int .i64 s.size, .int .i64 s.next, .slice A n c] 38)).alloc (.cells #[.int .i64 2, .int .i64 a, .int .i64 b, .bool st] 34)).alloc (.cells #[.int .i64 0, .int .i64 0, .slice none 0 0] 38)) := ⟨_, rfl⟩
  rw [← hW2]
  have hBW : Below w.heap.size w W2 := by rw [hW2]; exact below_alloc (below_alloc (below_alloc (Below.refl _ _) _) _) _
  have HK4 := Aside0.mk (show W2.heap[w.heap.size + 1]? = some (.cells #[.int .i64 2, .int .i64 a, .int .i64 b, .bool st] 34 (0, 0)) by rw [hW2]; exact blk_alloc (by simpa using heap_alloc_new (w.alloc _) _) _)
  have HK6 := Aside0.mk (show W2.heap[w.heap.size + 1 + 1]? = some (.cells #[.int .i64 0, .int .i64 0, .slice none 0 0] 38 (0, 0)) by rw [hW2]; simpa using heap_alloc_new ((w.alloc _).alloc _) _)
  clear hW2
  refine (R_del (w0 := w0) a b (HB.out.trans (hBW.mono hz0)) (HR.out.below hBW) hG).mono ?_
  rintro e w1 ⟨v', rfl, hR1, hB1, hK1⟩
  have hS1 := hK1.at (HS.out.below hBW)
  have HA1 := Aside0.mk (show AKept w w1 from ((AKept.refl w).below hBW).r hK1)
  have hk4 := hK1.blk HK4.out (by decide)
  have hk6 := hK1.blk HK6.out (by decide)
  obtain ⟨A1, n1, c1, rfl⟩ := hR1.form
  have s1 : w1.cell? ⟨w.heap.size + 1, 1, none⟩ = some (.int .i64 a) := (blk_cell hk4 1).trans rfl
  have s2 : w1.cell? ⟨w.heap.size + 1, 2, none⟩ = some (.int .i64 b) := (blk_cell hk4 2).trans rfl
  have s3 : w1.cell? ⟨w.heap.size + 1, 3, none⟩ = some (.bool st) := (blk_cell hk4 3).trans rfl
  have hz4 : w.heap.size + 1 < w1.heap.size := blk_lt hk4
  have HS1 := Aside0.mk hS1
  have HR1 := Aside0.mk hR1
  have HB1 := Aside0.mk hB1
  have HK61 := Aside0.mk hk6
  clear hk4 hk6 hS1 hR1 hB1 hK1 hBW
  generalize hp : del s a b = p at *
  have HP := Aside0.mk hp
  clear hp
  go_wp2_with fail
  have hw1 : Below w1.heap.size w1 (w1.alloc (.cells #[.int .i64 p.1.size, .int .i64 p.1.next, .slice A1 n1 c1] 38)).drew := Below.drew (below_alloc (Below.refl _ _) _)
  go_region_with (refine (M_del (w0 := w0) a b (HB1.out.trans (hw1.mono HB1.out.size)) (HS1.out.below hw1) hG).mono ?_; rintro e w2 ⟨rfl, hS2, hB2, hK2⟩; rw [HP.out] at hS2 ⊢; have HR2 := Aside0.mk (hK2.row (HR1.out.below hw1)); have HA2 := Aside0.mk (show AKept w w2 from (HA1.out.below hw1).m hK2); have hk8 := hK2.blk (show (w1.alloc (.cells #[.int .i64 p.1.size, .int .i64 p.1.next, .slice A1 n1 c1] 38)).heap[w1.heap.size]? = _ by simpa using heap_alloc_new w1 _) (by decide) (by decide); have hk6 := hK2.blk (blk_alloc HK61.out _) (by decide) (by decide); have r0 : w2.cell? ⟨w1.heap.size, 0, none⟩ = some (.int .i64 p.1.size) := (blk_cell hk8 0).trans rfl; have r1 : w2.cell? ⟨w1.heap.size, 1, none⟩ = some (.int .i64 p.1.next) := (blk_cell hk8 1).trans rfl; have r2 : w2.cell? ⟨w1.heap.size, 2, none⟩ = some (.slice A1 n1 c1) := (blk_cell hk8 2).trans rfl; have t0 : w2.cell? ⟨w.heap.size + 1 + 1, 0, none⟩ = some (.int .i64 0) := (blk_cell hk6 0).trans rfl; have t1 : w2.cell? ⟨w.heap.size + 1 + 1, 1, none⟩ = some (.int .i64 0) := (blk_cell hk6 1).trans rfl; have t2 : w2.cell? ⟨w.heap.size + 1 + 1, 2, none⟩ = some (.slice none 0 0) := (blk_cell hk6 2).trans rfl; have g0 := blk_frozen hk6 0; have g1 := blk_frozen hk6 1; have g2 := blk_frozen hk6 2; have HS2 := Aside0.mk hS2; have HB2 := Aside0.mk hB2; have HK62 := Aside0.mk hk6; clear hk8 hk6 hS2 hB2 hK2)
  all_goals
    go_wp2
    have hfin := fin38 HS2.out HR2.out HB2.out HK62.out (by omega) (.int .i64 p.1.size) (.int .i64 p.1.next) (.slice A1 n1 c1)
    refine bodyPost_ret (results_ct rfl _ _ (w.heap.size + 1 + 1) 38 #[.int .i64 p.1.size, .int .i64 p.1.next, .slice A1 n1 c1] (0, 0) _ rfl (by refine blk_put (cs := #[.int .i64 p.1.size, .int .i64 p.1.next, .slice none 0 0]) ?_ 2 _ rfl; refine blk_put (cs := #[.int .i64 p.1.size, .int .i64 0, .slice none 0 0]) ?_ 1 _ rfl; refine blk_put (cs := #[.int .i64 0, .int .i64 0, .slice none 0 0]) ?_ 0 _ rfl; exact HK62.out) Try.underlying38 rfl (by kernel_rfl)) rfl ?_
    rw [HP.out]
    exact ⟨_, rfl, hfin.1, hfin.2.1, hfin.2.2, HA2.out.new (by omega) _ _ _⟩

set_option maxHeartbeats 4000000 in
set_option maxRecDepth 100000 in
theorem step3 (w0 w : World) (g : Nat) (s : St) (B : Int) (v : Value) (a b : Int) (st : Bool) (hB : Below w0.heap.size w0 w) (hS : At w0 w g s) (hR : RAt w0 w v s) (hG : Good B s) (hb : B ≤ 900000) :
    Calls Try.prog 16 #[.pointer (some ⟨g, 0, none⟩), .agg #[.int .i64 s.size, .int .i64 s.next, v], .agg #[.int .i64 3, .int .i64 a, .int .i64 b, .bool st]] w fun e w' => ∃ v', e = .returned (.tuple #[.agg #[.int .i64 (mov s a b).1.size, .int .i64 (mov s a b).1.next, v'], .bool true]) ∧ At w0 w' g (mov s a b).1 ∧ RAt w0 w' v' (mov s a b).1 ∧ Below w0.heap.size w0 w' ∧ AKept w w' := by
  obtain ⟨A, n, c, rfl⟩ := hR.form
  have HB := Aside0.mk hB
  have HS := Aside0.mk hS
  have HR := Aside0.mk hR
  have hz0 := hB.size
  clear hB hS hR
  go_enter Try.func16, Try.ntmps16
  go_wp2_with fail
  obtain ⟨W2, hW2⟩ : ∃ W2, W2 = (((w.alloc (.cells #[.int .i64 s.size, .int .i64 s.next, .slice A n c] 38)).alloc (.cells #[.int .i64 3, .int .i64 a, .int .i64 b, .bool st] 34)).alloc (.cells #[.int .i64 0, .int .i64 0, .slice none 0 0] 38)) := ⟨_, rfl⟩
  rw [← hW2]
  have hBW : Below w.heap.size w W2 := by rw [hW2]; exact below_alloc (below_alloc (below_alloc (Below.refl _ _) _) _) _
  have HK4 := Aside0.mk (show W2.heap[w.heap.size + 1]? = some (.cells #[.int .i64 3, .int .i64 a, .int .i64 b, .bool st] 34 (0, 0)) by rw [hW2]; exact blk_alloc (by simpa using heap_alloc_new (w.alloc _) _) _)
  have HK6 := Aside0.mk (show W2.heap[w.heap.size + 1 + 1]? = some (.cells #[.int .i64 0, .int .i64 0, .slice none 0 0] 38 (0, 0)) by rw [hW2]; simpa using heap_alloc_new ((w.alloc _).alloc _) _)
  clear hW2
  refine (R_mov (w0 := w0) a b (HB.out.trans (hBW.mono hz0)) (HR.out.below hBW) hG).mono ?_
  rintro e w1 ⟨v', rfl, hR1, hB1, hK1⟩
  have hS1 := hK1.at (HS.out.below hBW)
  have HA1 := Aside0.mk (show AKept w w1 from ((AKept.refl w).below hBW).r hK1)
  have hk4 := hK1.blk HK4.out (by decide)
  have hk6 := hK1.blk HK6.out (by decide)
  obtain ⟨A1, n1, c1, rfl⟩ := hR1.form
  have s1 : w1.cell? ⟨w.heap.size + 1, 1, none⟩ = some (.int .i64 a) := (blk_cell hk4 1).trans rfl
  have s2 : w1.cell? ⟨w.heap.size + 1, 2, none⟩ = some (.int .i64 b) := (blk_cell hk4 2).trans rfl
  have s3 : w1.cell? ⟨w.heap.size + 1, 3, none⟩ = some (.bool st) := (blk_cell hk4 3).trans rfl
  have hz4 : w.heap.size + 1 < w1.heap.size := blk_lt hk4
  have HS1 := Aside0.mk hS1
  have HR1 := Aside0.mk hR1
  have HB1 := Aside0.mk hB1
  have HK61 := Aside0.mk hk6
  clear hk4 hk6 hS1 hR1 hB1 hK1 hBW
  generalize hp : mov s a b = p at *
  have HP := Aside0.mk hp
  clear hp
  go_wp2_with fail
  have hw1 : Below w1.heap.size w1 (w1.alloc (.cells #[.int .i64 p.1.size, .int .i64 p.1.next, .slice A1 n1 c1] 38)).drew := Below.drew (below_alloc (Below.refl _ _) _)
  go_region_with (refine (M_mov (w0 := w0) a b (HB1.out.trans (hw1.mono HB1.out.size)) (HS1.out.below hw1) hG).mono ?_; rintro e w2 ⟨rfl, hS2, hB2, hK2⟩; rw [HP.out] at hS2 ⊢; have HR2 := Aside0.mk (hK2.row (HR1.out.below hw1)); have HA2 := Aside0.mk (show AKept w w2 from (HA1.out.below hw1).m hK2); have hk8 := hK2.blk (show (w1.alloc (.cells #[.int .i64 p.1.size, .int .i64 p.1.next, .slice A1 n1 c1] 38)).heap[w1.heap.size]? = _ by simpa using heap_alloc_new w1 _) (by decide) (by decide); have hk6 := hK2.blk (blk_alloc HK61.out _) (by decide) (by decide); have r0 : w2.cell? ⟨w1.heap.size, 0, none⟩ = some (.int .i64 p.1.size) := (blk_cell hk8 0).trans rfl; have r1 : w2.cell? ⟨w1.heap.size, 1, none⟩ = some (.int .i64 p.1.next) := (blk_cell hk8 1).trans rfl; have r2 : w2.cell? ⟨w1.heap.size, 2, none⟩ = some (.slice A1 n1 c1) := (blk_cell hk8 2).trans rfl; have t0 : w2.cell? ⟨w.heap.size + 1 + 1, 0, none⟩ = some (.int .i64 0) := (blk_cell hk6 0).trans rfl; have t1 : w2.cell? ⟨w.heap.size + 1 + 1, 1, none⟩ = some (.int .i64 0) := (blk_cell hk6 1).trans rfl; have t2 : w2.cell? ⟨w.heap.size + 1 + 1, 2, none⟩ = some (.slice none 0 0) := (blk_cell hk6 2).trans rfl; have g0 := blk_frozen hk6 0; have g1 := blk_frozen hk6 1; have g2 := blk_frozen hk6 2; have HS2 := Aside0.mk hS2; have HB2 := Aside0.mk hB2; have HK62 := Aside0.mk hk6; clear hk8 hk6 hS2 hB2 hK2)
  all_goals
    go_wp2
    have hfin := fin38 HS2.out HR2.out HB2.out HK62.out (by omega) (.int .i64 p.1.size) (.int .i64 p.1.next) (.slice A1 n1 c1)
    refine bodyPost_ret (results_ct rfl _ _ (w.heap.size + 1 + 1) 38 #[.int .i64 p.1.size, .int .i64 p.1.next, .slice A1 n1 c1] (0, 0) _ rfl (by refine blk_put (cs := #[.int .i64 p.1.size, .int .i64 p.1.next, .slice none 0 0]) ?_ 2 _ rfl; refine blk_put (cs := #[.int .i64 p.1.size, .int .i64 0, .slice none 0 0]) ?_ 1 _ rfl; refine blk_put (cs := #[.int .i64 0, .int .i64 0, .slice none 0 0]) ?_ 0 _ rfl; exact HK62.out) Try.underlying38 rfl (by kernel_rfl)) rfl ?_
    rw [HP.out]
    exact ⟨_, rfl, hfin.1, hfin.2.1, hfin.2.2, HA2.out.new (by omega) _ _ _⟩

set_option maxHeartbeats 4000000 in
set_option maxRecDepth 100000 in
theorem step4 (w0 w : World) (g : Nat) (s : St) (B : Int) (v : Value) (a b : Int) (st : Bool) (hB : Below w0.heap.size w0 w) (hS : At w0 w g s) (hR : RAt w0 w v s) (hG : Good B s) (hb : B ≤ 900000) :
    Calls Try.prog 16 #[.pointer (some ⟨g, 0, none⟩), .agg #[.int .i64 s.size, .int .i64 s.next, v], .agg #[.int .i64 4, .int .i64 a, .int .i64 b, .bool st]] w fun e w' => ∃ v', e = .returned (.tuple #[.agg #[.int .i64 (drp s a).1.size, .int .i64 (drp s a).1.next, v'], .bool true]) ∧ At w0 w' g (drp s a).1 ∧ RAt w0 w' v' (drp s a).1 ∧ Below w0.heap.size w0 w' ∧ AKept w w' := by
  obtain ⟨A, n, c, rfl⟩ := hR.form
  have HB := Aside0.mk hB
  have HS := Aside0.mk hS
  have HR := Aside0.mk hR
  have hz0 := hB.size
  clear hB hS hR
  go_enter Try.func16, Try.ntmps16
  go_wp2_with fail
  obtain ⟨W2, hW2⟩ : ∃ W2, W2 = (((w.alloc (.cells #[.int .i64 s.size, .int .i64 s.next, .slice A n c] 38)).alloc (.cells #[.int .i64 4, .int .i64 a, .int .i64 b, .bool st] 34)).alloc (.cells #[.int .i64 0, .int .i64 0, .slice none 0 0] 38)) := ⟨_, rfl⟩
  rw [← hW2]
  have hBW : Below w.heap.size w W2 := by rw [hW2]; exact below_alloc (below_alloc (below_alloc (Below.refl _ _) _) _) _
  have HK4 := Aside0.mk (show W2.heap[w.heap.size + 1]? = some (.cells #[.int .i64 4, .int .i64 a, .int .i64 b, .bool st] 34 (0, 0)) by rw [hW2]; exact blk_alloc (by simpa using heap_alloc_new (w.alloc _) _) _)
  have HK6 := Aside0.mk (show W2.heap[w.heap.size + 1 + 1]? = some (.cells #[.int .i64 0, .int .i64 0, .slice none 0 0] 38 (0, 0)) by rw [hW2]; simpa using heap_alloc_new ((w.alloc _).alloc _) _)
  clear hW2
  refine (R_drp (w0 := w0) a (HB.out.trans (hBW.mono hz0)) (HR.out.below hBW) hG).mono ?_
  rintro e w1 ⟨v', rfl, hR1, hB1, hK1⟩
  have hS1 := hK1.at (HS.out.below hBW)
  have HA1 := Aside0.mk (show AKept w w1 from ((AKept.refl w).below hBW).r hK1)
  have hk4 := hK1.blk HK4.out (by decide)
  have hk6 := hK1.blk HK6.out (by decide)
  obtain ⟨A1, n1, c1, rfl⟩ := hR1.form
  have s1 : w1.cell? ⟨w.heap.size + 1, 1, none⟩ = some (.int .i64 a) := (blk_cell hk4 1).trans rfl
  have s2 : w1.cell? ⟨w.heap.size + 1, 2, none⟩ = some (.int .i64 b) := (blk_cell hk4 2).trans rfl
  have s3 : w1.cell? ⟨w.heap.size + 1, 3, none⟩ = some (.bool st) := (blk_cell hk4 3).trans rfl
  have hz4 : w.heap.size + 1 < w1.heap.size := blk_lt hk4
  have HS1 := Aside0.mk hS1
  have HR1 := Aside0.mk hR1
  have HB1 := Aside0.mk hB1
  have HK61 := Aside0.mk hk6
  clear hk4 hk6 hS1 hR1 hB1 hK1 hBW
  generalize hp : drp s a = p at *
  have HP := Aside0.mk hp
  clear hp
  go_wp2_with fail
  have hw1 : Below w1.heap.size w1 (w1.alloc (.cells #[.int .i64 p.1.size, .int .i64 p.1.next, .slice A1 n1 c1] 38)).drew := Below.drew (below_alloc (Below.refl _ _) _)
  go_region_with (refine (M_drp (w0 := w0) a (HB1.out.trans (hw1.mono HB1.out.size)) (HS1.out.below hw1) hG).mono ?_; rintro e w2 ⟨rfl, hS2, hB2, hK2⟩; rw [HP.out] at hS2 ⊢; have HR2 := Aside0.mk (hK2.row (HR1.out.below hw1)); have HA2 := Aside0.mk (show AKept w w2 from (HA1.out.below hw1).m hK2); have hk8 := hK2.blk (show (w1.alloc (.cells #[.int .i64 p.1.size, .int .i64 p.1.next, .slice A1 n1 c1] 38)).heap[w1.heap.size]? = _ by simpa using heap_alloc_new w1 _) (by decide) (by decide); have hk6 := hK2.blk (blk_alloc HK61.out _) (by decide) (by decide); have r0 : w2.cell? ⟨w1.heap.size, 0, none⟩ = some (.int .i64 p.1.size) := (blk_cell hk8 0).trans rfl; have r1 : w2.cell? ⟨w1.heap.size, 1, none⟩ = some (.int .i64 p.1.next) := (blk_cell hk8 1).trans rfl; have r2 : w2.cell? ⟨w1.heap.size, 2, none⟩ = some (.slice A1 n1 c1) := (blk_cell hk8 2).trans rfl; have t0 : w2.cell? ⟨w.heap.size + 1 + 1, 0, none⟩ = some (.int .i64 0) := (blk_cell hk6 0).trans rfl; have t1 : w2.cell? ⟨w.heap.size + 1 + 1, 1, none⟩ = some (.int .i64 0) := (blk_cell hk6 1).trans rfl; have t2 : w2.cell? ⟨w.heap.size + 1 + 1, 2, none⟩ = some (.slice none 0 0) := (blk_cell hk6 2).trans rfl; have g0 := blk_frozen hk6 0; have g1 := blk_frozen hk6 1; have g2 := blk_frozen hk6 2; have HS2 := Aside0.mk hS2; have HB2 := Aside0.mk hB2; have HK62 := Aside0.mk hk6; clear hk8 hk6 hS2 hB2 hK2)
  all_goals
    go_wp2
    have hfin := fin38 HS2.out HR2.out HB2.out HK62.out (by omega) (.int .i64 p.1.size) (.int .i64 p.1.next) (.slice A1 n1 c1)
    refine bodyPost_ret (results_ct rfl _ _ (w.heap.size + 1 + 1) 38 #[.int .i64 p.1.size, .int .i64 p.1.next, .slice A1 n1 c1] (0, 0) _ rfl (by refine blk_put (cs := #[.int .i64 p.1.size, .int .i64 p.1.next, .slice none 0 0]) ?_ 2 _ rfl; refine blk_put (cs := #[.int .i64 p.1.size, .int .i64 0, .slice none 0 0]) ?_ 1 _ rfl; refine blk_put (cs := #[.int .i64 0, .int .i64 0, .slice none 0 0]) ?_ 0 _ rfl; exact HK62.out) Try.underlying38 rfl (by kernel_rfl)) rfl ?_
    rw [HP.out]
    exact ⟨_, rfl, hfin.1, hfin.2.1, hfin.2.2, HA2.out.new (by omega) _ _ _⟩

end Go.Proofs.Ytfcaodnfiakdoaa.Mk
