/- What Put does to a set of marks that has room; no condition beside the sizes that are written. -/
import Derived.Test.YtfcaodnfiakdoaaMa
namespace Go.Proofs.Ytfcaodnfiakdoaa.Mk
open Go.RowKit Go.Proofs.YtfcaodnfiakdoaaW.PrintWords Go.Proofs.YtfcaodnfiakdoaaW.PrintLast Go.Proofs.YtfcaodnfiakdoaaW.PrintMore Go.Proofs.Ytfcaodnfiakdoaa.PMarksPlay
set_option linter.unusedVariables false
set_option linter.unusedSimpArgs false

/-- Nothing but blocks of marks and of their sets has been written. -/
def MKept (w w' : World) : Prop := Kept w w' (fun k => TyIn w 46 k ∨ TyIn w 61 k)
theorem MKept.refl (w : World) : MKept w w := Kept.refl _ _
theorem MKept.back {w W : World} (h : MKept w W) {k : Nat} (hk : TyIn W 46 k ∨ TyIn W 61 k) : (TyIn w 46 k ∨ TyIn w 61 k) ∨ w.heap.size ≤ k := by
  by_cases hs : TyIn w 46 k ∨ TyIn w 61 k
  · exact .inl hs
  · by_cases hlt : k < w.heap.size
    · have e := h.2 k hlt hs
      refine .inl ?_
      rcases hk with ⟨c, hc⟩ | ⟨c, hc⟩
      · exact .inl ⟨c, e ▸ hc⟩
      · exact .inr ⟨c, e ▸ hc⟩
    · exact .inr (by omega)
theorem MKept.trans {w W W2 : World} (h : MKept w W) (h2 : MKept W W2) : MKept w W2 := Kept.then_ h h2 (fun k hk => h.back hk)
theorem MKept.below {w W W2 : World} (h : MKept w W) (hb : Below W.heap.size W W2) : MKept w W2 := Kept.below h hb
theorem MKept.grown {w W W2 : World} (h : MKept w W) {row : Option Nat} (hg : W.grownBy W2 row) (hr : ∀ k, row = some k → TyIn W 46 k) : MKept w W2 := Kept.of_grown hg h (fun k hk => h.back (.inl (hr k hk)))
theorem MKept.set {w W : World} (h : MKept w W) {p : Addr} (hp : TyIn W 46 p.block ∨ TyIn W 61 p.block) (u : Value) : MKept w (W.setCell p u) := Kept.setCell h (h.back hp) u

set_option maxHeartbeats 1000000 in
set_option maxRecDepth 100000 in
theorem Put_yes (w0 w : World) (g : Nat) (size next at_ : Int) (stays : Bool) (xs : List S46) (hB : Below w0.heap.size w0 w) (hS : SetAt w0.heap.size w g size next xs)
    (hl : xs.length < 1024) (h0 : 0 ≤ at_) (h1 : at_ ≤ size) (hs : size ≤ 65536) (hn0 : 0 ≤ next) (hn1 : next ≤ 1000000) :
    Calls Try.prog 10 #[.pointer (some ⟨g, 0, none⟩), .int .i64 at_, .bool stays] w fun e w' => e = .returned (.tuple #[.int .i64 (next + 1), .int .i64 0]) ∧ SetAt w0.heap.size w' g size (next + 1) (xs ++ [⟨next + 1, at_, stays⟩]) ∧ Below w0.heap.size w0 w' ∧ MKept w w' := by
  obtain ⟨hg, v, hblk, hrow⟩ := hS
  obtain ⟨A, c, rfl, hc, hC⟩ := Kd.R_reads hrow
  have c0 : w.cell? ⟨g, 0, none⟩ = some (.int .i64 size) := (blk_cell hblk 0).trans rfl
  have c1 : w.cell? ⟨g, 1, none⟩ = some (.int .i64 next) := (blk_cell hblk 1).trans rfl
  have c2 : w.cell? ⟨g, 2, none⟩ = some (.slice A xs.length c) := (blk_cell hblk 2).trans rfl
  have f0 := blk_frozen hblk 0
  have f1 := blk_frozen hblk 1
  have f2 := blk_frozen hblk 2
  have hl' : (xs.length : Int) < 1024 := by omega
  go_enter Try.func10, Try.ntmps10
  go_wp2
  obtain ⟨W1, hW1⟩ : ∃ W1, W1 = w.setCell ⟨g, 1, none⟩ (.int .i64 (next + 1)) := ⟨_, rfl⟩
  have hblk1 : W1.heap[g]? = some (.cells #[.int .i64 size, .int .i64 (next + 1), .slice A xs.length c] 61 (0, 0)) := by rw [hW1]; exact blk_put (cs := #[.int .i64 size, .int .i64 next, .slice A xs.length c]) hblk 1 _ rfl
  have hrow1 : Kd.R k46 46 W1 w0.heap.size (fun k => k ≠ g) (.slice A xs.length c) xs := by rw [hW1]; exact Kd.R_far hrow (fun k hk => hk) _
  have hB1 : Below w0.heap.size w0 W1 := by rw [hW1]; exact below_set hB hg
  have hK1 : MKept w W1 := by rw [hW1]; exact Kept.setCell (Kept.refl _ _) (.inl (.inr ⟨_, hblk⟩)) _
  rw [← hW1]
  clear hW1 c0 c1 c2 f0 f1 f2 hblk hrow hC
  have c0 : W1.cell? ⟨g, 0, none⟩ = some (.int .i64 size) := (blk_cell hblk1 0).trans rfl
  have c1 : W1.cell? ⟨g, 1, none⟩ = some (.int .i64 (next + 1)) := (blk_cell hblk1 1).trans rfl
  have c2 : W1.cell? ⟨g, 2, none⟩ = some (.slice A xs.length c) := (blk_cell hblk1 2).trans rfl
  have f2 := blk_frozen hblk1 2
  have hlt : g < W1.heap.size := blk_lt hblk1
  go_region_law (rw [← World.alloc_drew]; refine Kd.R_append_step k46 (w0 := w0) w0.heap.size (by simp [Region.wanted]) (.tmp 37) (.tmp 45) 41 46 _ 24 rfl Try.underlying41 info46 rfl (by decide) (by decide) (.slice A xs.length c) xs ⟨next + 1, at_, stays⟩ _ (fun k => k ≠ g ∨ W1.heap.size ≤ k) (fun _ => False) rfl rfl (k46_mkM _ _ _ _) (fun _ h => h.elim) (fun k hk => .inr hk) (Kd.R_mono (Kd.R_drew hrow1) (fun k hk => .inl hk)) (Below.drew hB1) hB1.size (by omega) ?_; intro v1 w1 hR hb hgr hat; have hblk2 : w1.heap[g]? = some (.cells #[.int .i64 size, .int .i64 (next + 1), .slice A xs.length c] 61 (0, 0)) := blk_grown (blk_drew hblk1) hgr (Kd.R_away hrow1 (fun k hk => hk)); have c2' : w1.cell? ⟨g, 2, none⟩ = some (.slice A xs.length c) := (blk_cell hblk2 2).trans rfl; have f2' := blk_frozen hblk2 2; have c1' : w1.cell? ⟨g, 1, none⟩ = some (.int .i64 (next + 1)) := (blk_cell hblk2 1).trans rfl; obtain ⟨A1, cc, rfl⟩ := Kd.R_slice hR)
  all_goals
    go_wp2
    go_ret2
    have hR2 : Kd.R k46 46 w1 w0.heap.size (fun k => k ≠ g) (.slice A1 (xs.length + 1) cc) (xs ++ [⟨next + 1, at_, stays⟩]) := by
      have hR3 := Kd.R_mono (ok' := fun k => k ≠ g) hR (fun k hk => by rcases hk with hk | hk; exact hk; omega)
      simpa using hR3
    exact ⟨rfl, ⟨hg, _, blk_put hblk2 2 _ rfl, Kd.R_far (p := ⟨g, 2, none⟩) hR2 (fun _ hk => hk) _⟩, below_set hb hg, MKept.set (MKept.grown (w := w) (W := W1.drew) hK1 hgr (fun k hk => Kd.R_typed (Kd.R_drew hrow1) k hk)) (.inr ⟨_, hblk2⟩) _⟩
end Go.Proofs.Ytfcaodnfiakdoaa.Mk
