/- One mark is taken out of a row of marks; no condition beside the sizes that are written. -/
import Derived.Test.YtfcaodnfiakdoaaMc
namespace Go.Proofs.Ytfcaodnfiakdoaa.Mk
open Go.RowKit Go.Proofs.YtfcaodnfiakdoaaW.PrintWords Go.Proofs.YtfcaodnfiakdoaaW.PrintLast Go.Proofs.YtfcaodnfiakdoaaW.PrintMore Go.Proofs.Ytfcaodnfiakdoaa.PMarksPlay
set_option linter.unusedVariables false
set_option linter.unusedSimpArgs false

/-- A cell of an own row beyond its elements is written: the elements are as they were. -/
theorem R46_beyond {w : World} {base b c j : Nat} {ok : Nat → Prop} {xs : List S46} (h : Kd.R k46 46 w base ok (.slice (some ⟨b, 0, none⟩) xs.length c) xs) (hj : xs.length * 3 ≤ j) (u : Value) : Kd.R k46 46 (w.setCell ⟨b, j, none⟩ u) base ok (.slice (some ⟨b, 0, none⟩) xs.length c) xs := by
  obtain ⟨h0, inner, ⟨hl, ho⟩, hr⟩ := h
  refine ⟨h0, inner, ⟨hl, ?_⟩, hr.imp_ (fun x cs hp => by obtain rfl := k46_openM hp; exact k46_mkM _ _ _ _)⟩
  rcases ho with ⟨e1, _⟩ | ⟨g', cap, cur, e1, hg, hb, h1, h2, h3, h4⟩
  · cases e1
  · cases e1
    refine .inr ⟨b, c, cur.setIfInBounds j u, rfl, hg, blk_set hb j u, h1, h2, by simpa using h3, ?_⟩
    rw [← h4]
    apply List.ext_getElem?
    intro i
    simp only [List.getElem?_take, Array.toList_setIfInBounds]
    by_cases hi : i < xs.length * k46.sz
    · rw [if_pos hi, if_pos hi]
      have : i < xs.length * 3 := hi
      rw [List.getElem?_set_ne (by omega)]
    · rw [if_neg hi, if_neg hi]

/-- All cells of an own row's block are there. -/
theorem R46_room {w : World} {base b n c : Nat} {ok : Nat → Prop} {xs : List S46} (h : Kd.R k46 46 w base ok (.slice (some ⟨b, 0, none⟩) n c) xs) : ∃ cur : Array Value, w.heap[b]? = some (.cells cur 46 (0, 0)) ∧ cur.size = c * 3 ∧ n = xs.length ∧ n ≤ c := by
  obtain ⟨h0, inner, ⟨hl, ho⟩, hr⟩ := h
  rcases ho with ⟨e1, _⟩ | ⟨g', cap, cur, e1, hg, hb, h1, h2, h3, h4⟩
  · cases e1
  · cases e1
    exact ⟨cur, hb, h3, rfl, h1⟩

theorem info46s : (Try.prog.info? 46).map (·.size) = some k46.sz := by kernel_rfl
theorem zero46 (w : World) : (zeroValue 46).run Try.prog w = .ok (.agg #[.int .i64 0, .int .i64 0, .bool false]) w := by kernel_rfl

theorem clear_one (w : World) (b o c : Nat) (cur : Array Value) (hb : w.heap[b]? = some (.cells cur 46 (0, 0))) (ho : o + 3 ≤ cur.size) :
    (Builtin.clear_ #[41] 0 #[.slice (some ⟨b, o, none⟩) 1 c]).run Try.prog w = .ok (.tuple #[]) (w.setCells b o [.int .i64 0, .int .i64 0, .bool false]) := by
  have hst := run_storeCells_cells (P := Try.prog) b o [.int .i64 0, .int .i64 0, .bool false] 0 w (by intro j hj; simp at hj ⊢; rw [blk_cell hb]; simp; omega) (by intro j hj; exact blk_frozen hb _) (by intro v hv; simp at hv; rcases hv with rfl | rfl | rfl <;> rfl)
  simp only [Nat.add_zero] at hst
  have hz : (Builtin.zeroCells (Value.agg #[.int .i64 0, .int .i64 0, .bool false]).cells 1).toList = [.int .i64 0, .int .i64 0, .bool false] := by kernel_rfl
  simp [Builtin.clear_, run_underlying Try.underlying41, zero46, hz, hst]

theorem R46_cleared {w : World} {base b c : Nat} {ok : Nat → Prop} {xs : List S46} (h : Kd.R k46 46 w base ok (.slice (some ⟨b, 0, none⟩) xs.length c) xs) : Kd.R k46 46 (w.setCells b (xs.length * 3) [.int .i64 0, .int .i64 0, .bool false]) base ok (.slice (some ⟨b, 0, none⟩) xs.length c) xs := by
  simp only [World.setCells]
  exact R46_beyond (R46_beyond (R46_beyond h (by omega) _) (by omega) _) (by omega) _

theorem below_cells3 {w0 w : World} {b o : Nat} {x y z : Value} (h : Below w0.heap.size w0 w) (hb : w0.heap.size ≤ b) : Below w0.heap.size w0 (w.setCells b o [x, y, z]) := by
  simp only [World.setCells]
  exact below_set (below_set (below_set h hb) hb) hb
theorem kept_cells3 {w w1 : World} {b o : Nat} {x y z : Value} (h : w.drew.grownBy w1 (some b)) : Kept w (w1.setCells b o [x, y, z]) (fun q => q = b) := by
  simp only [World.setCells]
  have h1 : Kept w w1 (fun q => q = b) := Kept.of_grown (W := w.drew) h (Kept.drew (Kept.refl w _)) (fun k hk => .inl (by injection hk with hk; exact hk.symm))
  exact Kept.setCell (Kept.setCell (Kept.setCell h1 (.inl rfl) _) (.inl rfl) _) (.inl rfl) _

set_option maxHeartbeats 1000000 in
set_option maxRecDepth 100000 in
theorem delete_one (w0 w : World) (b c k : Nat) (ok : Nat → Prop) (xs : List S46) (hB : Below w0.heap.size w0 w) (hR : Kd.R k46 46 w w0.heap.size ok (.slice (some ⟨b, 0, none⟩) xs.length c) xs) (hk : k < xs.length) (hl : xs.length ≤ 1000000) :
    Calls Try.prog 25 #[.slice (some ⟨b, 0, none⟩) xs.length c, .int .i64 k, .int .i64 (k + 1)] w fun e w' => e = .returned (.slice (some ⟨b, 0, none⟩) (xs.length - 1) c) ∧ Kd.R k46 46 w' w0.heap.size ok (.slice (some ⟨b, 0, none⟩) (xs.length - 1) c) (xs.eraseIdx k) ∧ Below w0.heap.size w0 w' ∧ Kept w w' (fun q => q = b) := by
  obtain ⟨cur, hblk, hsz, hq0, hc⟩ := R46_room hR
  clear hq0
  have hbase : w0.heap.size ≤ b := Kd.R_base hR b rfl
  have hlen : (xs.eraseIdx k).length = xs.length - 1 := List.length_eraseIdx_of_lt hk
  have HLEN := Aside0.mk hlen
  clear hlen
  have hk' : (k : Int) < (xs.length : Int) := by omega
  have hne : ((k : Int) == (k : Int) + 1) = false := by simp; omega
  go_enter Try.func25, Try.ntmps25
  go_wp2
  have hR1 := Aside0.mk (Kd.R_drew hR)
  clear hR
  have hkc : k ≤ c := by omega
  have hk1 : k + 1 ≤ xs.length := hk
  have hi1 : (0 : Int) ≤ (k : Int) + 1 := by omega
  have hi2 : (k : Int) + 1 ≤ (xs.length : Int) := by omega
  have hone : xs.length - (xs.length - 1) = 1 := by omega
  by_cases hck : c = k + 1
  · have HA := Aside0.mk (show (some ⟨b, 0, none⟩ : Option Addr) = if c = k + 1 then some ⟨b, 0, none⟩ else (some (⟨b, 0, none⟩ : Addr)).map (·.add ((k + 1) * k46.sz)) by rw [if_pos hck])
    have hcq : (c = k + 1) = True := eq_true hck
    clear hck
    go_region_law (refine Kd.R_delete_step k46 (w0 := w0) w0.heap.size (by simp [Region.wanted]) (.tmp 22) (.tmp 25) 41 46 rfl Try.underlying41 info46s (g := b) (n := xs.length) (c := c) (k := k) (m := xs.length - (k + 1)) (c2 := c - (k + 1)) (A := some ⟨b, 0, none⟩) (by simp [Act.eval, Act.put]) (by simp [Act.eval, Act.put]) HA.out rfl hR1.out hk (Below.drew hB) hB.size ?_; intro w1 hRn hbn hgr)
    obtain ⟨cur1, hblk1, hsz1, hq1, hc1⟩ := R46_room hRn
    clear hq1
    have hcl := clear_one w1 b ((xs.length - 1) * 3) (c - (xs.length - 1)) cur1 hblk1 (by omega)
    have HR := Aside0.mk hRn
    clear hRn hblk1 hsz1 hblk hsz
    go_wp2
    go_ret
    have h2 : Kd.R k46 46 (w1.setCells b ((xs.length - 1) * 3) [.int .i64 0, .int .i64 0, .bool false]) w0.heap.size ok (.slice (some ⟨b, 0, none⟩) (xs.length - 1) c) (xs.eraseIdx k) := by
      have h3 := HR.out
      rw [← HLEN.out] at h3 ⊢
      exact R46_cleared h3
    exact ⟨rfl, h2, below_cells3 hbn hbase, kept_cells3 hgr⟩
  · have HA := Aside0.mk (show (some ⟨b, (k + 1) * 3, none⟩ : Option Addr) = if c = k + 1 then some ⟨b, 0, none⟩ else (some (⟨b, 0, none⟩ : Addr)).map (·.add ((k + 1) * k46.sz)) by rw [if_neg hck]; show some _ = some (Addr.add _ ((k + 1) * 3)); simp [Addr.add])
    have hcq : (c = k + 1) = False := eq_false hck
    clear hck
    go_region_law (refine Kd.R_delete_step k46 (w0 := w0) w0.heap.size (by simp [Region.wanted]) (.tmp 22) (.tmp 25) 41 46 rfl Try.underlying41 info46s (g := b) (n := xs.length) (c := c) (k := k) (m := xs.length - (k + 1)) (c2 := c - (k + 1)) (A := some ⟨b, (k + 1) * 3, none⟩) (by simp [Act.eval, Act.put]) (by simp [Act.eval, Act.put]) HA.out rfl hR1.out hk (Below.drew hB) hB.size ?_; intro w1 hRn hbn hgr)
    obtain ⟨cur1, hblk1, hsz1, hq1, hc1⟩ := R46_room hRn
    clear hq1
    have hcl := clear_one w1 b ((xs.length - 1) * 3) (c - (xs.length - 1)) cur1 hblk1 (by omega)
    have HR := Aside0.mk hRn
    clear hRn hblk1 hsz1 hblk hsz
    go_wp2
    go_ret
    have h2 : Kd.R k46 46 (w1.setCells b ((xs.length - 1) * 3) [.int .i64 0, .int .i64 0, .bool false]) w0.heap.size ok (.slice (some ⟨b, 0, none⟩) (xs.length - 1) c) (xs.eraseIdx k) := by
      have h3 := HR.out
      rw [← HLEN.out] at h3 ⊢
      exact R46_cleared h3
    exact ⟨rfl, h2, below_cells3 hbn hbase, kept_cells3 hgr⟩
end Go.Proofs.Ytfcaodnfiakdoaa.Mk
