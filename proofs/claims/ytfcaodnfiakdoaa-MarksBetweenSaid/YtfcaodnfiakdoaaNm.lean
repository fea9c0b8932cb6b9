/- What Insert and Delete write: no block at N or above, where the set and its row lie below N; no condition beside the sizes that are written. (Printed by gen_nm.py out of the texts Mg, Mh, Mi.) -/
import Derived.Test.YtfcaodnfiakdoaaMs
namespace Go.Proofs.Ytfcaodnfiakdoaa.Mk
open Go.RowKit Go.Proofs.YtfcaodnfiakdoaaW.PrintWords Go.Proofs.YtfcaodnfiakdoaaW.PrintLast Go.Proofs.YtfcaodnfiakdoaaW.PrintMore Go.Proofs.Ytfcaodnfiakdoaa.PMarksPlay
set_option linter.unusedVariables false
set_option linter.unusedSimpArgs false

/-- Nothing at N or above has been written. -/
def PKept (N : Nat) (w w' : World) : Prop := ∀ k, N ≤ k → k < w.heap.size → w'.heap[k]? = w.heap[k]?
theorem PKept.refl (N : Nat) (w : World) : PKept N w w := fun _ _ _ => rfl
theorem PKept.set {N : Nat} {w W : World} (h : PKept N w W) {p : Addr} (hp : p.block < N) (u : Value) : PKept N w (W.setCell p u) := fun k hN hk => (Below.heap_setCell W p u k (by omega)).trans (h k hN hk)
/-- .. and nothing but blocks of marks and of their sets. -/
def QKept (N : Nat) (w w' : World) : Prop := MKept w w' ∧ PKept N w w'
theorem QKept.refl (N : Nat) (w : World) : QKept N w w := ⟨MKept.refl w, PKept.refl N w⟩
theorem QKept.set {N : Nat} {w W : World} (h : QKept N w W) {p : Addr} (hp : p.block < N) (ht : TyIn W 46 p.block ∨ TyIn W 61 p.block) (u : Value) : QKept N w (W.setCell p u) := ⟨MKept.set h.1 ht u, PKept.set h.2 hp u⟩
/-- A set whose block and whose row's block lie below N. -/
def SetIn (N base : Nat) (w : World) (g : Nat) (size next : Int) (xs : List S46) : Prop :=
  base ≤ g ∧ g < N ∧ ∃ v, w.heap[g]? = some (.cells #[.int .i64 size, .int .i64 next, v] 61 (0, 0)) ∧ Kd.R k46 46 w base (fun k => k ≠ g ∧ k < N) v xs
theorem SetIn.at_ {N base g : Nat} {w : World} {size next : Int} {xs : List S46} (h : SetIn N base w g size next xs) : SetAt base w g size next xs := by
  obtain ⟨h0, h1, v, h2, h3⟩ := h
  exact ⟨h0, v, h2, Kd.R_mono h3 (fun k hk => hk.1)⟩
theorem SetAt.in_ {base g : Nat} {w : World} {size next : Int} {xs : List S46} (h : SetAt base w g size next xs) : SetIn w.heap.size base w g size next xs := by
  obtain ⟨h0, v, h2, h3⟩ := h
  exact ⟨h0, blk_lt h2, v, h2, Kd.R_mono (Kd.R_bound h3) (fun k hk => ⟨hk.1, hk.2.2.1⟩)⟩
theorem SetIn.below {N base g : Nat} {w W : World} {size next : Int} {xs : List S46} (h : SetIn N base w g size next xs) (hb : Below w.heap.size w W) : SetIn N base W g size next xs := by
  obtain ⟨h0, h1, v, h2, h3⟩ := h
  exact ⟨h0, h1, v, blk_below h2 hb, Kd.R_below h3 hb⟩
theorem SetIn.open' {N base g : Nat} {w : World} {size next : Int} {xs : List S46} (h : SetIn N base w g size next xs) :
    ∃ A c, w.heap[g]? = some (.cells #[.int .i64 size, .int .i64 next, .slice A xs.length c] 61 (0, 0)) ∧ Kd.R k46 46 w base (fun k => k ≠ g ∧ k < N) (.slice A xs.length c) xs ∧ xs.length ≤ c ∧ Kd.C k46 w A xs.length xs ∧ base ≤ g ∧ g < N ∧ g < w.heap.size ∧
      w.cell? ⟨g, 0, none⟩ = some (.int .i64 size) ∧ w.cell? ⟨g, 1, none⟩ = some (.int .i64 next) ∧ w.cell? ⟨g, 2, none⟩ = some (.slice A xs.length c) ∧ w.frozen? ⟨g, 0, none⟩ = false ∧ w.frozen? ⟨g, 1, none⟩ = false ∧ w.frozen? ⟨g, 2, none⟩ = false := by
  obtain ⟨hg, hN, v, hblk, hrow⟩ := h
  obtain ⟨A, c, rfl, hc, hC⟩ := Kd.R_reads hrow
  exact ⟨A, c, hblk, hrow, hc, hC, hg, hN, blk_lt hblk, (blk_cell hblk 0).trans rfl, (blk_cell hblk 1).trans rfl, (blk_cell hblk 2).trans rfl, blk_frozen hblk 0, blk_frozen hblk 1, blk_frozen hblk 2⟩

/-- How it stands at a round's head: the set's block, its row's, the marks ahead done. -/
structure RoundN (N : Nat) (w0 w wr : World) (g b c : Nat) (size next : Int) (n : Nat) (xs : List S46) : Prop where
  below : Below w0.heap.size w0 wr
  kept : QKept N w wr
  ge : w0.heap.size ≤ g
  hb : w0.heap.size ≤ b
  ne : b ≠ g
  len : xs.length = n
  blk : wr.heap[g]? = some (.cells #[.int .i64 size, .int .i64 next, .slice (some ⟨b, 0, none⟩) n c] 61 (0, 0))
  row : Kd.R k46 46 wr w0.heap.size (fun k => k ≠ g ∧ k < N) (.slice (some ⟨b, 0, none⟩) xs.length c) xs

theorem RoundN.set {N : Nat} {w0 w wr : World} {g b c : Nat} {size next : Int} {n k : Nat} {xs : List S46} (h : RoundN N w0 w wr g b c size next n xs) (hk : k < n) (a : Int) :
    RoundN N w0 w (wr.setCell ⟨b, k * 3 + 1, none⟩ (.int .i64 a)) g b c size next n (xs.set k (moved (rd_T46 xs k) a)) where
  below := below_set h.below h.hb
  kept := by
    obtain ⟨cells, hc⟩ := Kd.R_typed h.row b rfl
    exact QKept.set h.kept (h.row.1 b rfl).2 (.inl ⟨cells, hc⟩) _
  ge := h.ge
  hb := h.hb
  ne := h.ne
  len := by rw [List.length_set]; exact h.len
  blk := blk_far (p := ⟨b, k * 3 + 1, none⟩) h.blk (fun e => h.ne e.symm) _
  row := by rw [List.length_set]; exact R46_put h.row (by rw [h.len]; exact hk) a

theorem RoundN.cells {N : Nat} {w0 w wr : World} {g b c : Nat} {size next : Int} {n k : Nat} {xs : List S46} (h : RoundN N w0 w wr g b c size next n xs) (hk : k < n) :
    wr.cell? ⟨g, 2, none⟩ = some (.slice (some ⟨b, 0, none⟩) n c) ∧ wr.cell? ⟨b, k * 3, none⟩ = some (.int .i64 (rd_T46 xs k).f0) ∧ wr.cell? ⟨b, k * 3 + 1, none⟩ = some (.int .i64 (rd_T46 xs k).f1) ∧ wr.cell? ⟨b, k * 3 + 2, none⟩ = some (.bool (rd_T46 xs k).f2) ∧ wr.frozen? ⟨b, k * 3 + 1, none⟩ = false := by
  obtain ⟨A, c', hv, hc, hC⟩ := Kd.R_reads h.row
  injection hv with e1 e2 e3
  subst e1
  obtain ⟨ad, he, hx0, hx1, hx2⟩ := at_T46 hC (k : Int) (by omega) (by have := h.len; omega)
  injection he with he
  subst he
  rw [Int.toNat_natCast, addr_add, Nat.zero_add] at hx0 hx1 hx2
  obtain ⟨cells, hcl⟩ := Kd.R_typed h.row b rfl
  exact ⟨(blk_cell h.blk 2).trans rfl, hx0, hx1, hx2, blk_frozen hcl _⟩

set_option maxHeartbeats 2000000 in
set_option maxRecDepth 100000 in
theorem Insert_yesN (N : Nat) (w0 w : World) (g : Nat) (size next at_ n : Int) (xs : List S46) (hB : Below w0.heap.size w0 w) (hS : SetIn N w0.heap.size w g size next xs) (hl : xs.length ≤ 1000000) (hF : Fine size xs) (h0 : 0 ≤ at_) (h1 : at_ ≤ size) (hs : size ≤ 65536) (hn : 0 ≤ n) (hb : n ≤ 65536 - size) :
    Calls Try.prog 19 #[.pointer (some ⟨g, 0, none⟩), .int .i64 at_, .int .i64 n] w fun e w' => e = .returned (.int .i64 0) ∧ SetIn N w0.heap.size w' g (size + n) next (xs.map (bump at_ n)) ∧ Below w0.heap.size w0 w' ∧ QKept N w w' := by
  obtain ⟨A, c, hblk, hrow, hc, hC, hg, hgN, hlt, c0, c1, c2, f0, f1, f2⟩ := hS.open'
  have HF := Aside0.mk hF
  clear hF hC hS
  have hblk1 := blk_put (cs := #[.int .i64 size, .int .i64 next, .slice A xs.length c]) hblk 0 (.int .i64 (size + n)) rfl
  have hrow1 : Kd.R k46 46 (w.setCell ⟨g, 0, none⟩ (.int .i64 (size + n))) w0.heap.size (fun k => k ≠ g ∧ k < N) (.slice A xs.length c) xs := Kd.R_far hrow (fun k hk => hk.1) _
  have hB1 : Below w0.heap.size w0 (w.setCell ⟨g, 0, none⟩ (.int .i64 (size + n))) := below_set hB hg
  have hK1 : QKept N w (w.setCell ⟨g, 0, none⟩ (.int .i64 (size + n))) := QKept.set (QKept.refl _ _) hgN (.inr ⟨_, hblk⟩) _
  have HBLK1 := Aside0.mk hblk1
  have HROW1 := Aside0.mk hrow1
  have HB1 := Aside0.mk hB1
  have HK1 := Aside0.mk hK1
  clear hblk1 hrow1 hB1 hK1 hblk hrow
  go_enter Try.func19, Try.ntmps19
  go_wp2
  rcases Nat.eq_zero_or_pos xs.length with hz | hz
  · have hx : xs = [] := List.eq_nil_of_length_eq_zero hz
    subst hx
    go_loopw [44] (fun i wr => i = .int .i64 0 ∧ wr = w.setCell ⟨g, 0, none⟩ (.int .i64 (size + n))) (fun _ _ => 0)
    case atStart => exact ⟨rfl, rfl⟩
    case round =>
      obtain ⟨rfl, rfl⟩ := hrel
      go_wp2
      go_ret
      exact ⟨rfl, ⟨hg, hgN, _, HBLK1.out, HROW1.out⟩, HB1.out, HK1.out⟩
  · obtain ⟨b, cap, hv, hbb, hbl, hty⟩ := Kd.R_form HROW1.out hz
    injection hv with hv1 hv2 hv3
    subst hv1 hv3
    clear hv2 hty hbl
    have hgb : b ≠ g := fun e => (HROW1.out.1 b rfl).1 e
    go_loopw [44] (fun i wr => ∃ k : Nat, k ≤ xs.length ∧ i = .int .i64 k ∧ Aside0 (RoundN N w0 w wr g b c (size + n) next xs.length (upTo (bump at_ n) k xs))) (fun i _ => xs.length - (intOf i).toNat)
    case atStart => exact ⟨0, Nat.zero_le _, rfl, ⟨HB1.out, HK1.out, hg, hbb, hgb, upTo_length _ _ _, HBLK1.out, by rw [upTo_zero]; exact HROW1.out⟩⟩
    case round =>
      obtain ⟨k, hk, rfl, HR⟩ := hrel
      by_cases hlt2 : k < xs.length
      · obtain ⟨r2, x0, x1, x2, xf⟩ := HR.out.cells hlt2
        rw [upTo_rd _ _ _ hlt2] at x0 x1 x2
        have hm : rd_T46 xs k ∈ xs := by
          have e : rd_T46 xs k = xs[k] := by simp [rd_T46, hlt2]
          rw [e]; exact List.getElem_mem hlt2
        have hf0 := (HF.out _ hm).1
        have hf1 := (HF.out _ hm).2
        clear hm
        by_cases q1 : at_ < (rd_T46 xs k).f1
        · have HN := Aside0.mk (HR.out.set hlt2 ((rd_T46 xs k).f1 + n))
          have HE := Aside0.mk (show upTo (bump at_ n) (k + 1) xs = (upTo (bump at_ n) k xs).set k (moved (rd_T46 (upTo (bump at_ n) k xs) k) ((rd_T46 xs k).f1 + n)) by
            rw [upTo_succ _ _ _ hlt2, upTo_rd _ _ _ hlt2]; congr 1; unfold bump; rw [if_pos (.inl q1)])
          go_wp2
          go_roundw
          case rel => exact ⟨k + 1, by omega, by go_num, ⟨by rw [HE.out]; exact HN.out⟩⟩
          case measure => simp [intOf]; omega
        · have q1' : (rd_T46 xs k).f1 ≤ at_ := by omega
          have HD := Aside0.mk (show ¬ at_ < (rd_T46 xs k).f1 from q1)
          by_cases q2 : (rd_T46 xs k).f1 = at_
          · have q2b : ((rd_T46 xs k).f1 == at_) = true := by simpa using q2
            have Q2 := Aside0.mk q2
            clear q2 q1
            cases q3 : (rd_T46 xs k).f2
            · have HN := Aside0.mk (HR.out.set hlt2 ((rd_T46 xs k).f1 + n))
              have HE := Aside0.mk (show upTo (bump at_ n) (k + 1) xs = (upTo (bump at_ n) k xs).set k (moved (rd_T46 (upTo (bump at_ n) k xs) k) ((rd_T46 xs k).f1 + n)) by
                rw [upTo_succ _ _ _ hlt2, upTo_rd _ _ _ hlt2]; congr 1; unfold bump; rw [if_pos (.inr ⟨Q2.out, q3⟩)])
              go_wp2
              go_roundw
              case rel => exact ⟨k + 1, by omega, by go_num, ⟨by rw [HE.out]; exact HN.out⟩⟩
              case measure => simp [intOf]; omega
            · have HE := Aside0.mk (upTo_same (bump at_ n) k xs hlt2 (by unfold bump; rw [if_neg (by rw [q3]; rintro (h | ⟨_, h⟩); exact HD.out h; cases h)]))
              go_wp2
              go_roundw
              case rel => exact ⟨k + 1, by omega, by go_num, ⟨by rw [HE.out]; exact HR.out⟩⟩
              case measure => simp [intOf]; omega
          · have q2b : ((rd_T46 xs k).f1 == at_) = false := by simpa using q2
            have HE := Aside0.mk (upTo_same (bump at_ n) k xs hlt2 (by unfold bump; rw [if_neg (by rintro (h | ⟨h, _⟩); exact HD.out h; exact q2 h)]))
            clear q2
            go_wp2
            go_roundw
            case rel => exact ⟨k + 1, by omega, by go_num, ⟨by rw [HE.out]; exact HR.out⟩⟩
            case measure => simp [intOf]; omega
      · have hd : decide ((k : Int) < (xs.length : Int)) = false := by simp; omega
        have hke : k = xs.length := by omega
        have HR2 := Aside0.mk (show RoundN N w0 w wr g b c (size + n) next xs.length (xs.map (bump at_ n)) by rw [← upTo_all, ← hke]; exact hke ▸ HR.out)
        clear hke
        go_wp2
        go_ret
        have hlen : (xs.map (bump at_ n)).length = xs.length := List.length_map _
        have hrow3 := HR2.out.row
        rw [hlen] at hrow3
        exact ⟨rfl, ⟨hg, hgN, _, HR2.out.blk, hrow3⟩, HR2.out.below, HR2.out.kept⟩

set_option maxHeartbeats 2000000 in
set_option maxRecDepth 100000 in
theorem Delete_yesN (N : Nat) (w0 w : World) (g : Nat) (size next frm to_ : Int) (xs : List S46) (hB : Below w0.heap.size w0 w) (hS : SetIn N w0.heap.size w g size next xs) (hl : xs.length ≤ 1000000) (hF : Fine size xs) (h0 : 0 ≤ frm) (h1 : to_ ≤ size) (h2 : frm ≤ to_) (hs : size ≤ 65536) :
    Calls Try.prog 20 #[.pointer (some ⟨g, 0, none⟩), .int .i64 frm, .int .i64 to_] w fun e w' => e = .returned (.int .i64 0) ∧ SetIn N w0.heap.size w' g (size - (to_ - frm)) next (xs.map (squeeze frm to_)) ∧ Below w0.heap.size w0 w' ∧ QKept N w w' := by
  obtain ⟨A, c, hblk, hrow, hc, hC, hg, hgN, hlt, c0, c1, c2, f0, f1, f2⟩ := hS.open'
  have HF := Aside0.mk hF
  clear hF hC hS
  have hblk1 := blk_put (cs := #[.int .i64 size, .int .i64 next, .slice A xs.length c]) hblk 0 (.int .i64 (size - (to_ - frm))) rfl
  have hrow1 : Kd.R k46 46 (w.setCell ⟨g, 0, none⟩ (.int .i64 (size - (to_ - frm)))) w0.heap.size (fun k => k ≠ g ∧ k < N) (.slice A xs.length c) xs := Kd.R_far hrow (fun k hk => hk.1) _
  have hB1 : Below w0.heap.size w0 (w.setCell ⟨g, 0, none⟩ (.int .i64 (size - (to_ - frm)))) := below_set hB hg
  have hK1 : QKept N w (w.setCell ⟨g, 0, none⟩ (.int .i64 (size - (to_ - frm)))) := QKept.set (QKept.refl _ _) hgN (.inr ⟨_, hblk⟩) _
  have HBLK1 := Aside0.mk hblk1
  have HROW1 := Aside0.mk hrow1
  have HB1 := Aside0.mk hB1
  have HK1 := Aside0.mk hK1
  clear hblk1 hrow1 hB1 hK1 hblk hrow
  go_enter Try.func20, Try.ntmps20
  go_wp2
  rcases Nat.eq_zero_or_pos xs.length with hz | hz
  · have hx : xs = [] := List.eq_nil_of_length_eq_zero hz
    subst hx
    go_loopw [39] (fun i wr => i = .int .i64 0 ∧ wr = w.setCell ⟨g, 0, none⟩ (.int .i64 (size - (to_ - frm)))) (fun _ _ => 0)
    case atStart => exact ⟨rfl, rfl⟩
    case round =>
      obtain ⟨rfl, rfl⟩ := hrel
      go_wp2
      go_ret
      exact ⟨rfl, ⟨hg, hgN, _, HBLK1.out, HROW1.out⟩, HB1.out, HK1.out⟩
  · obtain ⟨b, cap, hv, hbb, hbl, hty⟩ := Kd.R_form HROW1.out hz
    injection hv with hv1 hv2 hv3
    subst hv1 hv3
    clear hv2 hty hbl
    have hgb : b ≠ g := fun e => (HROW1.out.1 b rfl).1 e
    go_loopw [39] (fun i wr => ∃ k : Nat, k ≤ xs.length ∧ i = .int .i64 k ∧ Aside0 (RoundN N w0 w wr g b c (size - (to_ - frm)) next xs.length (upTo (squeeze frm to_) k xs))) (fun i _ => xs.length - (intOf i).toNat)
    case atStart => exact ⟨0, Nat.zero_le _, rfl, ⟨HB1.out, HK1.out, hg, hbb, hgb, upTo_length _ _ _, HBLK1.out, by rw [upTo_zero]; exact HROW1.out⟩⟩
    case round =>
      obtain ⟨k, hk, rfl, HR⟩ := hrel
      by_cases hlt2 : k < xs.length
      · obtain ⟨r2, x0, x1, x2, xf⟩ := HR.out.cells hlt2
        rw [upTo_rd _ _ _ hlt2] at x0 x1 x2
        have hm : rd_T46 xs k ∈ xs := by
          have e : rd_T46 xs k = xs[k] := by simp [rd_T46, hlt2]
          rw [e]; exact List.getElem_mem hlt2
        have hf0 := (HF.out _ hm).1
        have hf1 := (HF.out _ hm).2
        clear hm
        by_cases q1 : to_ ≤ (rd_T46 xs k).f1
        · have HN := Aside0.mk (HR.out.set hlt2 ((rd_T46 xs k).f1 - (to_ - frm)))
          have HE := Aside0.mk (show upTo (squeeze frm to_) (k + 1) xs = (upTo (squeeze frm to_) k xs).set k (moved (rd_T46 (upTo (squeeze frm to_) k xs) k) ((rd_T46 xs k).f1 - (to_ - frm))) by
            rw [upTo_succ _ _ _ hlt2, upTo_rd _ _ _ hlt2]; congr 1; unfold squeeze; rw [if_pos q1])
          go_wp2
          go_roundw
          case rel => exact ⟨k + 1, by omega, by go_num, ⟨by rw [HE.out]; exact HN.out⟩⟩
          case measure => simp [intOf]; omega
        · by_cases q2 : frm < (rd_T46 xs k).f1
          · have HN := Aside0.mk (HR.out.set hlt2 frm)
            have HE := Aside0.mk (show upTo (squeeze frm to_) (k + 1) xs = (upTo (squeeze frm to_) k xs).set k (moved (rd_T46 (upTo (squeeze frm to_) k xs) k) frm) by
              rw [upTo_succ _ _ _ hlt2, upTo_rd _ _ _ hlt2]; congr 1; unfold squeeze; rw [if_neg q1, if_pos q2])
            go_wp2
            go_roundw
            case rel => exact ⟨k + 1, by omega, by go_num, ⟨by rw [HE.out]; exact HN.out⟩⟩
            case measure => simp [intOf]; omega
          · have HE := Aside0.mk (upTo_same (squeeze frm to_) k xs hlt2 (by unfold squeeze; rw [if_neg q1, if_neg q2]))
            go_wp2
            go_roundw
            case rel => exact ⟨k + 1, by omega, by go_num, ⟨by rw [HE.out]; exact HR.out⟩⟩
            case measure => simp [intOf]; omega
      · have hd : decide ((k : Int) < (xs.length : Int)) = false := by simp; omega
        have hke : k = xs.length := by omega
        have HR2 := Aside0.mk (show RoundN N w0 w wr g b c (size - (to_ - frm)) next xs.length (xs.map (squeeze frm to_)) by rw [← upTo_all, ← hke]; exact hke ▸ HR.out)
        clear hke
        go_wp2
        go_ret
        have hlen : (xs.map (squeeze frm to_)).length = xs.length := List.length_map _
        have hrow3 := HR2.out.row
        rw [hlen] at hrow3
        exact ⟨rfl, ⟨hg, hgN, _, HR2.out.blk, hrow3⟩, HR2.out.below, HR2.out.kept⟩

end Go.Proofs.Ytfcaodnfiakdoaa.Mk
