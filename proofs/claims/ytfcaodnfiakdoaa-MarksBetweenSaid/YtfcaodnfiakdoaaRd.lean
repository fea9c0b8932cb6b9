/- The document's marks: what Insert and Delete come to; no condition beside where their arguments lie and the sizes. -/
import Derived.Test.YtfcaodnfiakdoaaMi
namespace Go.Proofs.Ytfcaodnfiakdoaa.Mk
open Go.RowKit Go.Proofs.YtfcaodnfiakdoaaW.PrintWords Go.Proofs.YtfcaodnfiakdoaaW.PrintLast Go.Proofs.YtfcaodnfiakdoaaW.PrintMore Go.Proofs.Ytfcaodnfiakdoaa.PMarksPlay
attribute [local go_sem] max2_int min2_int
set_option linter.unusedVariables false
set_option linter.unusedSimpArgs false

def movedR (m : S51) (a : Int) : S51 := ⟨m.f0, a, m.f2⟩
def bumpR (at_ n : Int) (m : S51) : S51 := if at_ < m.f1 ∨ (m.f1 = at_ ∧ m.f2 = false) then movedR m (m.f1 + n) else m
def squeezeR (frm to_ : Int) (m : S51) : S51 := if frm < m.f1 then movedR m (mx frm (m.f1 - (to_ - frm))) else m
def FineR (size : Int) (xs : List S51) : Prop := ∀ m ∈ xs, 0 ≤ m.f1 ∧ m.f1 ≤ size

theorem take_succ_rd (f : S51 → S51) (k : Nat) (xs : List S51) (hk : k < xs.length) : (xs.take (k + 1)).map f = (xs.take k).map f ++ [f (rd_T51 xs k)] := by
  have e : rd_T51 xs k = xs[k] := by simp [rd_T51, hk]
  rw [e, List.take_succ_eq_append_getElem hk, List.map_append]
  rfl

set_option maxHeartbeats 1000000 in
set_option maxRecDepth 100000 in
theorem InsertR_where (base : Nat) (w : World) (size next at_ n : Int) (v : Value) (xs : List S51) (hR : Kd.R k51 51 w base (fun _ => True) v xs) (h : at_ < 0 ∨ size < at_) :
    Calls Try.prog 30 #[.agg #[.int .i64 size, .int .i64 next, v], .int .i64 at_, .int .i64 n] w fun e w' => e = .returned (.tuple #[.agg #[.int .i64 size, .int .i64 next, v], .int .i64 30]) ∧ Below w.heap.size w w' := by
  obtain ⟨A, c, rfl, hc, hC⟩ := Kd.R_reads hR
  clear hR hC
  by_cases h0 : at_ < 0
  · clear h
    go_enter Try.func30, Try.ntmps30
    go_wp2
    refine bodyPost_ret (results_ct rfl _ _ (w.heap.size + 1) 38 #[.int .i64 size, .int .i64 next, .slice A xs.length c] (0, 0) _ rfl (by simpa using heap_alloc_new (w.alloc _) _) Try.underlying38 rfl (by kernel_rfl)) rfl ?_
    exact ⟨rfl, below_alloc (below_alloc (Below.refl _ _) _) _⟩
  · have h1 : size < at_ := by omega
    clear h
    go_enter Try.func30, Try.ntmps30
    go_wp2
    refine bodyPost_ret (results_ct rfl _ _ (w.heap.size + 1) 38 #[.int .i64 size, .int .i64 next, .slice A xs.length c] (0, 0) _ rfl (by simpa using heap_alloc_new (w.alloc _) _) Try.underlying38 rfl (by kernel_rfl)) rfl ?_
    exact ⟨rfl, below_alloc (below_alloc (Below.refl _ _) _) _⟩

set_option maxHeartbeats 1000000 in
set_option maxRecDepth 100000 in
theorem InsertR_neg (base : Nat) (w : World) (size next at_ n : Int) (v : Value) (xs : List S51) (hR : Kd.R k51 51 w base (fun _ => True) v xs) (h0 : 0 ≤ at_) (h1 : at_ ≤ size) (hn : n < 0) :
    Calls Try.prog 30 #[.agg #[.int .i64 size, .int .i64 next, v], .int .i64 at_, .int .i64 n] w fun e w' => e = .returned (.tuple #[.agg #[.int .i64 size, .int .i64 next, v], .int .i64 1]) ∧ Below w.heap.size w w' := by
  obtain ⟨A, c, rfl, hc, hC⟩ := Kd.R_reads hR
  clear hR hC
  go_enter Try.func30, Try.ntmps30
  go_wp2
  refine bodyPost_ret (results_ct rfl _ _ (w.heap.size + 1) 38 #[.int .i64 size, .int .i64 next, .slice A xs.length c] (0, 0) _ rfl (by simpa using heap_alloc_new (w.alloc _) _) Try.underlying38 rfl (by kernel_rfl)) rfl ?_
  exact ⟨rfl, below_alloc (below_alloc (Below.refl _ _) _) _⟩

set_option maxHeartbeats 1000000 in
set_option maxRecDepth 100000 in
theorem InsertR_size (base : Nat) (w : World) (size next at_ n : Int) (v : Value) (xs : List S51) (hR : Kd.R k51 51 w base (fun _ => True) v xs) (h0 : 0 ≤ at_) (h1 : at_ ≤ size) (hs : size ≤ 65536) (hn : 0 ≤ n) (hb : 65536 - size < n) :
    Calls Try.prog 30 #[.agg #[.int .i64 size, .int .i64 next, v], .int .i64 at_, .int .i64 n] w fun e w' => e = .returned (.tuple #[.agg #[.int .i64 size, .int .i64 next, v], .int .i64 31]) ∧ Below w.heap.size w w' := by
  obtain ⟨A, c, rfl, hc, hC⟩ := Kd.R_reads hR
  clear hR hC
  go_enter Try.func30, Try.ntmps30
  go_wp2
  refine bodyPost_ret (results_ct rfl _ _ (w.heap.size + 1) 38 #[.int .i64 size, .int .i64 next, .slice A xs.length c] (0, 0) _ rfl (by simpa using heap_alloc_new (w.alloc _) _) Try.underlying38 rfl (by kernel_rfl)) rfl ?_
  exact ⟨rfl, below_alloc (below_alloc (Below.refl _ _) _) _⟩

set_option maxHeartbeats 2000000 in
set_option maxRecDepth 100000 in
theorem InsertR_yes (base : Nat) (w : World) (size next at_ n : Int) (v : Value) (xs : List S51) (hR : Kd.R k51 51 w base (fun _ => True) v xs) (hl : xs.length ≤ 1000000) (hF : FineR size xs) (h0 : 0 ≤ at_) (h1 : at_ ≤ size) (hs : size ≤ 65536) (hn : 0 ≤ n) (hb : n ≤ 65536 - size) :
    Calls Try.prog 30 #[.agg #[.int .i64 size, .int .i64 next, v], .int .i64 at_, .int .i64 n] w fun e w' => ∃ v', e = .returned (.tuple #[.agg #[.int .i64 (size + n), .int .i64 next, v'], .int .i64 0]) ∧ Kd.R k51 51 w' w.heap.size (fun _ => True) v' (xs.map (bumpR at_ n)) ∧ Below w.heap.size w w' := by
  obtain ⟨A, c, rfl, hc, hC⟩ := Kd.R_reads hR
  have HF := Aside0.mk hF
  have HC := Aside0.mk hC
  clear hF hC hR
  go_enter Try.func30, Try.ntmps30
  go_wp2
  obtain ⟨W2, hW2⟩ : ∃ W2, W2 = (w.alloc (.cells #[.int .i64 size, .int .i64 next, .slice A xs.length c] 38)).alloc (.cells #[.int .i64 0, .int .i64 0, .slice none 0 0] 38) := ⟨_, rfl⟩
  have HB2 := Aside0.mk (show Below w.heap.size w W2 by rw [hW2]; exact below_alloc (below_alloc (Below.refl _ _) _) _)
  have HK3 := Aside0.mk (show W2.heap[w.heap.size]? = some (.cells #[.int .i64 size, .int .i64 next, .slice A xs.length c] 38 (0, 0)) by rw [hW2]; exact blk_alloc (by simpa using heap_alloc_new w _) _)
  have HK6 := Aside0.mk (show W2.heap[w.heap.size + 1]? = some (.cells #[.int .i64 0, .int .i64 0, .slice none 0 0] 38 (0, 0)) by rw [hW2]; simpa using heap_alloc_new (w.alloc _) _)
  rw [← hW2]
  clear hW2
  generalize hz : w.heap.size + 1 = z6 at *
  generalize hy : w.heap.size = z3 at *
  have HZ := Aside0.mk hz
  have HY := Aside0.mk hy
  clear hz hy
  go_loopw [8, 9] (fun u i wr => ∃ k : Nat, k ≤ xs.length ∧ i = .int .i64 k ∧ Aside0 (Below W2.heap.size W2 wr) ∧ Aside0 (Kd.R k51 51 wr W2.heap.size (fun _ => True) u ((xs.take k).map (bumpR at_ n)))) (fun _ i _ => xs.length - (intOf i).toNat)
  case atStart => exact ⟨0, Nat.zero_le _, rfl, ⟨Below.refl _ _⟩, ⟨Kd.R_nil _ _ _ _ _⟩⟩
  case round =>
    obtain ⟨k, hk, rfl, HB, HR⟩ := hrel
    have hk3 := blk_below HK3.out (HB.out.mono (Nat.le_refl _))
    have hk6 := blk_below HK6.out (HB.out.mono (Nat.le_refl _))
    have s0 : wr.cell? ⟨z3, 0, none⟩ = some (.int .i64 size) := (blk_cell hk3 0).trans rfl
    have s1 : wr.cell? ⟨z3, 1, none⟩ = some (.int .i64 next) := (blk_cell hk3 1).trans rfl
    have s2 : wr.cell? ⟨z3, 2, none⟩ = some (.slice A xs.length c) := (blk_cell hk3 2).trans rfl
    have hz3 : z3 < wr.heap.size := blk_lt hk3
    have hle := HB.out.size
    clear hk3
    by_cases hlt2 : k < xs.length
    · clear hk6
      obtain ⟨ad, he, hx0, hx1, hx2⟩ := at_T51 (Kd.C_below (Kd.C_below HC.out (by rw [HY.out]; exact HB2.out)) HB.out) (k : Int) (by omega) (by omega)
      subst he
      rw [Int.toNat_natCast] at hx0 hx1 hx2
      have hm : rd_T51 xs k ∈ xs := by
        have e : rd_T51 xs k = xs[k] := by simp [rd_T51, hlt2]
        rw [e]; exact List.getElem_mem hlt2
      have hf0 := (HF.out _ hm).1
      have hf1 := (HF.out _ hm).2
      have hlen : ((xs.take k).map (bumpR at_ n)).length ≤ 1000000 := by simp; omega
      have HLEN := Aside0.mk hlen
      clear hm hlen
      by_cases q1 : at_ < (rd_T51 xs k).f1
      · skip
        have HE := Aside0.mk (show (xs.take (k + 1)).map (bumpR at_ n) = (xs.take k).map (bumpR at_ n) ++ [⟨(rd_T51 xs k).f0, (rd_T51 xs k).f1 + n, (rd_T51 xs k).f2⟩] by
          rw [take_succ_rd _ _ _ hlt2]; congr 2; unfold bumpR; rw [if_pos (.inl q1)]; rfl)
        go_wp2_with (at_builtin; refine Kd.R_append k51 (w0 := W2) W2.heap.size rfl (.tmp 61) (.tmp 63) 36 51 _ 24 rfl Try.underlying36 info51 rfl (by decide) (by decide) u8 ((xs.take k).map (bumpR at_ n)) ⟨(rd_T51 xs k).f0, (rd_T51 xs k).f1 + n, (rd_T51 xs k).f2⟩ _ (fun _ => True) (fun _ => False) rfl (by simp [Act.eval]) (k51_mkM _ _ _ _) (fun _ h => h.elim) (fun _ _ => trivial) (Kd.R_alloc HR.out _) (below_alloc HB.out _) (by simp; omega) (by have := HLEN.out; omega) ?_; intro v1 w1 hR1 hB1 _ _; have HR1 := Aside0.mk hR1; have HB1 := Aside0.mk hB1; clear hR1 hB1)
        go_roundw
        case rel => exact ⟨k + 1, by omega, by go_num, HB1, ⟨by rw [HE.out]; exact HR1.out⟩⟩
        case measure => simp [intOf]; omega
      · have q1' : (rd_T51 xs k).f1 ≤ at_ := by omega
        have HD := Aside0.mk (show ¬ at_ < (rd_T51 xs k).f1 from q1)
        by_cases q2 : (rd_T51 xs k).f1 = at_
        · have q2b : ((rd_T51 xs k).f1 == at_) = true := by simpa using q2
          have Q2 := Aside0.mk q2
          clear q2 q1
          cases q3 : (rd_T51 xs k).f2
          · have Q3 := Aside0.mk q3
            have HE := Aside0.mk (show (xs.take (k + 1)).map (bumpR at_ n) = (xs.take k).map (bumpR at_ n) ++ [⟨(rd_T51 xs k).f0, (rd_T51 xs k).f1 + n, false⟩] by
              rw [take_succ_rd _ _ _ hlt2]; congr 2; unfold bumpR; rw [if_pos (.inr ⟨Q2.out, Q3.out⟩)]; simp [movedR, Q3.out])
            go_wp2_with (at_builtin; refine Kd.R_append k51 (w0 := W2) W2.heap.size rfl (.tmp 61) (.tmp 63) 36 51 _ 24 rfl Try.underlying36 info51 rfl (by decide) (by decide) u8 ((xs.take k).map (bumpR at_ n)) ⟨(rd_T51 xs k).f0, (rd_T51 xs k).f1 + n, false⟩ _ (fun _ => True) (fun _ => False) rfl (by simp [Act.eval]) (k51_mkM _ _ _ _) (fun _ h => h.elim) (fun _ _ => trivial) (Kd.R_alloc HR.out _) (below_alloc HB.out _) (by simp; omega) (by have := HLEN.out; omega) ?_; intro v1 w1 hR1 hB1 _ _; have HR1 := Aside0.mk hR1; have HB1 := Aside0.mk hB1; clear hR1 hB1)
            go_roundw
            case rel => exact ⟨k + 1, by omega, by go_num, HB1, ⟨by rw [HE.out]; exact HR1.out⟩⟩
            case measure => simp [intOf]; omega
          · have Q3 := Aside0.mk q3
            have HE := Aside0.mk (show (xs.take (k + 1)).map (bumpR at_ n) = (xs.take k).map (bumpR at_ n) ++ [⟨(rd_T51 xs k).f0, (rd_T51 xs k).f1, true⟩] by
              rw [take_succ_rd _ _ _ hlt2]; congr 2; unfold bumpR; rw [if_neg (by rw [Q3.out]; rintro (h | ⟨_, h⟩); exact HD.out h; cases h)]; rw [← Q3.out])
            go_wp2_with (at_builtin; refine Kd.R_append k51 (w0 := W2) W2.heap.size rfl (.tmp 61) (.tmp 63) 36 51 _ 24 rfl Try.underlying36 info51 rfl (by decide) (by decide) u8 ((xs.take k).map (bumpR at_ n)) ⟨(rd_T51 xs k).f0, (rd_T51 xs k).f1, true⟩ _ (fun _ => True) (fun _ => False) rfl (by simp [Act.eval]) (k51_mkM _ _ _ _) (fun _ h => h.elim) (fun _ _ => trivial) (Kd.R_alloc HR.out _) (below_alloc HB.out _) (by simp; omega) (by have := HLEN.out; omega) ?_; intro v1 w1 hR1 hB1 _ _; have HR1 := Aside0.mk hR1; have HB1 := Aside0.mk hB1; clear hR1 hB1)
            go_roundw
            case rel => exact ⟨k + 1, by omega, by go_num, HB1, ⟨by rw [HE.out]; exact HR1.out⟩⟩
            case measure => simp [intOf]; omega
        · have q2b : ((rd_T51 xs k).f1 == at_) = false := by simpa using q2
          have Q2 := Aside0.mk q2
          clear q2
          have HE := Aside0.mk (show (xs.take (k + 1)).map (bumpR at_ n) = (xs.take k).map (bumpR at_ n) ++ [⟨(rd_T51 xs k).f0, (rd_T51 xs k).f1, (rd_T51 xs k).f2⟩] by
            rw [take_succ_rd _ _ _ hlt2]; congr 2; unfold bumpR; rw [if_neg (by rintro (h | ⟨h, _⟩); exact HD.out h; exact Q2.out h)])
          go_wp2_with (at_builtin; refine Kd.R_append k51 (w0 := W2) W2.heap.size rfl (.tmp 61) (.tmp 63) 36 51 _ 24 rfl Try.underlying36 info51 rfl (by decide) (by decide) u8 ((xs.take k).map (bumpR at_ n)) ⟨(rd_T51 xs k).f0, (rd_T51 xs k).f1, (rd_T51 xs k).f2⟩ _ (fun _ => True) (fun _ => False) rfl (by simp [Act.eval]) (k51_mkM _ _ _ _) (fun _ h => h.elim) (fun _ _ => trivial) (Kd.R_alloc HR.out _) (below_alloc HB.out _) (by simp; omega) (by have := HLEN.out; omega) ?_; intro v1 w1 hR1 hB1 _ _; have HR1 := Aside0.mk hR1; have HB1 := Aside0.mk hB1; clear hR1 hB1)
          go_roundw
          case rel => exact ⟨k + 1, by omega, by go_num, HB1, ⟨by rw [HE.out]; exact HR1.out⟩⟩
          case measure => simp [intOf]; omega
    · have hd : decide ((k : Int) < (xs.length : Int)) = false := by simp; omega
      have hke : k = xs.length := by omega
      have HR2 := Aside0.mk (show Kd.R k51 51 wr W2.heap.size (fun _ => True) u8 (xs.map (bumpR at_ n)) by have h := HR.out; rw [hke, List.take_length] at h; exact h)
      clear hke
      have t0 : wr.cell? ⟨z6, 0, none⟩ = some (.int .i64 0) := (blk_cell hk6 0).trans rfl
      have t1 : wr.cell? ⟨z6, 1, none⟩ = some (.int .i64 0) := (blk_cell hk6 1).trans rfl
      have t2 : wr.cell? ⟨z6, 2, none⟩ = some (.slice none 0 0) := (blk_cell hk6 2).trans rfl
      have g0 := blk_frozen hk6 0
      have g1 := blk_frozen hk6 1
      have g2 := blk_frozen hk6 2
      have HK := Aside0.mk hk6
      obtain ⟨A8, c8, hu⟩ := Kd.R_slice HR2.out
      have HU := Aside0.mk hu
      clear hk6 hu
      have hcells : (u8.cells).toList = [u8] ∧ u8.oneCell' = true := by rw [HU.out]; exact ⟨rfl, rfl⟩
      generalize hlm : (xs.map (bumpR at_ n)).length = lm at *
      have HLM := Aside0.mk hlm
      clear hlm
      obtain rfl := HU.out
      clear hcells
      go_wp2
      refine bodyPost_ret (results_ct rfl _ _ z6 38 #[.int .i64 (size + n), .int .i64 next, .slice A8 lm c8] (0, 0) _ rfl (by refine blk_put (cs := #[.int .i64 (size + n), .int .i64 next, .slice none 0 0]) ?_ 2 _ rfl; refine blk_put (cs := #[.int .i64 (size + n), .int .i64 0, .slice none 0 0]) ?_ 1 _ rfl; refine blk_put (cs := #[.int .i64 0, .int .i64 0, .slice none 0 0]) ?_ 0 _ rfl; exact HK.out) Try.underlying38 rfl (by kernel_rfl)) rfl ?_
      have hBw0 : Below z3 w wr := HB2.out.trans (HB.out.mono (by have := HB2.out.size; rw [HY.out] at this; exact this))
      have hBw : Below w.heap.size w wr := by rw [HY.out]; exact hBw0
      have hz6 : w.heap.size ≤ z6 := by have := HZ.out; have := HY.out; omega
      have hBe := below_set (below_set (below_set (v := .int .i64 (size + n)) (j := 0) hBw hz6) (v := .int .i64 next) (j := 1) hz6) (v := .slice A8 lm c8) (j := 2) hz6
      refine ⟨_, rfl, ?_, hBe⟩
      have h9 := Kd.R_lower HR2.out (show z3 ≤ W2.heap.size by have := HB2.out.size; rw [HY.out] at this; exact this)
      rw [← HY.out] at h9
      have h10 : Kd.R k51 51 wr w.heap.size (fun q => q ≠ z6) (.slice A8 lm c8) (xs.map (bumpR at_ n)) := Kd.R_mono (Kd.R_types h9 HK.out (by decide)) (fun _ hq => hq.2)
      exact Kd.R_mono (Kd.R_far (p := ⟨z6, 2, none⟩) (Kd.R_far (p := ⟨z6, 1, none⟩) (Kd.R_far (p := ⟨z6, 0, none⟩) h10 (fun _ hq => hq) _) (fun _ hq => hq) _) (fun _ hq => hq) _) (fun _ _ => trivial)

set_option maxHeartbeats 1000000 in
set_option maxRecDepth 100000 in
theorem DeleteR_no (base : Nat) (w : World) (size next frm to_ : Int) (v : Value) (xs : List S51) (hR : Kd.R k51 51 w base (fun _ => True) v xs) (h : frm < 0 ∨ size < to_ ∨ to_ < frm) :
    Calls Try.prog 31 #[.agg #[.int .i64 size, .int .i64 next, v], .int .i64 frm, .int .i64 to_] w fun e w' => e = .returned (.tuple #[.agg #[.int .i64 size, .int .i64 next, v], .int .i64 30]) ∧ Below w.heap.size w w' := by
  obtain ⟨A, c, rfl, hc, hC⟩ := Kd.R_reads hR
  clear hR hC
  by_cases h0 : frm < 0
  · clear h
    go_enter Try.func31, Try.ntmps31
    go_wp2
    refine bodyPost_ret (results_ct rfl _ _ (w.heap.size + 1) 38 #[.int .i64 size, .int .i64 next, .slice A xs.length c] (0, 0) _ rfl (by simpa using heap_alloc_new (w.alloc _) _) Try.underlying38 rfl (by kernel_rfl)) rfl ?_
    exact ⟨rfl, below_alloc (below_alloc (Below.refl _ _) _) _⟩
  · by_cases h1 : size < to_
    · clear h
      go_enter Try.func31, Try.ntmps31
      go_wp2
      refine bodyPost_ret (results_ct rfl _ _ (w.heap.size + 1) 38 #[.int .i64 size, .int .i64 next, .slice A xs.length c] (0, 0) _ rfl (by simpa using heap_alloc_new (w.alloc _) _) Try.underlying38 rfl (by kernel_rfl)) rfl ?_
      exact ⟨rfl, below_alloc (below_alloc (Below.refl _ _) _) _⟩
    · have h2 : to_ < frm := by omega
      clear h
      go_enter Try.func31, Try.ntmps31
      go_wp2
      refine bodyPost_ret (results_ct rfl _ _ (w.heap.size + 1) 38 #[.int .i64 size, .int .i64 next, .slice A xs.length c] (0, 0) _ rfl (by simpa using heap_alloc_new (w.alloc _) _) Try.underlying38 rfl (by kernel_rfl)) rfl ?_
      exact ⟨rfl, below_alloc (below_alloc (Below.refl _ _) _) _⟩

set_option maxHeartbeats 2000000 in
set_option maxRecDepth 100000 in
theorem DeleteR_yes (base : Nat) (w : World) (size next frm to_ : Int) (v : Value) (xs : List S51) (hR : Kd.R k51 51 w base (fun _ => True) v xs) (hl : xs.length ≤ 1000000) (hF : FineR size xs) (h0 : 0 ≤ frm) (h1 : to_ ≤ size) (h2 : frm ≤ to_) (hs : size ≤ 65536) :
    Calls Try.prog 31 #[.agg #[.int .i64 size, .int .i64 next, v], .int .i64 frm, .int .i64 to_] w fun e w' => ∃ v', e = .returned (.tuple #[.agg #[.int .i64 (size - (to_ - frm)), .int .i64 next, v'], .int .i64 0]) ∧ Kd.R k51 51 w' w.heap.size (fun _ => True) v' (xs.map (squeezeR frm to_)) ∧ Below w.heap.size w w' := by
  obtain ⟨A, c, rfl, hc, hC⟩ := Kd.R_reads hR
  have HF := Aside0.mk hF
  have HC := Aside0.mk hC
  clear hF hC hR
  go_enter Try.func31, Try.ntmps31
  go_wp2
  obtain ⟨W2, hW2⟩ : ∃ W2, W2 = (w.alloc (.cells #[.int .i64 size, .int .i64 next, .slice A xs.length c] 38)).alloc (.cells #[.int .i64 0, .int .i64 0, .slice none 0 0] 38) := ⟨_, rfl⟩
  have HB2 := Aside0.mk (show Below w.heap.size w W2 by rw [hW2]; exact below_alloc (below_alloc (Below.refl _ _) _) _)
  have HK3 := Aside0.mk (show W2.heap[w.heap.size]? = some (.cells #[.int .i64 size, .int .i64 next, .slice A xs.length c] 38 (0, 0)) by rw [hW2]; exact blk_alloc (by simpa using heap_alloc_new w _) _)
  have HK6 := Aside0.mk (show W2.heap[w.heap.size + 1]? = some (.cells #[.int .i64 0, .int .i64 0, .slice none 0 0] 38 (0, 0)) by rw [hW2]; simpa using heap_alloc_new (w.alloc _) _)
  rw [← hW2]
  clear hW2
  generalize hz : w.heap.size + 1 = z6 at *
  generalize hy : w.heap.size = z3 at *
  have HZ := Aside0.mk hz
  have HY := Aside0.mk hy
  clear hz hy
  go_loopw [8, 9] (fun u i wr => ∃ k : Nat, k ≤ xs.length ∧ i = .int .i64 k ∧ Aside0 (Below W2.heap.size W2 wr) ∧ Aside0 (Kd.R k51 51 wr W2.heap.size (fun _ => True) u ((xs.take k).map (squeezeR frm to_)))) (fun _ i _ => xs.length - (intOf i).toNat)
  case atStart => exact ⟨0, Nat.zero_le _, rfl, ⟨Below.refl _ _⟩, ⟨Kd.R_nil _ _ _ _ _⟩⟩
  case round =>
    obtain ⟨k, hk, rfl, HB, HR⟩ := hrel
    have hk3 := blk_below HK3.out (HB.out.mono (Nat.le_refl _))
    have hk6 := blk_below HK6.out (HB.out.mono (Nat.le_refl _))
    have s0 : wr.cell? ⟨z3, 0, none⟩ = some (.int .i64 size) := (blk_cell hk3 0).trans rfl
    have s1 : wr.cell? ⟨z3, 1, none⟩ = some (.int .i64 next) := (blk_cell hk3 1).trans rfl
    have s2 : wr.cell? ⟨z3, 2, none⟩ = some (.slice A xs.length c) := (blk_cell hk3 2).trans rfl
    have hz3 : z3 < wr.heap.size := blk_lt hk3
    have hle := HB.out.size
    clear hk3
    by_cases hlt2 : k < xs.length
    · clear hk6
      obtain ⟨ad, he, hx0, hx1, hx2⟩ := at_T51 (Kd.C_below (Kd.C_below HC.out (by rw [HY.out]; exact HB2.out)) HB.out) (k : Int) (by omega) (by omega)
      subst he
      rw [Int.toNat_natCast] at hx0 hx1 hx2
      have hm : rd_T51 xs k ∈ xs := by
        have e : rd_T51 xs k = xs[k] := by simp [rd_T51, hlt2]
        rw [e]; exact List.getElem_mem hlt2
      have hf0 := (HF.out _ hm).1
      have hf1 := (HF.out _ hm).2
      have hlen : ((xs.take k).map (squeezeR frm to_)).length ≤ 1000000 := by simp; omega
      have HLEN := Aside0.mk hlen
      clear hm hlen
      by_cases q1 : frm < (rd_T51 xs k).f1
      · skip
        have HE := Aside0.mk (show (xs.take (k + 1)).map (squeezeR frm to_) = (xs.take k).map (squeezeR frm to_) ++ [⟨(rd_T51 xs k).f0, mx frm ((rd_T51 xs k).f1 - (to_ - frm)), (rd_T51 xs k).f2⟩] by
          rw [take_succ_rd _ _ _ hlt2]; congr 2; unfold squeezeR; rw [if_pos q1]; rfl)
        go_wp2_with (at_builtin; refine Kd.R_append k51 (w0 := W2) W2.heap.size rfl (.tmp 50) (.tmp 52) 36 51 _ 24 rfl Try.underlying36 info51 rfl (by decide) (by decide) u8 ((xs.take k).map (squeezeR frm to_)) ⟨(rd_T51 xs k).f0, mx frm ((rd_T51 xs k).f1 - (to_ - frm)), (rd_T51 xs k).f2⟩ _ (fun _ => True) (fun _ => False) rfl (by simp [Act.eval]) (k51_mkM _ _ _ _) (fun _ h => h.elim) (fun _ _ => trivial) (Kd.R_alloc HR.out _) (below_alloc HB.out _) (by simp; omega) (by have := HLEN.out; omega) ?_; intro v1 w1 hR1 hB1 _ _; have HR1 := Aside0.mk hR1; have HB1 := Aside0.mk hB1; clear hR1 hB1)
        go_roundw
        case rel => exact ⟨k + 1, by omega, by go_num, HB1, ⟨by rw [HE.out]; exact HR1.out⟩⟩
        case measure => simp [intOf]; omega
      · skip
        have HE := Aside0.mk (show (xs.take (k + 1)).map (squeezeR frm to_) = (xs.take k).map (squeezeR frm to_) ++ [⟨(rd_T51 xs k).f0, (rd_T51 xs k).f1, (rd_T51 xs k).f2⟩] by
          rw [take_succ_rd _ _ _ hlt2]; congr 2; unfold squeezeR; rw [if_neg q1])
        go_wp2_with (at_builtin; refine Kd.R_append k51 (w0 := W2) W2.heap.size rfl (.tmp 50) (.tmp 52) 36 51 _ 24 rfl Try.underlying36 info51 rfl (by decide) (by decide) u8 ((xs.take k).map (squeezeR frm to_)) ⟨(rd_T51 xs k).f0, (rd_T51 xs k).f1, (rd_T51 xs k).f2⟩ _ (fun _ => True) (fun _ => False) rfl (by simp [Act.eval]) (k51_mkM _ _ _ _) (fun _ h => h.elim) (fun _ _ => trivial) (Kd.R_alloc HR.out _) (below_alloc HB.out _) (by simp; omega) (by have := HLEN.out; omega) ?_; intro v1 w1 hR1 hB1 _ _; have HR1 := Aside0.mk hR1; have HB1 := Aside0.mk hB1; clear hR1 hB1)
        go_roundw
        case rel => exact ⟨k + 1, by omega, by go_num, HB1, ⟨by rw [HE.out]; exact HR1.out⟩⟩
        case measure => simp [intOf]; omega
    · have hd : decide ((k : Int) < (xs.length : Int)) = false := by simp; omega
      have hke : k = xs.length := by omega
      have HR2 := Aside0.mk (show Kd.R k51 51 wr W2.heap.size (fun _ => True) u8 (xs.map (squeezeR frm to_)) by have h := HR.out; rw [hke, List.take_length] at h; exact h)
      clear hke
      have t0 : wr.cell? ⟨z6, 0, none⟩ = some (.int .i64 0) := (blk_cell hk6 0).trans rfl
      have t1 : wr.cell? ⟨z6, 1, none⟩ = some (.int .i64 0) := (blk_cell hk6 1).trans rfl
      have t2 : wr.cell? ⟨z6, 2, none⟩ = some (.slice none 0 0) := (blk_cell hk6 2).trans rfl
      have g0 := blk_frozen hk6 0
      have g1 := blk_frozen hk6 1
      have g2 := blk_frozen hk6 2
      have HK := Aside0.mk hk6
      obtain ⟨A8, c8, hu⟩ := Kd.R_slice HR2.out
      have HU := Aside0.mk hu
      clear hk6 hu
      have hcells : (u8.cells).toList = [u8] ∧ u8.oneCell' = true := by rw [HU.out]; exact ⟨rfl, rfl⟩
      generalize hlm : (xs.map (squeezeR frm to_)).length = lm at *
      have HLM := Aside0.mk hlm
      clear hlm
      obtain rfl := HU.out
      clear hcells
      go_wp2
      refine bodyPost_ret (results_ct rfl _ _ z6 38 #[.int .i64 (size - (to_ - frm)), .int .i64 next, .slice A8 lm c8] (0, 0) _ rfl (by refine blk_put (cs := #[.int .i64 (size - (to_ - frm)), .int .i64 next, .slice none 0 0]) ?_ 2 _ rfl; refine blk_put (cs := #[.int .i64 (size - (to_ - frm)), .int .i64 0, .slice none 0 0]) ?_ 1 _ rfl; refine blk_put (cs := #[.int .i64 0, .int .i64 0, .slice none 0 0]) ?_ 0 _ rfl; exact HK.out) Try.underlying38 rfl (by kernel_rfl)) rfl ?_
      have hBw0 : Below z3 w wr := HB2.out.trans (HB.out.mono (by have := HB2.out.size; rw [HY.out] at this; exact this))
      have hBw : Below w.heap.size w wr := by rw [HY.out]; exact hBw0
      have hz6 : w.heap.size ≤ z6 := by have := HZ.out; have := HY.out; omega
      have hBe := below_set (below_set (below_set (v := .int .i64 (size - (to_ - frm))) (j := 0) hBw hz6) (v := .int .i64 next) (j := 1) hz6) (v := .slice A8 lm c8) (j := 2) hz6
      refine ⟨_, rfl, ?_, hBe⟩
      have h9 := Kd.R_lower HR2.out (show z3 ≤ W2.heap.size by have := HB2.out.size; rw [HY.out] at this; exact this)
      rw [← HY.out] at h9
      have h10 : Kd.R k51 51 wr w.heap.size (fun q => q ≠ z6) (.slice A8 lm c8) (xs.map (squeezeR frm to_)) := Kd.R_mono (Kd.R_types h9 HK.out (by decide)) (fun _ hq => hq.2)
      exact Kd.R_mono (Kd.R_far (p := ⟨z6, 2, none⟩) (Kd.R_far (p := ⟨z6, 1, none⟩) (Kd.R_far (p := ⟨z6, 0, none⟩) h10 (fun _ hq => hq) _) (fun _ hq => hq) _) (fun _ hq => hq) _) (fun _ _ => trivial)

end Go.Proofs.Ytfcaodnfiakdoaa.Mk
