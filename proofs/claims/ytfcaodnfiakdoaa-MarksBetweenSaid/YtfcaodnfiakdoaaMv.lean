/- Any call at both sets of marks, and any calls in a row; no condition beside the text's size. -/
import Derived.Test.YtfcaodnfiakdoaaMu
namespace Go.Proofs.Ytfcaodnfiakdoaa.Mk
open Go.RowKit Go.Proofs.YtfcaodnfiakdoaaW.PrintWords Go.Proofs.YtfcaodnfiakdoaaW.PrintLast Go.Proofs.YtfcaodnfiakdoaaW.PrintMore Go.Proofs.Ytfcaodnfiakdoaa.PMarksPlay
set_option linter.unusedVariables false
set_option linter.unusedSimpArgs false

/-- A call, as data. -/
structure S34 where
  f0 : Int
  f1 : Int
  f2 : Int
  f3 : Bool
def z34 : S34 := ⟨0, 0, 0, false⟩
def k34 : Kd S34 := Kd.iso (Kd.pair (Kd.int .i64) (Kd.pair (Kd.int .i64) (Kd.pair (Kd.int .i64) Kd.bool))) (fun x : S34 => (x.f0, x.f1, x.f2, x.f3))
theorem k34_open {w : World} {x : S34} {cs : List Value} (h : k34.K w x cs) : cs = [.int .i64 x.f0, .int .i64 x.f1, .int .i64 x.f2, .bool x.f3] := by
  obtain ⟨_, _, rfl, rfl, ⟨_, _, rfl, rfl, ⟨_, _, rfl, rfl, rfl⟩⟩⟩ := h
  exact rfl
theorem k34_mk (w : World) (x : S34) : k34.K w x [.int .i64 x.f0, .int .i64 x.f1, .int .i64 x.f2, .bool x.f3] := ⟨[.int .i64 x.f0], _, rfl, rfl, ⟨[.int .i64 x.f1], _, rfl, rfl, ⟨[.int .i64 x.f2], [.bool x.f3], rfl, rfl, rfl⟩⟩⟩
def rd_T34 (xs : List S34) (i : Int) : S34 := xs.getD i.toNat z34
theorem at_T34 {w : World} {A : Option Addr} {n : Nat} {xs : List S34} (h : Kd.C k34 w A n xs) (i : Int) (h0 : 0 ≤ i) (h1 : i < n) : ∃ ad , A = some ad ∧ w.cell? (ad.add (i.toNat * 4)) = some (.int .i64 (rd_T34 xs i).f0) ∧ w.cell? ⟨(ad.add (i.toNat * 4)).block, (ad.add (i.toNat * 4)).off + 1, none⟩ = some (.int .i64 (rd_T34 xs i).f1) ∧ w.cell? ⟨(ad.add (i.toNat * 4)).block, (ad.add (i.toNat * 4)).off + 2, none⟩ = some (.int .i64 (rd_T34 xs i).f2) ∧ w.cell? ⟨(ad.add (i.toNat * 4)).block, (ad.add (i.toNat * 4)).off + 3, none⟩ = some (.bool (rd_T34 xs i).f3) := by
  obtain ⟨ad, c, e, _, hK, hc0⟩ := Kd.C_get h z34 i h0 h1
  have hc : ∀ j u, c[j]? = some u → w.cell? (ad.add (i.toNat * 4 + j)) = some u := hc0
  obtain rfl := k34_open hK
  exact ⟨ad, e, hc 0 _ rfl, by rw [← add_field _ _ 1 (by omega)]; exact hc 1 _ rfl, by rw [← add_field _ _ 2 (by omega)]; exact hc 2 _ rfl, by rw [← add_field _ _ 3 (by omega)]; exact hc 3 _ rfl⟩

/-- What a call makes of the marks. -/
def act (s : St) (o : S34) : St :=
  if o.f0 = 0 then (put s o.f1 o.f3).1 else if o.f0 = 1 then (ins s o.f1 o.f2).1 else if o.f0 = 2 then (del s o.f1 o.f2).1 else if o.f0 = 3 then (mov s o.f1 o.f2).1 else if o.f0 = 4 then (drp s o.f1).1 else s

theorem act_good {B : Int} {s : St} (h : Good B s) (o : S34) : Good (B + 1) (act s o) := by
  unfold act
  split
  · exact put_good h _ _
  · split
    · exact (ins_good h _ _).more (by omega)
    · split
      · exact (del_good h _ _).more (by omega)
      · split
        · exact (mov_good h _ _).more (by omega)
        · split
          · exact (drp_good h _).more (by omega)
          · exact h.more (by omega)

set_option maxHeartbeats 2000000 in
set_option maxRecDepth 100000 in
theorem stepX (w0 w : World) (g : Nat) (s : St) (v : Value) (o a b : Int) (st : Bool) (hB : Below w0.heap.size w0 w) (hS : At w0 w g s) (hR : RAt w0 w v s) (h0 : o ≠ 0) (h1 : o ≠ 1) (h2 : o ≠ 2) (h3 : o ≠ 3) (h4 : o ≠ 4) :
    Calls Try.prog 16 #[.pointer (some ⟨g, 0, none⟩), .agg #[.int .i64 s.size, .int .i64 s.next, v], .agg #[.int .i64 o, .int .i64 a, .int .i64 b, .bool st]] w fun e w' => ∃ v', e = .returned (.tuple #[.agg #[.int .i64 s.size, .int .i64 s.next, v'], .bool true]) ∧ At w0 w' g s ∧ RAt w0 w' v' s ∧ Below w0.heap.size w0 w' ∧ AKept w w' := by
  obtain ⟨A, n, c, rfl⟩ := hR.form
  have HB := Aside0.mk hB
  have HS := Aside0.mk hS
  have HR := Aside0.mk hR
  have e0 : (o == 0) = false := by simpa using h0
  have e1 : (o == 1) = false := by simpa using h1
  have e2 : (o == 2) = false := by simpa using h2
  have e3 : (o == 3) = false := by simpa using h3
  have e4 : (o == 4) = false := by simpa using h4
  have hz0 := hB.size
  clear hB hS hR h0 h1 h2 h3 h4
  go_enter Try.func16, Try.ntmps16
  go_wp2
  refine bodyPost_ret (results_ct rfl _ _ (w.heap.size + 1 + 1) 38 #[.int .i64 s.size, .int .i64 s.next, .slice A n c] (0, 0) _ rfl (by simpa using heap_alloc_new ((w.alloc _).alloc _) _) Try.underlying38 rfl (by kernel_rfl)) rfl ?_
  have hBW : Below w.heap.size w (((w.alloc (.cells #[.int .i64 s.size, .int .i64 s.next, .slice A n c] 38)).alloc (.cells #[.int .i64 o, .int .i64 a, .int .i64 b, .bool st] 34)).alloc (.cells #[.int .i64 s.size, .int .i64 s.next, .slice A n c] 38)) := below_alloc (below_alloc (below_alloc (Below.refl _ _) _) _) _
  exact ⟨_, rfl, HS.out.below hBW, HR.out.below hBW, HB.out.trans (hBW.mono hz0), (AKept.refl w).below hBW⟩

theorem step_any (w0 w : World) (g : Nat) (s : St) (B : Int) (v : Value) (o : S34) (hB : Below w0.heap.size w0 w) (hS : At w0 w g s) (hR : RAt w0 w v s) (hG : Good B s) (hb : B ≤ 900000) :
    Calls Try.prog 16 #[.pointer (some ⟨g, 0, none⟩), .agg #[.int .i64 s.size, .int .i64 s.next, v], .agg #[.int .i64 o.f0, .int .i64 o.f1, .int .i64 o.f2, .bool o.f3]] w fun e w' => ∃ v', e = .returned (.tuple #[.agg #[.int .i64 (act s o).size, .int .i64 (act s o).next, v'], .bool true]) ∧ At w0 w' g (act s o) ∧ RAt w0 w' v' (act s o) ∧ Below w0.heap.size w0 w' ∧ AKept w w' := by
  obtain ⟨k, a, b, st⟩ := o
  show Calls Try.prog 16 #[_, _, .agg #[.int .i64 k, .int .i64 a, .int .i64 b, .bool st]] w _
  unfold act
  dsimp only
  by_cases h0 : k = 0
  · subst h0; rw [if_pos rfl]; exact step0 w0 w g s B v a b st hB hS hR hG hb
  · rw [if_neg h0]
    by_cases h1 : k = 1
    · subst h1; rw [if_pos rfl]; exact step1 w0 w g s B v a b st hB hS hR hG hb
    · rw [if_neg h1]
      by_cases h2 : k = 2
      · subst h2; rw [if_pos rfl]; exact step2 w0 w g s B v a b st hB hS hR hG hb
      · rw [if_neg h2]
        by_cases h3 : k = 3
        · subst h3; rw [if_pos rfl]; exact step3 w0 w g s B v a b st hB hS hR hG hb
        · rw [if_neg h3]
          by_cases h4 : k = 4
          · subst h4; rw [if_pos rfl]; exact step4 w0 w g s B v a b st hB hS hR hG hb
          · rw [if_neg h4]; exact stepX w0 w g s v k a b st hB hS hR h0 h1 h2 h3 h4

/-- Calls in a row. -/
def play (s : St) (l : List S34) : St := l.foldl act s
theorem play_good (l : List S34) : ∀ {B : Int} {s : St}, Good B s → Good (B + l.length) (play s l) := by
  induction l with
  | nil => intro B s h; simpa [play] using h
  | cons o l ih =>
    intro B s h
    have := ih (act_good h o)
    have e : B + ((o :: l).length : Int) = B + 1 + (l.length : Int) := by simp; omega
    rw [e]
    exact this
theorem play_succ (s : St) (l : List S34) (k : Nat) (hk : k < l.length) : play s (l.take (k + 1)) = act (play s (l.take k)) (rd_T34 l k) := by
  have e : rd_T34 l k = l[k] := by simp [rd_T34, hk]
  rw [e, List.take_succ_eq_append_getElem hk, play, List.foldl_append]
  rfl
def fresh (n : Int) : St := ⟨n, 0, []⟩
theorem fresh_good {n : Int} (h0 : 0 ≤ n) (h1 : n ≤ 65536) : Good 0 (fresh n) := ⟨h0, h1, by simp [fresh], by simp [fresh], by simp [fresh], by intro m hm; simp [fresh] at hm, by intro m hm; simp [fresh] at hm, by simp [fresh]⟩


/-- What is told of the calls under way, in any world on their road. -/
structure Going (w wr : World) (g : Nat) (s : St) (v : Value) : Prop where
  below : Below w.heap.size w wr
  at_ : At w wr g s
  row : RAt w wr v s
theorem Going.below' {w wr w2 : World} {g : Nat} {s : St} {v : Value} (h : Going w wr g s v) (hb : Below wr.heap.size wr w2) : Going w w2 g s v :=
  ⟨h.below.trans (hb.mono h.below.size), h.at_.below hb, h.row.below hb⟩
theorem Going.alloc {w wr : World} {g : Nat} {s : St} {v : Value} (h : Going w wr g s v) (o : Obj) : Going w (wr.alloc o) g s v := h.below' (below_alloc (Below.refl _ _) _)
theorem Going.drew {w wr : World} {g : Nat} {s : St} {v : Value} (h : Going w wr g s v) : Going w wr.drew g s v := h.below' (Below.drew (Below.refl _ _))
theorem Going.set {w wr : World} {g k j : Nat} {s : St} {v : Value} (h : Going w wr g s v) {c : Array Value} (hk : wr.heap[k]? = some (.cells c 38 (0, 0))) (hz : w.heap.size ≤ k) (u : Value) : Going w (wr.setCell ⟨k, j, none⟩ u) g s v :=
  ⟨below_set h.below hz, h.at_.set hk (by decide) (by decide) u, h.row.set hk (by decide) u⟩
theorem Going.set3 {w wr : World} {g k : Nat} {s : St} {v : Value} (h : Going w wr g s v) {c : Array Value} (hk : wr.heap[k]? = some (.cells c 38 (0, 0))) (hz : w.heap.size ≤ k) (x y z : Value) : Going w (((wr.setCell ⟨k, 0, none⟩ x).setCell ⟨k, 1, none⟩ y).setCell ⟨k, 2, none⟩ z) g s v :=
  ((h.set (j := 0) hk hz x).set (j := 1) (blk_set hk 0 x) hz y).set (j := 2) (blk_set (blk_set hk 0 x) 1 y) hz z
theorem set3_blk {wr : World} {k : Nat} {a b c : Value} (hk : wr.heap[k]? = some (.cells #[a, b, c] 38 (0, 0))) (x y z : Value) : (((wr.setCell ⟨k, 0, none⟩ x).setCell ⟨k, 1, none⟩ y).setCell ⟨k, 2, none⟩ z).heap[k]? = some (.cells #[x, y, z] 38 (0, 0)) :=
  blk_put (blk_put (blk_put hk 0 x rfl) 1 y rfl) 2 z rfl
theorem set3_far {wr : World} {k m : Nat} {o : Obj} (hm : wr.heap[m]? = some o) (hne : m ≠ k) (x y z : Value) : (((wr.setCell ⟨k, 0, none⟩ x).setCell ⟨k, 1, none⟩ y).setCell ⟨k, 2, none⟩ z).heap[m]? = some o :=
  (Below.heap_setCell _ ⟨k, 2, none⟩ z m hne).trans ((Below.heap_setCell _ ⟨k, 1, none⟩ y m hne).trans ((Below.heap_setCell _ ⟨k, 0, none⟩ x m hne).trans hm))

theorem step_going {w wr : World} {g : Nat} {s : St} {v : Value} {B : Int} (h : Going w wr g s v) (o : S34) (hG : Good B s) (hb : B ≤ 900000) :
    Calls Try.prog 16 #[.pointer (some ⟨g, 0, none⟩), .agg #[.int .i64 s.size, .int .i64 s.next, v], .agg #[.int .i64 o.f0, .int .i64 o.f1, .int .i64 o.f2, .bool o.f3]] wr fun e w' => ∃ v', e = .returned (.tuple #[.agg #[.int .i64 (act s o).size, .int .i64 (act s o).next, v'], .bool true]) ∧ Going w w' g (act s o) v' ∧ AKept wr w' := by
  refine (step_any w wr g s B v o h.below h.at_ h.row hG hb).mono ?_
  rintro e w' ⟨v', rfl, h1, h2, h3, h4⟩
  exact ⟨v', rfl, ⟨h3, h1, h2⟩, h4⟩

end Go.Proofs.Ytfcaodnfiakdoaa.Mk
