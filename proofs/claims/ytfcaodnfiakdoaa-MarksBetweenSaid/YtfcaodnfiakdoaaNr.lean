/- How a list of calls that comes in as an argument reads, and how long it may be; no condition beside the row's own. -/
import Derived.Test.YtfcaodnfiakdoaaMx
import Derived.WalkKit
import Derived.ProofKit
import Derived.OpenShut
import Derived.ChangeOld
import Derived.Below
import Derived.SizedLaws
import Derived.Deep.Slices
import Derived.Lib.SmallJoins
namespace Go.Proofs.Ytfcaodnfiakdoaa.Mk
open Go.ChangeShapes Go.WideShapes Go.ChangeAt Go.RowKit Go.Deep Go.Proofs.YtfcaodnfiakdoaaW.PrintWords Go.Proofs.YtfcaodnfiakdoaaW.PrintLast Go.Proofs.YtfcaodnfiakdoaaW.PrintMore
set_option linter.unusedVariables false
set_option linter.unusedSimpArgs false

theorem laidOut : laidOutB Try.prog = true := by kernel_rfl
theorem cells34 : Try.prog.cellsOf 34 = 4 := by kernel_rfl
theorem cells3 : Try.prog.cellsOf 3 = 1 := by kernel_rfl
theorem cells4 : Try.prog.cellsOf 4 = 1 := by kernel_rfl
theorem bytes34 : Try.prog.bytesOf 34 = 32 := by kernel_rfl

theorem open_call {H : Type} {enc : TypeId × Value → H} {W : World} {spare : Nat → Bool} {held : Bool} {fuel : Nat} {cs : List Value} {x : DataW H × List MemPlace} (h : DataW.trod enc Try.prog W 0 spare held fuel 34 cs = some x) (hl : cs.length = 4) :
    ∃ o : S34, cs = [.int .i64 o.f0, .int .i64 o.f1, .int .i64 o.f2, .bool o.f3] := by
  obtain ⟨c0, c1, c2, c3, rfl⟩ : ∃ c0 c1 c2 c3, cs = [c0, c1, c2, c3] := by
    match cs, hl with
    | [c0, c1, c2, c3], _ => exact ⟨c0, c1, c2, c3, rfl⟩
  obtain ⟨y0, y1, y2, y3, n, _, _, h0, h1, h2, h3⟩ := Go.Joins.trod_struct4 Try.underlying34 h
  obtain ⟨x0, e0, _⟩ := DataW.trod_int Try.underlying3 h0
  obtain ⟨x1, e1, _⟩ := DataW.trod_int Try.underlying3 h1
  obtain ⟨x2, e2, _⟩ := DataW.trod_int Try.underlying3 h2
  obtain ⟨x3, e3, _⟩ := DataW.trod_bool Try.underlying4 h3
  simp [cells3, cells4] at e0 e1 e2 e3
  subst e0 e1 e2 e3
  exact ⟨⟨x0, x1, x2, x3⟩, rfl⟩

theorem open_calls {H : Type} {enc : TypeId × Value → H} {W : World} {a : Option Addr} {len cap : Nat} {d : DataW H} {ps : List MemPlace} (h : DataW.Trod enc Try.prog W 0 (fun _ => true) true 32 (.slice a len cap) d ps) :
    ∃ l : List S34, l.length = len ∧ Kd.C k34 W a len l := by
  obtain ⟨fuel, hf⟩ := h
  rcases open_slice Try.underlying32 hf with ⟨hcs, hx⟩ | ⟨x, len', cap', m, n, D, Pl, hcs, _, hl, hm, hmm, hx, hel⟩
  · simp [Value.cells] at hcs
    obtain ⟨rfl, rfl, rfl⟩ := hcs
    exact ⟨[], rfl, rfl, Nat.zero_le _, fun h => absurd h (Nat.lt_irrefl _)⟩
  · simp [Value.cells] at hcs
    obtain ⟨rfl, rfl, rfl⟩ := hcs
    have hlm : len ≤ m := by rw [hmm]; split <;> omega
    have hall : ∀ i, i < len → ∃ o : S34, ∀ j u, [Value.int .i64 o.f0, .int .i64 o.f1, .int .i64 o.f2, .bool o.f3][j]? = some u → W.cell? (x.add (i * 4 + j)) = some u := fun i hi => by
      obtain ⟨cs', hc0, ht0⟩ := hel i (by omega)
      rw [cells34] at hc0
      obtain ⟨_, hl3, hcell⟩ := World.cells?_some hc0
      obtain ⟨o, rfl⟩ := open_call ht0 hl3
      refine ⟨o, fun j u hu => ?_⟩
      have hj : j < 4 := (List.getElem?_eq_some_iff.1 hu).1
      have h1 := hcell j hj
      rw [Go.Deep.add_add] at h1
      exact h1.trans hu
    obtain ⟨f, hf⟩ : ∃ f : Nat → S34, ∀ i, i < len → ∀ j u, [Value.int .i64 (f i).f0, .int .i64 (f i).f1, .int .i64 (f i).f2, .bool (f i).f3][j]? = some u → W.cell? (x.add (i * 4 + j)) = some u := by
      haveI : Inhabited S34 := ⟨z34⟩
      exact choose_lt (p := fun i (o : S34) => ∀ j u, [Value.int .i64 o.f0, .int .i64 o.f1, .int .i64 o.f2, .bool o.f3][j]? = some u → W.cell? (x.add (i * 4 + j)) = some u) hall
    refine ⟨(List.range len).map f, by simp, by simp, by unfold maxLen at hm; omega, fun _ => ⟨x, rfl, fun j p hj => ?_⟩⟩
    have hj' : j < len := by have := (List.getElem?_eq_some_iff.1 hj).1; simpa using this
    have hp : p = f j := by simpa [hj'] using hj.symm
    subst hp
    exact ⟨_, rfl, k34_mk _ _, fun i u hu => hf j hj' i u hu⟩

theorem calls_few {H : Type} {enc : TypeId × Value → H} {W : World} {a : Option Addr} {len cap : Nat} {d : DataW H} {ps : List MemPlace} {ts : List TypeId} {ds : List (DataW H)} {j : Nat} (hsz : (DataW.weightsEach Try.prog ts ds).all (· ≤ reachBytes) = true) (ht : ts[j]? = some 32) (hd : ds[j]? = some d) (h : DataW.Trod enc Try.prog W 0 (fun _ => true) true 32 (.slice a len cap) d ps) : len ≤ 140737488351232 := by
  obtain ⟨fuel, hf⟩ := h
  rcases open_slice Try.underlying32 hf with ⟨hcs, hx⟩ | ⟨x, len', cap', m, n, D, Pl, hcs, _, hl, hm, hmm, hx, hel⟩
  · simp [Value.cells] at hcs
    obtain ⟨rfl, rfl, rfl⟩ := hcs
    omega
  · simp [Value.cells] at hcs
    obtain ⟨rfl, rfl, rfl⟩ := hcs
    obtain ⟨hx, _⟩ := Prod.mk.inj hx
    subst hx
    have z := sized_slice hsz ht hd Try.underlying32
    rw [bytes34] at z
    simp at z
    have : reachBytes = 140737488351232 := rfl
    omega
end Go.Proofs.Ytfcaodnfiakdoaa.Mk
