/- The document's marks by their places: each is put in behind those that come ahead of it; no condition beside the length that is written. -/
import Derived.Test.YtfcaodnfiakdoaaNa
import Derived.Deep.QuietTactic
import Derived.BigQuiet
import Derived.Outline
namespace Go.Proofs.Ytfcaodnfiakdoaa.Mk
open Go.RowKit Go.Proofs.YtfcaodnfiakdoaaW.PrintWords Go.Proofs.YtfcaodnfiakdoaaW.PrintLast Go.Proofs.YtfcaodnfiakdoaaW.PrintMore Go.Proofs.Ytfcaodnfiakdoaa.PMarksPlay
set_option linter.unusedVariables false
set_option linter.unusedSimpArgs false

def beforeR (a b : S51) : Bool := decide (a.f1 < b.f1) || (a.f1 == b.f1 && decide (a.f0 < b.f0))
def spotR (out : List S51) (m : S51) : Nat := (out.takeWhile (fun x => beforeR x m)).length
def insertR (out : List S51) (m : S51) : List S51 := out.take (spotR out m) ++ [m] ++ out.drop (spotR out m)
def insAll (ys : List S51) : List S51 := ys.foldl insertR []

theorem rd51_get {xs : List S51} {k : Nat} (hk : k < xs.length) : rd_T51 xs k = xs[k] := by simp [rd_T51, hk]
theorem spotR_le (out : List S51) (m : S51) : spotR out m ≤ out.length := (List.takeWhile_sublist _).length_le
theorem spotR_lt (out : List S51) (m : S51) (k : Nat) (h : k < spotR out m) : k < out.length ∧ beforeR (rd_T51 out k) m = true := by
  have hk : k < out.length := Nat.lt_of_lt_of_le h (spotR_le out m)
  refine ⟨hk, ?_⟩
  have h1 : (out.takeWhile (fun x => beforeR x m))[k]'h = out[k] := by
    have := List.takeWhile_prefix (fun x => beforeR x m) (l := out)
    exact this.getElem h
  rw [rd51_get hk, ← h1]
  have := List.all_takeWhile (p := fun x => beforeR x m) (l := out)
  exact List.all_eq_true.1 this _ (List.getElem_mem h)
theorem spotR_at (out : List S51) (m : S51) (h : spotR out m < out.length) : beforeR (rd_T51 out (spotR out m)) m = false := by
  rw [rd51_get h]
  induction out with
  | nil => simp at h
  | cons a l ih =>
    unfold spotR at h ⊢
    by_cases ha : beforeR a m = true
    · simp only [List.takeWhile_cons, ha, if_true, List.length_cons] at h ⊢
      exact ih (by unfold spotR; omega)
    · simp only [List.takeWhile_cons, ha] at h ⊢
      simpa using ha
theorem spotR_eq (out : List S51) (m : S51) (k : Nat) (hk : k ≤ spotR out m) (h : k = out.length ∨ beforeR (rd_T51 out k) m = false) : k = spotR out m := by
  rcases Nat.lt_or_ge k (spotR out m) with h1 | h1
  · have h2 := spotR_lt out m k h1
    rcases h with h | h
    · omega
    · rw [h2.2] at h; cases h
  · omega
theorem insertR_length (out : List S51) (m : S51) : (insertR out m).length = out.length + 1 := by
  have := spotR_le out m
  simp [insertR]; omega
theorem insAll_succ (ys : List S51) (k : Nat) (hk : k < ys.length) : insAll (ys.take (k + 1)) = insertR (insAll (ys.take k)) (rd_T51 ys k) := by
  rw [rd51_get hk, List.take_succ_eq_append_getElem hk, insAll, List.foldl_append]
  rfl
theorem insAll_length (ys : List S51) : (insAll ys).length = ys.length := by
  have h : ∀ (l acc : List S51), (l.foldl insertR acc).length = acc.length + l.length := by
    intro l
    induction l with
    | nil => intro acc; simp
    | cons a l ih => intro acc; rw [List.foldl_cons, ih, insertR_length]; simp; omega
  have := h ys []
  simpa [insAll] using this

/-- The empty row that a literal makes. -/
theorem R51_made (w : World) (base : Nat) (h : base ≤ w.heap.size) (ok : Nat → Prop) (hok : ok w.heap.size) : Kd.R k51 51 (w.alloc (.cells #[] 51)) base ok (.slice (some ⟨w.heap.size, 0, none⟩) 0 0) [] :=
  ⟨fun k hk => by simp [Value.ownBlock] at hk; subst hk; exact hok, [], World.ownsRow_made w #[] 0 h (by unfold maxLen; omega) (by simp), Reps.none _ _⟩
theorem C51_reads {w W : World} {A : Option Addr} {n : Nat} {xs : List S51} (h : Kd.C k51 w A n xs) (hb : Below w.heap.size w W) : ReadsRow (fun (x : S51) (cs : List Value) => cs = [.int .i64 x.f0, .int .i64 x.f1, .bool x.f2]) k51.sz W A n xs :=
  ReadsRow.imp_ h hb (fun x cs hp => k51_open hp)
theorem i51 : Try.prog.info? 51 = some Try.t51 ∧ Try.t51.size = 3 := ⟨by kernel_rfl, by kernel_rfl⟩

set_option maxHeartbeats 8000000 in
set_option maxRecDepth 100000 in
theorem AllR_any (base : Nat) (w : World) (size next : Int) (v : Value) (ys : List S51) (hR : Kd.R k51 51 w base (fun _ => True) v ys) (hl : ys.length ≤ 1000000) :
    Calls Try.prog 22 #[.agg #[.int .i64 size, .int .i64 next, v]] w fun e w' => ∃ v', e = .returned v' ∧ Kd.R k51 51 w' w.heap.size (fun _ => True) v' (insAll ys) ∧ Below w.heap.size w w' := by
  obtain ⟨A, c, rfl, hc, hC⟩ := Kd.R_reads hR
  have HC := Aside0.mk hC
  clear hC hR
  go_enter Try.func22, Try.ntmps22
  go_wp2
  obtain ⟨W2, hW2⟩ : ∃ W2, W2 = (w.alloc (.cells #[.int .i64 size, .int .i64 next, .slice A ys.length c] 38)) := ⟨_, rfl⟩
  have HB2 := Aside0.mk (show Below w.heap.size w W2 by rw [hW2]; exact below_alloc (Below.refl _ _) _)
  have HK1 := Aside0.mk (show W2.heap[w.heap.size]? = some (.cells #[.int .i64 size, .int .i64 next, .slice A ys.length c] 38 (0, 0)) by rw [hW2]; exact blk_new w _)
  rw [← hW2]
  clear hW2
  generalize hy : w.heap.size = z1 at *
  have HY := Aside0.mk hy
  clear hy
  go_loopw [3, 4] (fun u i wr => ∃ n : Nat, n ≤ ys.length ∧ i = .int .i64 n ∧ Aside0 (Below W2.heap.size W2 wr) ∧ Aside0 (Kd.R k51 51 wr W2.heap.size (fun _ => True) u (insAll (ys.take n)))) (fun _ i _ => ys.length - (intOf i).toNat)
  case atStart => exact ⟨0, Nat.zero_le _, rfl, ⟨Below.refl _ _⟩, ⟨Kd.R_nil _ _ _ _ _⟩⟩
  case round =>
    obtain ⟨n, hn, rfl, HB, HR⟩ := hrel
    obtain ⟨wo, rfl⟩ : ∃ wo : World, wo = wr := ⟨_, rfl⟩
    have hk1 := blk_below HK1.out (HB.out.mono (Nat.le_refl _))
    have s2 : wo.cell? ⟨z1, 2, none⟩ = some (.slice A ys.length c) := (blk_cell hk1 2).trans rfl
    have hz1 : z1 < wo.heap.size := blk_lt hk1
    clear hk1
    by_cases hlt : n < ys.length
    · have HL := Aside0.mk (show (insAll (ys.take n)).length = n by rw [insAll_length]; simp; omega)
      have HS := Aside0.mk (insAll_succ ys n hlt)
      generalize hout : insAll (ys.take n) = out at *
      clear hout
      obtain ⟨ad, he, hx0, hx1, hx2⟩ := at_T51 (Kd.C_below (Kd.C_below HC.out (by rw [HY.out]; exact HB2.out)) HB.out) (n : Int) (by omega) (by omega)
      subst he
      rw [Int.toNat_natCast] at hx0 hx1 hx2
      generalize hm : rd_T51 ys n = m at *
      clear hm
      obtain ⟨Ao, co, hu, hoc, hoC⟩ := Kd.R_reads HR.out
      have hol := HL.out
      rw [hol] at hu
      subst hu
      have HOC := Aside0.mk hoC
      clear hoC hol
      have hi0 : (0 : Int) ≤ (n : Int) := by omega
      have hi1 : (n : Int) < (ys.length : Int) := by omega
      go_wp2
      go_loopw [5] (fun v5 wi => ∃ (k q : Nat), k ≤ spotR out m ∧ v5 = .int .i64 k ∧ wi = wo.drewN q) (fun v5 _ => n + 1 - (intOf v5).toNat)
      case atStart => exact ⟨0, 0, Nat.zero_le _, rfl, rfl⟩
      case round =>
        obtain ⟨k, q, hk, rfl, rfl⟩ := hrel
        have hsl := spotR_le out m
        have hol := HL.out
        rw [hol] at hsl
        clear hol
        by_cases hkn : k < n
        · have hj0 : (0 : Int) ≤ (k : Int) := by omega
          have hj1 : (k : Int) < (n : Int) := by omega
          have hd1 : decide ((k : Int) < (n : Int)) = true := by simpa using hkn
          obtain ⟨ao, he, hy0, hy1, hy2⟩ := at_T51 HOC.out (k : Int) (by omega) (by rw [HL.out]; omega)
          subst he
          rw [Int.toNat_natCast] at hy0 hy1 hy2
          by_cases c1 : (rd_T51 out k).f1 < m.f1
          · have hd2 : decide ((rd_T51 out k).f1 < m.f1) = true := by simpa using c1
            have HN := Aside0.mk (show k < spotR out m by
              rcases Nat.lt_or_ge k (spotR out m) with h | h
              · exact h
              · have e : k = spotR out m := by omega
                have := spotR_at out m (by rw [← e, HL.out]; exact hkn)
                rw [← e] at this
                unfold beforeR at this
                simp [c1] at this)
            go_wp2_with fail
            go_quiet (fail)
            go_wp2
            go_roundw
            case rel => exact ⟨k + 1, q + nq, by have := HN.out; omega, by go_num, rfl⟩
            case measure => simp [intOf]; omega
          · have hd2 : decide ((rd_T51 out k).f1 < m.f1) = false := by simpa using c1
            by_cases c2 : (rd_T51 out k).f1 = m.f1
            · have hd3 : ((rd_T51 out k).f1 == m.f1) = true := by simpa using c2
              have C2 := Aside0.mk c2
              clear c2
              by_cases c3 : (rd_T51 out k).f0 < m.f0
              · have hd4 : decide ((rd_T51 out k).f0 < m.f0) = true := by simpa using c3
                have HN := Aside0.mk (show k < spotR out m by
                  rcases Nat.lt_or_ge k (spotR out m) with h | h
                  · exact h
                  · have e : k = spotR out m := by omega
                    have := spotR_at out m (by rw [← e, HL.out]; exact hkn)
                    rw [← e] at this
                    unfold beforeR at this
                    simp [C2.out, c3] at this)
                go_wp2_with fail
                go_quiet (fail)
                go_wp2
                go_roundw
                case rel => exact ⟨k + 1, q + nq, by have := HN.out; omega, by go_num, rfl⟩
                case measure => simp [intOf]; omega
              · have hd4 : decide ((rd_T51 out k).f0 < m.f0) = false := by simpa using c3
                have HE := Aside0.mk (spotR_eq out m k hk (.inr (by unfold beforeR; rw [hd2, hd4]; simp)))
                go_wp2_with fail
                go_quiet (fail)
                (try simp only [World.drewN_drewN])
                have HB8 := Aside0.mk (show Below W2.heap.size W2 (wo.drewN (q + nq)) from pw_below_drewN HB.out _)
                have HR8 := Aside0.mk (Kd.R_drewN HR.out (q + nq))
                have HOC8 := Aside0.mk (Kd.C_drewN HOC.out (q + nq))
                have hcut0 := cut_from (P := Try.prog) 36 51 .i64 Try.underlying36 i51.1 3 i51.2 (some ao) n co (k : Int) (by omega) (by omega)
                have hto := cut_to (P := Try.prog) 36 51 .i64 Try.underlying36 i51.1 (some ao) n co (k : Int) (by omega) (by omega) (by have := HL.out; omega)
                rw [Int.toNat_natCast] at hcut0 hto
                have HCD := Aside0.mk (Kd.C_drop HOC8.out (show k ≤ out.length by have := HL.out; omega) hoc)
                generalize hAc : (if co = k then _ else _ : Option Addr) = Ac at hcut0
                rw [show k51.sz = 3 from rfl, hAc] at HCD
                clear hAc
                generalize hW8 : wo.drewN (q + nq) = W8 at *
                have s28 : W8.cell? ⟨z1, 2, none⟩ = some (.slice (some ad) ys.length c) := by rw [← hW8]; exact s2
                have x08 : W8.cell? (ad.add (n * 3)) = some (.int .i64 m.f0) := by rw [← hW8]; exact hx0
                have x18 : W8.cell? ⟨(ad.add (n * 3)).block, (ad.add (n * 3)).off + 1, none⟩ = some (.int .i64 m.f1) := by rw [← hW8]; exact hx1
                have x28 : W8.cell? ⟨(ad.add (n * 3)).block, (ad.add (n * 3)).off + 2, none⟩ = some (.bool m.f2) := by rw [← hW8]; exact hx2
                clear hW8
                have hDL := Aside0.mk (show (out.drop k).length = n - k by rw [List.length_drop, HL.out])
                rw [hDL.out] at HCD
                go_wp2_with (at_builtin; refine Kd.R_append_rows k51 (w0 := W8) W8.heap.size rfl (.tmp 62) (.tmp 65) 36 51 _ 24 rfl Try.underlying36 info51 rfl (by decide) (by decide) (.slice (some ⟨W8.heap.size, 0, none⟩) 0 0) [] (out.drop k) Ac (n - k) (co - k) (fun _ => True) (fun _ => False) (by simp [Act.eval]) (by simp [Act.eval]) (R51_made W8 _ (Nat.le_refl _) _ trivial) (C51_reads HCD.out (below_alloc (Below.refl _ _) _)) (fun x cs e => by subst e; exact k51_mkM _ _ _ _) (fun _ h => h.elim) (fun _ _ => trivial) (below_alloc (Below.refl _ _) _) (by simp) (by simp; omega) ?_; intro v1 w9 hR9 hB9 _ _; have HR9 := Aside0.mk hR9; have HB9 := Aside0.mk hB9; clear hR9 hB9)
                have HO9 := Aside0.mk (Kd.R_below HR8.out HB9.out)
                have HBo9 := Aside0.mk (show Below W2.heap.size W2 w9 from HB8.out.trans (HB9.out.mono HB8.out.size))
                have hRr : Kd.R k51 51 w9 W8.heap.size (fun q => W8.heap.size ≤ q) v1 (out.drop k) := by
                  have h := Kd.R_mono (Kd.R_bound HR9.out) (fun q hq => hq.2.1)
                  simpa using h
                obtain ⟨Ar, cr, hvr, hcr, hCr⟩ := Kd.R_reads hRr
                rw [hDL.out] at hvr hCr hcr
                subst hvr
                have HRr := Aside0.mk hRr
                clear hRr hCr
                have hlt8 : ∀ q, (Value.slice (some ao) n co).ownBlock = some q → q < W8.heap.size := Kd.R_lt HR8.out
                have HLT8 := Aside0.mk hlt8
                clear hlt8
                have s29 : w9.cell? ⟨z1, 2, none⟩ = some (.slice (some ad) ys.length c) := (HB9.out.cell (p := ⟨z1, 2, none⟩) (World.block_lt_of_cell? W8 _ s28)).trans s28
                have x09 : w9.cell? (ad.add (n * 3)) = some (.int .i64 m.f0) := (HB9.out.cell (World.block_lt_of_cell? W8 _ x08)).trans x08
                have x19 : w9.cell? ⟨(ad.add (n * 3)).block, (ad.add (n * 3)).off + 1, none⟩ = some (.int .i64 m.f1) := (HB9.out.cell (World.block_lt_of_cell? W8 _ x18)).trans x18
                have x29 : w9.cell? ⟨(ad.add (n * 3)).block, (ad.add (n * 3)).off + 2, none⟩ = some (.bool m.f2) := (HB9.out.cell (World.block_lt_of_cell? W8 _ x28)).trans x28
                have hz9 : z1 < w9.heap.size := World.block_lt_of_cell? w9 _ s29
                have hb9 : (ad.add (n * 3)).block < w9.heap.size := World.block_lt_of_cell? w9 _ x09
                clear s28 x08 x18 x28 s2 hx0 hx1 hx2 hcut0
                have hke : k ≤ out.length := by have := HL.out; omega
                have HT := Aside0.mk (Kd.R_take (Kd.R_drew HO9.out) hke)
                have hkn2 : (k : Int) ≤ (n : Int) := by omega
                have hTL := Aside0.mk (show (out.take k).length ≤ 1000000 by simp; omega)
                go_region_law (rw [← World.alloc_drew]; refine Kd.R_append_step k51 (w0 := W2) W2.heap.size (by simp [Region.wanted]) (.tmp 69) (.tmp 75) 36 51 _ 24 rfl Try.underlying36 info51 rfl (by decide) (by decide) (.slice (some ao) k co) (out.take k) m _ (fun _ => True) (fun _ => False) (by simp [Act.eval, Act.put]) (by simp [Act.eval, Act.put]) (k51_mkM _ _ _ m) (fun _ h => h.elim) (fun _ _ => trivial) HT.out (Below.drew HBo9.out) (HBo9.out.size) (by have := hTL.out; omega) ?_; intro v2 w10 hR10 hB10 hg10 hat10; have HR10 := Aside0.mk hR10; have HB10 := Aside0.mk hB10; have HG10 := Aside0.mk hg10; clear hR10 hB10 hg10 hat10)
                all_goals
                  have hown : (Value.slice (some ao) n co).ownBlock = (Value.slice (some ao) k co).ownBlock := by first | rfl | (cases Ao <;> rfl)
                  have HRr10 := Aside0.mk (Kd.R_grown (Kd.R_drew HRr.out) HG10.out (fun q hq he => by have := HLT8.out q (by rw [hown]; exact he.symm); omega))
                  have HCr := Aside0.mk (Kd.R_reads' HRr10.out).2.2
                  rw [hDL.out] at HCr
                  have HFin := Aside0.mk (show insertR out m = out.take k ++ [m] ++ out.drop k by unfold insertR; rw [← HE.out])
                  have hle10 := HB10.out.size
                  have hsum := Aside0.mk (show (out.take k ++ [m]).length + (n - k) ≤ 2000000 by have := hTL.out; simp only [List.length_append, List.length_singleton]; omega)
                  clear hown
                  go_wp2_with (at_builtin; refine Kd.R_append_rows k51 (w0 := W2) W2.heap.size rfl (.tmp 77) (.tmp 78) 36 51 _ 24 rfl Try.underlying36 info51 rfl (by decide) (by decide) v2 (out.take k ++ [m]) (out.drop k) Ar (n - k) cr (fun _ => True) (fun _ => False) (by simp [Act.eval]) (by simp [Act.eval]) HR10.out (C51_reads HCr.out (Below.refl _ _)) (fun x cs e => by subst e; exact k51_mkM _ _ _ _) (fun _ h => h.elim) (fun _ _ => trivial) HB10.out hle10 (by have := hsum.out; omega) ?_; intro v3 w11 hR11 hB11 _ _; have HR11 := Aside0.mk hR11; have HB11 := Aside0.mk hB11; clear hR11 hB11)
                  go_roundw
                  case rel => exact ⟨n + 1, by omega, by go_num, HB11, ⟨by rw [HS.out, HFin.out]; exact HR11.out⟩⟩
                  case measure => simp [intOf]; omega
            · have hd3 : ((rd_T51 out k).f1 == m.f1) = false := by simpa using c2
              clear c2
              have HE := Aside0.mk (spotR_eq out m k hk (.inr (by unfold beforeR; rw [hd2, hd3]; rfl)))
              go_wp2_with fail
              go_quiet (fail)
              (try simp only [World.drewN_drewN])
              have HB8 := Aside0.mk (show Below W2.heap.size W2 (wo.drewN (q + nq)) from pw_below_drewN HB.out _)
              have HR8 := Aside0.mk (Kd.R_drewN HR.out (q + nq))
              have HOC8 := Aside0.mk (Kd.C_drewN HOC.out (q + nq))
              have hcut0 := cut_from (P := Try.prog) 36 51 .i64 Try.underlying36 i51.1 3 i51.2 (some ao) n co (k : Int) (by omega) (by omega)
              have hto := cut_to (P := Try.prog) 36 51 .i64 Try.underlying36 i51.1 (some ao) n co (k : Int) (by omega) (by omega) (by have := HL.out; omega)
              rw [Int.toNat_natCast] at hcut0 hto
              have HCD := Aside0.mk (Kd.C_drop HOC8.out (show k ≤ out.length by have := HL.out; omega) hoc)
              generalize hAc : (if co = k then _ else _ : Option Addr) = Ac at hcut0
              rw [show k51.sz = 3 from rfl, hAc] at HCD
              clear hAc
              generalize hW8 : wo.drewN (q + nq) = W8 at *
              have s28 : W8.cell? ⟨z1, 2, none⟩ = some (.slice (some ad) ys.length c) := by rw [← hW8]; exact s2
              have x08 : W8.cell? (ad.add (n * 3)) = some (.int .i64 m.f0) := by rw [← hW8]; exact hx0
              have x18 : W8.cell? ⟨(ad.add (n * 3)).block, (ad.add (n * 3)).off + 1, none⟩ = some (.int .i64 m.f1) := by rw [← hW8]; exact hx1
              have x28 : W8.cell? ⟨(ad.add (n * 3)).block, (ad.add (n * 3)).off + 2, none⟩ = some (.bool m.f2) := by rw [← hW8]; exact hx2
              clear hW8
              have hDL := Aside0.mk (show (out.drop k).length = n - k by rw [List.length_drop, HL.out])
              rw [hDL.out] at HCD
              go_wp2_with (at_builtin; refine Kd.R_append_rows k51 (w0 := W8) W8.heap.size rfl (.tmp 62) (.tmp 65) 36 51 _ 24 rfl Try.underlying36 info51 rfl (by decide) (by decide) (.slice (some ⟨W8.heap.size, 0, none⟩) 0 0) [] (out.drop k) Ac (n - k) (co - k) (fun _ => True) (fun _ => False) (by simp [Act.eval]) (by simp [Act.eval]) (R51_made W8 _ (Nat.le_refl _) _ trivial) (C51_reads HCD.out (below_alloc (Below.refl _ _) _)) (fun x cs e => by subst e; exact k51_mkM _ _ _ _) (fun _ h => h.elim) (fun _ _ => trivial) (below_alloc (Below.refl _ _) _) (by simp) (by simp; omega) ?_; intro v1 w9 hR9 hB9 _ _; have HR9 := Aside0.mk hR9; have HB9 := Aside0.mk hB9; clear hR9 hB9)
              have HO9 := Aside0.mk (Kd.R_below HR8.out HB9.out)
              have HBo9 := Aside0.mk (show Below W2.heap.size W2 w9 from HB8.out.trans (HB9.out.mono HB8.out.size))
              have hRr : Kd.R k51 51 w9 W8.heap.size (fun q => W8.heap.size ≤ q) v1 (out.drop k) := by
                have h := Kd.R_mono (Kd.R_bound HR9.out) (fun q hq => hq.2.1)
                simpa using h
              obtain ⟨Ar, cr, hvr, hcr, hCr⟩ := Kd.R_reads hRr
              rw [hDL.out] at hvr hCr hcr
              subst hvr
              have HRr := Aside0.mk hRr
              clear hRr hCr
              have hlt8 : ∀ q, (Value.slice (some ao) n co).ownBlock = some q → q < W8.heap.size := Kd.R_lt HR8.out
              have HLT8 := Aside0.mk hlt8
              clear hlt8
              have s29 : w9.cell? ⟨z1, 2, none⟩ = some (.slice (some ad) ys.length c) := (HB9.out.cell (p := ⟨z1, 2, none⟩) (World.block_lt_of_cell? W8 _ s28)).trans s28
              have x09 : w9.cell? (ad.add (n * 3)) = some (.int .i64 m.f0) := (HB9.out.cell (World.block_lt_of_cell? W8 _ x08)).trans x08
              have x19 : w9.cell? ⟨(ad.add (n * 3)).block, (ad.add (n * 3)).off + 1, none⟩ = some (.int .i64 m.f1) := (HB9.out.cell (World.block_lt_of_cell? W8 _ x18)).trans x18
              have x29 : w9.cell? ⟨(ad.add (n * 3)).block, (ad.add (n * 3)).off + 2, none⟩ = some (.bool m.f2) := (HB9.out.cell (World.block_lt_of_cell? W8 _ x28)).trans x28
              have hz9 : z1 < w9.heap.size := World.block_lt_of_cell? w9 _ s29
              have hb9 : (ad.add (n * 3)).block < w9.heap.size := World.block_lt_of_cell? w9 _ x09
              clear s28 x08 x18 x28 s2 hx0 hx1 hx2 hcut0
              have hke : k ≤ out.length := by have := HL.out; omega
              have HT := Aside0.mk (Kd.R_take (Kd.R_drew HO9.out) hke)
              have hkn2 : (k : Int) ≤ (n : Int) := by omega
              have hTL := Aside0.mk (show (out.take k).length ≤ 1000000 by simp; omega)
              go_region_law (rw [← World.alloc_drew]; refine Kd.R_append_step k51 (w0 := W2) W2.heap.size (by simp [Region.wanted]) (.tmp 69) (.tmp 75) 36 51 _ 24 rfl Try.underlying36 info51 rfl (by decide) (by decide) (.slice (some ao) k co) (out.take k) m _ (fun _ => True) (fun _ => False) (by simp [Act.eval, Act.put]) (by simp [Act.eval, Act.put]) (k51_mkM _ _ _ m) (fun _ h => h.elim) (fun _ _ => trivial) HT.out (Below.drew HBo9.out) (HBo9.out.size) (by have := hTL.out; omega) ?_; intro v2 w10 hR10 hB10 hg10 hat10; have HR10 := Aside0.mk hR10; have HB10 := Aside0.mk hB10; have HG10 := Aside0.mk hg10; clear hR10 hB10 hg10 hat10)
              all_goals
                have hown : (Value.slice (some ao) n co).ownBlock = (Value.slice (some ao) k co).ownBlock := by first | rfl | (cases Ao <;> rfl)
                have HRr10 := Aside0.mk (Kd.R_grown (Kd.R_drew HRr.out) HG10.out (fun q hq he => by have := HLT8.out q (by rw [hown]; exact he.symm); omega))
                have HCr := Aside0.mk (Kd.R_reads' HRr10.out).2.2
                rw [hDL.out] at HCr
                have HFin := Aside0.mk (show insertR out m = out.take k ++ [m] ++ out.drop k by unfold insertR; rw [← HE.out])
                have hle10 := HB10.out.size
                have hsum := Aside0.mk (show (out.take k ++ [m]).length + (n - k) ≤ 2000000 by have := hTL.out; simp only [List.length_append, List.length_singleton]; omega)
                clear hown
                go_wp2_with (at_builtin; refine Kd.R_append_rows k51 (w0 := W2) W2.heap.size rfl (.tmp 77) (.tmp 78) 36 51 _ 24 rfl Try.underlying36 info51 rfl (by decide) (by decide) v2 (out.take k ++ [m]) (out.drop k) Ar (n - k) cr (fun _ => True) (fun _ => False) (by simp [Act.eval]) (by simp [Act.eval]) HR10.out (C51_reads HCr.out (Below.refl _ _)) (fun x cs e => by subst e; exact k51_mkM _ _ _ _) (fun _ h => h.elim) (fun _ _ => trivial) HB10.out hle10 (by have := hsum.out; omega) ?_; intro v3 w11 hR11 hB11 _ _; have HR11 := Aside0.mk hR11; have HB11 := Aside0.mk hB11; clear hR11 hB11)
                go_roundw
                case rel => exact ⟨n + 1, by omega, by go_num, HB11, ⟨by rw [HS.out, HFin.out]; exact HR11.out⟩⟩
                case measure => simp [intOf]; omega
        · have hd1 : decide ((k : Int) < (n : Int)) = false := by simp; omega
          have HE := Aside0.mk (spotR_eq out m k hk (.inl (by have := HL.out; omega)))
          go_wp2_with fail
          go_quiet (fail)
          (try simp only [World.drewN_drewN])
          have HB8 := Aside0.mk (show Below W2.heap.size W2 (wo.drewN (q + nq)) from pw_below_drewN HB.out _)
          have HR8 := Aside0.mk (Kd.R_drewN HR.out (q + nq))
          have HOC8 := Aside0.mk (Kd.C_drewN HOC.out (q + nq))
          have hcut0 := cut_from (P := Try.prog) 36 51 .i64 Try.underlying36 i51.1 3 i51.2 Ao n co (k : Int) (by omega) (by omega)
          have hto := cut_to (P := Try.prog) 36 51 .i64 Try.underlying36 i51.1 Ao n co (k : Int) (by omega) (by omega) (by have := HL.out; omega)
          rw [Int.toNat_natCast] at hcut0 hto
          have HCD := Aside0.mk (Kd.C_drop HOC8.out (show k ≤ out.length by have := HL.out; omega) hoc)
          generalize hAc : (if co = k then _ else _ : Option Addr) = Ac at hcut0
          rw [show k51.sz = 3 from rfl, hAc] at HCD
          clear hAc
          generalize hW8 : wo.drewN (q + nq) = W8 at *
          have s28 : W8.cell? ⟨z1, 2, none⟩ = some (.slice (some ad) ys.length c) := by rw [← hW8]; exact s2
          have x08 : W8.cell? (ad.add (n * 3)) = some (.int .i64 m.f0) := by rw [← hW8]; exact hx0
          have x18 : W8.cell? ⟨(ad.add (n * 3)).block, (ad.add (n * 3)).off + 1, none⟩ = some (.int .i64 m.f1) := by rw [← hW8]; exact hx1
          have x28 : W8.cell? ⟨(ad.add (n * 3)).block, (ad.add (n * 3)).off + 2, none⟩ = some (.bool m.f2) := by rw [← hW8]; exact hx2
          clear hW8
          have hDL := Aside0.mk (show (out.drop k).length = n - k by rw [List.length_drop, HL.out])
          rw [hDL.out] at HCD
          go_wp2_with (at_builtin; refine Kd.R_append_rows k51 (w0 := W8) W8.heap.size rfl (.tmp 62) (.tmp 65) 36 51 _ 24 rfl Try.underlying36 info51 rfl (by decide) (by decide) (.slice (some ⟨W8.heap.size, 0, none⟩) 0 0) [] (out.drop k) Ac (n - k) (co - k) (fun _ => True) (fun _ => False) (by simp [Act.eval]) (by simp [Act.eval]) (R51_made W8 _ (Nat.le_refl _) _ trivial) (C51_reads HCD.out (below_alloc (Below.refl _ _) _)) (fun x cs e => by subst e; exact k51_mkM _ _ _ _) (fun _ h => h.elim) (fun _ _ => trivial) (below_alloc (Below.refl _ _) _) (by simp) (by simp; omega) ?_; intro v1 w9 hR9 hB9 _ _; have HR9 := Aside0.mk hR9; have HB9 := Aside0.mk hB9; clear hR9 hB9)
          have HO9 := Aside0.mk (Kd.R_below HR8.out HB9.out)
          have HBo9 := Aside0.mk (show Below W2.heap.size W2 w9 from HB8.out.trans (HB9.out.mono HB8.out.size))
          have hRr : Kd.R k51 51 w9 W8.heap.size (fun q => W8.heap.size ≤ q) v1 (out.drop k) := by
            have h := Kd.R_mono (Kd.R_bound HR9.out) (fun q hq => hq.2.1)
            simpa using h
          obtain ⟨Ar, cr, hvr, hcr, hCr⟩ := Kd.R_reads hRr
          rw [hDL.out] at hvr hCr hcr
          subst hvr
          have HRr := Aside0.mk hRr
          clear hRr hCr
          have hlt8 : ∀ q, (Value.slice Ao n co).ownBlock = some q → q < W8.heap.size := Kd.R_lt HR8.out
          have HLT8 := Aside0.mk hlt8
          clear hlt8
          have s29 : w9.cell? ⟨z1, 2, none⟩ = some (.slice (some ad) ys.length c) := (HB9.out.cell (p := ⟨z1, 2, none⟩) (World.block_lt_of_cell? W8 _ s28)).trans s28
          have x09 : w9.cell? (ad.add (n * 3)) = some (.int .i64 m.f0) := (HB9.out.cell (World.block_lt_of_cell? W8 _ x08)).trans x08
          have x19 : w9.cell? ⟨(ad.add (n * 3)).block, (ad.add (n * 3)).off + 1, none⟩ = some (.int .i64 m.f1) := (HB9.out.cell (World.block_lt_of_cell? W8 _ x18)).trans x18
          have x29 : w9.cell? ⟨(ad.add (n * 3)).block, (ad.add (n * 3)).off + 2, none⟩ = some (.bool m.f2) := (HB9.out.cell (World.block_lt_of_cell? W8 _ x28)).trans x28
          have hz9 : z1 < w9.heap.size := World.block_lt_of_cell? w9 _ s29
          have hb9 : (ad.add (n * 3)).block < w9.heap.size := World.block_lt_of_cell? w9 _ x09
          clear s28 x08 x18 x28 s2 hx0 hx1 hx2 hcut0
          have hke : k ≤ out.length := by have := HL.out; omega
          have HT := Aside0.mk (Kd.R_take (Kd.R_drew HO9.out) hke)
          have hkn2 : (k : Int) ≤ (n : Int) := by omega
          have hTL := Aside0.mk (show (out.take k).length ≤ 1000000 by simp; omega)
          go_region_law (rw [← World.alloc_drew]; refine Kd.R_append_step k51 (w0 := W2) W2.heap.size (by simp [Region.wanted]) (.tmp 69) (.tmp 75) 36 51 _ 24 rfl Try.underlying36 info51 rfl (by decide) (by decide) (.slice Ao k co) (out.take k) m _ (fun _ => True) (fun _ => False) (by simp [Act.eval, Act.put]) (by simp [Act.eval, Act.put]) (k51_mkM _ _ _ m) (fun _ h => h.elim) (fun _ _ => trivial) HT.out (Below.drew HBo9.out) (HBo9.out.size) (by have := hTL.out; omega) ?_; intro v2 w10 hR10 hB10 hg10 hat10; have HR10 := Aside0.mk hR10; have HB10 := Aside0.mk hB10; have HG10 := Aside0.mk hg10; clear hR10 hB10 hg10 hat10)
          all_goals
            have hown : (Value.slice Ao n co).ownBlock = (Value.slice Ao k co).ownBlock := by first | rfl | (cases Ao <;> rfl)
            have HRr10 := Aside0.mk (Kd.R_grown (Kd.R_drew HRr.out) HG10.out (fun q hq he => by have := HLT8.out q (by rw [hown]; exact he.symm); omega))
            have HCr := Aside0.mk (Kd.R_reads' HRr10.out).2.2
            rw [hDL.out] at HCr
            have HFin := Aside0.mk (show insertR out m = out.take k ++ [m] ++ out.drop k by unfold insertR; rw [← HE.out])
            have hle10 := HB10.out.size
            have hsum := Aside0.mk (show (out.take k ++ [m]).length + (n - k) ≤ 2000000 by have := hTL.out; simp only [List.length_append, List.length_singleton]; omega)
            clear hown
            go_wp2_with (at_builtin; refine Kd.R_append_rows k51 (w0 := W2) W2.heap.size rfl (.tmp 77) (.tmp 78) 36 51 _ 24 rfl Try.underlying36 info51 rfl (by decide) (by decide) v2 (out.take k ++ [m]) (out.drop k) Ar (n - k) cr (fun _ => True) (fun _ => False) (by simp [Act.eval]) (by simp [Act.eval]) HR10.out (C51_reads HCr.out (Below.refl _ _)) (fun x cs e => by subst e; exact k51_mkM _ _ _ _) (fun _ h => h.elim) (fun _ _ => trivial) HB10.out hle10 (by have := hsum.out; omega) ?_; intro v3 w11 hR11 hB11 _ _; have HR11 := Aside0.mk hR11; have HB11 := Aside0.mk hB11; clear hR11 hB11)
            go_roundw
            case rel => exact ⟨n + 1, by omega, by go_num, HB11, ⟨by rw [HS.out, HFin.out]; exact HR11.out⟩⟩
            case measure => simp [intOf]; omega
    · have hd : decide ((n : Int) < (ys.length : Int)) = false := by simp; omega
      have HN := Aside0.mk (show ys.take n = ys from List.take_of_length_le (by omega))
      go_wp2
      go_ret
      refine ⟨_, rfl, ?_, ?_⟩
      · have h := HR.out
        rw [HN.out] at h
        exact Kd.R_lower h (by have := HB2.out.size; rw [HY.out] at this ⊢; exact this)
      · have h := HB2.out.trans (HB.out.mono (by have := HB2.out.size; rw [HY.out] at this; exact this))
        rw [← HY.out] at h
        exact h
end Go.Proofs.Ytfcaodnfiakdoaa.Mk
