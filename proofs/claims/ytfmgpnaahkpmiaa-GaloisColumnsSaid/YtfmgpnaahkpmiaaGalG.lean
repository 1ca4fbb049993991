/- Contracts: columns mixed and unmixed, as galois does and as the reference does. -/
import Derived.Test.YtfmgpnaahkpmiaaGalF
set_option linter.unusedVariables false
namespace Go.Proofs.Ytfmgpnaahkpmiaa
open Go.RowKit Gal

/-- The first rows. -/
def mixF : Nat → Nat := fun j => [2, 3, 1, 1].getD j 0
def unmixF : Nat → Nat := fun j => [14, 11, 13, 9].getD j 0
theorem mixF_lt (j : Nat) : mixF j < 256 := by
  unfold mixF
  rcases Nat.lt_or_ge j 4 with h | h
  · exact four (P := fun j => [2, 3, 1, 1].getD j 0 < 256) (by decide) (by decide) (by decide) (by decide) j h
  · rw [List.getD_eq_getElem?_getD, List.getElem?_eq_none (by simpa using h)]; decide
theorem unmixF_lt (j : Nat) : unmixF j < 256 := by
  unfold unmixF
  rcases Nat.lt_or_ge j 4 with h | h
  · exact four (P := fun j => [14, 11, 13, 9].getD j 0 < 256) (by decide) (by decide) (by decide) (by decide) j h
  · rw [List.getD_eq_getElem?_getD, List.getElem?_eq_none (by simpa using h)]; decide
/-- A column mixed, unmixed. -/
def mix (c : Nat → Nat) (i : Nat) : Nat := dot (turned mixF i) c 4
def unmix (c : Nat → Nat) (i : Nat) : Nat := dot (turned unmixF i) c 4
theorem mix_lt (c : Nat → Nat) (i : Nat) : mix c i < 256 := dot_lt _ c (fun k => mixF_lt _) 4
theorem unmix_lt (c : Nat → Nat) (i : Nat) : unmix c i < 256 := dot_lt _ c (fun k => unmixF_lt _) 4

theorem by_mix (c : Nat → Nat) (hc : ∀ k, c k < 256) (w : World) :
    Calls Try.prog 31 #[.agg #[.int .u8 2, .int .u8 3, .int .u8 1, .int .u8 1, .int .u8 1, .int .u8 2, .int .u8 3, .int .u8 1, .int .u8 1, .int .u8 1, .int .u8 2, .int .u8 3, .int .u8 3, .int .u8 1, .int .u8 1, .int .u8 2], .agg #[.int .u8 (c 0), .int .u8 (c 1), .int .u8 (c 2), .int .u8 (c 3)]] w fun e w' => e = .returned (.agg (col (mix c))) ∧ Below w.heap.size w w' :=
  by_any (turned mixF) c (fun _ _ => mixF_lt _) hc w
set_option maxHeartbeats 1600000 in
theorem mix_any (c : Nat → Nat) (hc : ∀ k, c k < 256) (w : World) :
    Calls Try.prog 24 #[.agg (col c)] w fun e w' => e = .returned (.agg (col (mix c))) ∧ Below w.heap.size w w' := by
  have HB := Lib.hid (fun W => by_mix c hc W)
  obtain ⟨o, HO⟩ : ∃ o, Hid (o = mix c) := ⟨_, rfl⟩
  rw [← HO.out] at HB ⊢
  clear hc
  go_enter Try.func24, Try.ntmps24
  go_wp2_with fail
  refine (HB.out _).mono ?_
  rintro e w1 ⟨rfl, hb1⟩
  have hbk0 : Blk w1 (w.heap.size + 1) 33 (col fun _ => 0) := Blk.below (Blk.new' _ _ _ _ (by simp)) hb1 (by simp)
  have HK := Lib.hid hbk0
  clear hbk0
  have d0 : w1.cell? ⟨w.heap.size + 1, 0, none⟩ = some (.int .u8 0) := HK.out.cell 0
  have d1 : w1.cell? ⟨w.heap.size + 1, 1, none⟩ = some (.int .u8 0) := HK.out.cell 1
  have d2 : w1.cell? ⟨w.heap.size + 1, 2, none⟩ = some (.int .u8 0) := HK.out.cell 2
  have d3 : w1.cell? ⟨w.heap.size + 1, 3, none⟩ = some (.int .u8 0) := HK.out.cell 3
  have f0 := HK.out.frozen 0
  have f1 := HK.out.frozen 1
  have f2 := HK.out.frozen 2
  have f3 := HK.out.frozen 3
  go_wp2
  have hbk := (((HK.out.set_ 0 (.int .u8 (o 0))).set_ 1 (.int .u8 (o 1))).set_ 2 (.int .u8 (o 2))).set_ 3 (.int .u8 (o 3))
  have e0 := hbk.cell 0
  have e1 := hbk.cell 1
  have e2 := hbk.cell 2
  have e3 := hbk.cell 3
  refine bodyPost_ret (v := .agg (col o)) ?_ rfl ⟨rfl, ?_⟩
  · simp [results, Try.results24, go_sem, e0, e1, e2, e3]
  · have hbel : Below w.heap.size w w1 := ((((Below.refl _ _).alloc (Nat.le_refl _) _).alloc (by simp) _).trans (hb1.mono (by simp; omega)))
    exact (((hbel.setCell (show w.heap.size ≤ w.heap.size + 1 by omega) _).setCell (show w.heap.size ≤ w.heap.size + 1 by omega) _).setCell (show w.heap.size ≤ w.heap.size + 1 by omega) _).setCell (show w.heap.size ≤ w.heap.size + 1 by omega) _

theorem by_unmix (c : Nat → Nat) (hc : ∀ k, c k < 256) (w : World) :
    Calls Try.prog 31 #[.agg #[.int .u8 14, .int .u8 11, .int .u8 13, .int .u8 9, .int .u8 9, .int .u8 14, .int .u8 11, .int .u8 13, .int .u8 13, .int .u8 9, .int .u8 14, .int .u8 11, .int .u8 11, .int .u8 13, .int .u8 9, .int .u8 14], .agg #[.int .u8 (c 0), .int .u8 (c 1), .int .u8 (c 2), .int .u8 (c 3)]] w fun e w' => e = .returned (.agg (col (unmix c))) ∧ Below w.heap.size w w' :=
  by_any (turned unmixF) c (fun _ _ => unmixF_lt _) hc w
set_option maxHeartbeats 1600000 in
theorem unmix_any (c : Nat → Nat) (hc : ∀ k, c k < 256) (w : World) :
    Calls Try.prog 26 #[.agg (col c)] w fun e w' => e = .returned (.agg (col (unmix c))) ∧ Below w.heap.size w w' := by
  have HB := Lib.hid (fun W => by_unmix c hc W)
  obtain ⟨o, HO⟩ : ∃ o, Hid (o = unmix c) := ⟨_, rfl⟩
  rw [← HO.out] at HB ⊢
  clear hc
  go_enter Try.func26, Try.ntmps26
  go_wp2_with fail
  refine (HB.out _).mono ?_
  rintro e w1 ⟨rfl, hb1⟩
  have hbk0 : Blk w1 (w.heap.size + 1) 33 (col fun _ => 0) := Blk.below (Blk.new' _ _ _ _ (by simp)) hb1 (by simp)
  have HK := Lib.hid hbk0
  clear hbk0
  have d0 : w1.cell? ⟨w.heap.size + 1, 0, none⟩ = some (.int .u8 0) := HK.out.cell 0
  have d1 : w1.cell? ⟨w.heap.size + 1, 1, none⟩ = some (.int .u8 0) := HK.out.cell 1
  have d2 : w1.cell? ⟨w.heap.size + 1, 2, none⟩ = some (.int .u8 0) := HK.out.cell 2
  have d3 : w1.cell? ⟨w.heap.size + 1, 3, none⟩ = some (.int .u8 0) := HK.out.cell 3
  have f0 := HK.out.frozen 0
  have f1 := HK.out.frozen 1
  have f2 := HK.out.frozen 2
  have f3 := HK.out.frozen 3
  go_wp2
  have hbk := (((HK.out.set_ 0 (.int .u8 (o 0))).set_ 1 (.int .u8 (o 1))).set_ 2 (.int .u8 (o 2))).set_ 3 (.int .u8 (o 3))
  have e0 := hbk.cell 0
  have e1 := hbk.cell 1
  have e2 := hbk.cell 2
  have e3 := hbk.cell 3
  refine bodyPost_ret (v := .agg (col o)) ?_ rfl ⟨rfl, ?_⟩
  · simp [results, Try.results26, go_sem, e0, e1, e2, e3]
  · have hbel : Below w.heap.size w w1 := ((((Below.refl _ _).alloc (Nat.le_refl _) _).alloc (by simp) _).trans (hb1.mono (by simp; omega)))
    exact (((hbel.setCell (show w.heap.size ≤ w.heap.size + 1 by omega) _).setCell (show w.heap.size ≤ w.heap.size + 1 by omega) _).setCell (show w.heap.size ≤ w.heap.size + 1 by omega) _).setCell (show w.heap.size ≤ w.heap.size + 1 by omega) _

theorem rows_mix (c : Nat → Nat) (hc : ∀ k, c k < 256) (w : World) :
    Calls Try.prog 32 #[.agg #[.int .u8 2, .int .u8 3, .int .u8 1, .int .u8 1], .agg #[.int .u8 (c 0), .int .u8 (c 1), .int .u8 (c 2), .int .u8 (c 3)]] w fun e w' => e = .returned (.agg (col (mix c))) ∧ Below w.heap.size w w' :=
  rows_any mixF c (fun _ => mixF_lt _) hc w
set_option maxHeartbeats 1600000 in
theorem refmix_any (c : Nat → Nat) (hc : ∀ k, c k < 256) (w : World) :
    Calls Try.prog 25 #[.agg (col c)] w fun e w' => e = .returned (.agg (col (mix c))) ∧ Below w.heap.size w w' := by
  have HB := Lib.hid (fun W => rows_mix c hc W)
  obtain ⟨o, HO⟩ : ∃ o, Hid (o = mix c) := ⟨_, rfl⟩
  rw [← HO.out] at HB ⊢
  clear hc
  go_enter Try.func25, Try.ntmps25
  go_wp2_with fail
  refine (HB.out _).mono ?_
  rintro e w1 ⟨rfl, hb1⟩
  have hbk0 : Blk w1 (w.heap.size + 1) 33 (col fun _ => 0) := Blk.below (Blk.new' _ _ _ _ (by simp)) hb1 (by simp)
  have HK := Lib.hid hbk0
  clear hbk0
  have d0 : w1.cell? ⟨w.heap.size + 1, 0, none⟩ = some (.int .u8 0) := HK.out.cell 0
  have d1 : w1.cell? ⟨w.heap.size + 1, 1, none⟩ = some (.int .u8 0) := HK.out.cell 1
  have d2 : w1.cell? ⟨w.heap.size + 1, 2, none⟩ = some (.int .u8 0) := HK.out.cell 2
  have d3 : w1.cell? ⟨w.heap.size + 1, 3, none⟩ = some (.int .u8 0) := HK.out.cell 3
  have f0 := HK.out.frozen 0
  have f1 := HK.out.frozen 1
  have f2 := HK.out.frozen 2
  have f3 := HK.out.frozen 3
  go_wp2
  have hbk := (((HK.out.set_ 0 (.int .u8 (o 0))).set_ 1 (.int .u8 (o 1))).set_ 2 (.int .u8 (o 2))).set_ 3 (.int .u8 (o 3))
  have e0 := hbk.cell 0
  have e1 := hbk.cell 1
  have e2 := hbk.cell 2
  have e3 := hbk.cell 3
  refine bodyPost_ret (v := .agg (col o)) ?_ rfl ⟨rfl, ?_⟩
  · simp [results, Try.results25, go_sem, e0, e1, e2, e3]
  · have hbel : Below w.heap.size w w1 := ((((Below.refl _ _).alloc (Nat.le_refl _) _).alloc (by simp) _).trans (hb1.mono (by simp; omega)))
    exact (((hbel.setCell (show w.heap.size ≤ w.heap.size + 1 by omega) _).setCell (show w.heap.size ≤ w.heap.size + 1 by omega) _).setCell (show w.heap.size ≤ w.heap.size + 1 by omega) _).setCell (show w.heap.size ≤ w.heap.size + 1 by omega) _

theorem rows_unmix (c : Nat → Nat) (hc : ∀ k, c k < 256) (w : World) :
    Calls Try.prog 32 #[.agg #[.int .u8 14, .int .u8 11, .int .u8 13, .int .u8 9], .agg #[.int .u8 (c 0), .int .u8 (c 1), .int .u8 (c 2), .int .u8 (c 3)]] w fun e w' => e = .returned (.agg (col (unmix c))) ∧ Below w.heap.size w w' :=
  rows_any unmixF c (fun _ => unmixF_lt _) hc w
set_option maxHeartbeats 1600000 in
theorem refunmix_any (c : Nat → Nat) (hc : ∀ k, c k < 256) (w : World) :
    Calls Try.prog 27 #[.agg (col c)] w fun e w' => e = .returned (.agg (col (unmix c))) ∧ Below w.heap.size w w' := by
  have HB := Lib.hid (fun W => rows_unmix c hc W)
  obtain ⟨o, HO⟩ : ∃ o, Hid (o = unmix c) := ⟨_, rfl⟩
  rw [← HO.out] at HB ⊢
  clear hc
  go_enter Try.func27, Try.ntmps27
  go_wp2_with fail
  refine (HB.out _).mono ?_
  rintro e w1 ⟨rfl, hb1⟩
  have hbk0 : Blk w1 (w.heap.size + 1) 33 (col fun _ => 0) := Blk.below (Blk.new' _ _ _ _ (by simp)) hb1 (by simp)
  have HK := Lib.hid hbk0
  clear hbk0
  have d0 : w1.cell? ⟨w.heap.size + 1, 0, none⟩ = some (.int .u8 0) := HK.out.cell 0
  have d1 : w1.cell? ⟨w.heap.size + 1, 1, none⟩ = some (.int .u8 0) := HK.out.cell 1
  have d2 : w1.cell? ⟨w.heap.size + 1, 2, none⟩ = some (.int .u8 0) := HK.out.cell 2
  have d3 : w1.cell? ⟨w.heap.size + 1, 3, none⟩ = some (.int .u8 0) := HK.out.cell 3
  have f0 := HK.out.frozen 0
  have f1 := HK.out.frozen 1
  have f2 := HK.out.frozen 2
  have f3 := HK.out.frozen 3
  go_wp2
  have hbk := (((HK.out.set_ 0 (.int .u8 (o 0))).set_ 1 (.int .u8 (o 1))).set_ 2 (.int .u8 (o 2))).set_ 3 (.int .u8 (o 3))
  have e0 := hbk.cell 0
  have e1 := hbk.cell 1
  have e2 := hbk.cell 2
  have e3 := hbk.cell 3
  refine bodyPost_ret (v := .agg (col o)) ?_ rfl ⟨rfl, ?_⟩
  · simp [results, Try.results27, go_sem, e0, e1, e2, e3]
  · have hbel : Below w.heap.size w w1 := ((((Below.refl _ _).alloc (Nat.le_refl _) _).alloc (by simp) _).trans (hb1.mono (by simp; omega)))
    exact (((hbel.setCell (show w.heap.size ≤ w.heap.size + 1 by omega) _).setCell (show w.heap.size ≤ w.heap.size + 1 by omega) _).setCell (show w.heap.size ≤ w.heap.size + 1 by omega) _).setCell (show w.heap.size ≤ w.heap.size + 1 by omega) _

end Go.Proofs.Ytfmgpnaahkpmiaa
