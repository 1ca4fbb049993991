/- Contracts: rows as the reference turns them; columns mixed and unmixed, all four. -/
import Derived.Test.YtfmgpnaahkpmiaaGalE
set_option linter.unusedVariables false
namespace Go.Proofs.Ytfmgpnaahkpmiaa
open Go.RowKit Gal

theorem refmul_still (a b : Nat) (ha : a < 256) (hb : b < 256) (w : World) : Calls Try.prog 14 #[.int .u8 a, .int .u8 b] w fun e w'' => e = .returned (.int .u8 (gm a b)) ∧ w'' = w :=
  (refmul_any a b ha hb w).mono fun e w' ⟨he, hw⟩ => ⟨he, hw.symm⟩
/-- The reference's rows: the first one's numbers, turned on. -/
def turned (f : Nat → Nat) (i k : Nat) : Nat := f ((k + 4 - i) % 4)

set_option maxHeartbeats 6400000 in
set_option maxRecDepth 20000 in
theorem rows_any (f : Nat → Nat) (c : Nat → Nat) (hf : ∀ k, f k < 256) (hc : ∀ k, c k < 256) (w : World) :
    Calls Try.prog 32 #[.agg (col f), .agg (col c)] w
      fun e w' => e = .returned (.agg (col fun i => dot (turned f i) c 4)) ∧ Below w.heap.size w w' := by
  have HC := Lib.hid hc
  have HF := Lib.hid hf
  clear hc hf
  go_enter Try.func32, Try.ntmps32
  go_wp2
  obtain ⟨B0, hB0⟩ : ∃ B, B = w.heap.size := ⟨_, rfl⟩
  obtain ⟨B1, hB1⟩ : ∃ B, B = w.heap.size + 1 := ⟨_, rfl⟩
  obtain ⟨B2, hB2⟩ : ∃ B, B = w.heap.size + 1 + 1 := ⟨_, rfl⟩
  obtain ⟨B3, hB3⟩ : ∃ B, B = w.heap.size + 1 + 1 + 1 := ⟨_, rfl⟩
  rw [← hB3, ← hB2, ← hB1]
  have H0 := Lib.hid hB0
  have H1 := Lib.hid hB1
  have H2 := Lib.hid hB2
  have H3 := Lib.hid hB3
  have l1 : w.heap.size < B1 := by omega
  have l2 : B1 < B2 := by omega
  have l3 : B2 < B3 := by omega
  clear hB0 hB1 hB2 hB3
  go_loopw [6] (fun z wr => ∃ (i : Nat) (o : Nat → Nat), i ≤ 4 ∧ z = .int .i64 i ∧ Blk wr B3 33 (col o) ∧ (∀ j, j < 4 → o j = if j < i then dot (turned f j) c 4 else 0) ∧
      Blk wr B2 33 (col fun _ => 0) ∧ Blk wr B1 33 (col c) ∧ Blk wr w.heap.size 33 (col f) ∧ Below w.heap.size w wr)
    (fun z _ => 4 - (intOf z).toNat)
  case atStart =>
    refine ⟨0, fun _ => 0, by omega, rfl, ?_, fun j hj => by rw [if_neg (by omega)], ?_, ?_, ?_, ?_⟩
    · rw [H3.out]; exact Blk.new' _ _ _ _ (by simp)
    · rw [H2.out]; exact (Blk.new' _ _ _ _ (by simp)).alloc _
    · rw [H1.out]; exact ((Blk.new' _ _ _ _ (by simp)).alloc _).alloc _
    · exact (((Blk.new' _ _ _ _ (by simp)).alloc _).alloc _).alloc _
    · exact ((((Below.refl _ _).alloc (Nat.le_refl _) _).alloc (by simp) _).alloc (by simp; omega) _).alloc (by simp; omega) _
  case round =>
    obtain ⟨i, o, hi, rfl, hbo, ho, hbr, hbc, hbf, hbel⟩ := hrel
    have HO := Lib.hid ho
    have HBo := Lib.hid hbo
    have HBr := Lib.hid hbr
    have HBc := Lib.hid hbc
    have HBf := Lib.hid hbf
    clear ho hbo hbr hbc hbf
    have hsz := HBo.out.lt
    have hbs := hbel.size
    by_cases hlt : i < 4
    · have hdi : decide ((i : Int) < 4) = true := by simp; omega
      go_wp2
      obtain ⟨q, HQ⟩ : ∃ q, Hid (q = turned f i) := ⟨_, rfl⟩
      obtain ⟨wo, hwo⟩ : ∃ wo, wo = wr := ⟨_, rfl⟩
      rw [← hwo] at HBo HBr HBc HBf hsz hbs hbel ⊢
      clear hwo
      go_loopw [7] (fun z wr => ∃ (k : Nat) (p : Nat → Nat), k ≤ 4 ∧ z = .int .i64 k ∧ Blk wr B3 33 (col p) ∧ (∀ j, j < 4 → p j = if j = i then dot q c k else o j) ∧
          Blk wr B2 33 (col fun _ => 0) ∧ Blk wr B1 33 (col c) ∧ Blk wr w.heap.size 33 (col f) ∧ Below w.heap.size w wr)
        (fun z _ => 4 - (intOf z).toNat)
      case atStart =>
        refine ⟨0, o, by omega, rfl, HBo.out, ?_, HBr.out, HBc.out, HBf.out, hbel⟩
        intro j hj
        by_cases hji : j = i
        · subst hji
          rw [if_pos rfl, HO.out j hj, if_neg (by omega)]
          rfl
        · rw [if_neg hji]
      case round =>
        obtain ⟨k, p, hk, rfl, hbo, hp, hbr, hbc, hbf, hbel2⟩ := hrel
        have HP := Lib.hid hp
        have HCo := Lib.hid hbo
        have HCr := Lib.hid hbr
        have HCc := Lib.hid hbc
        have HCf := Lib.hid hbf
        clear hp hbo hbr hbc hbf
        by_cases hlk : k < 4
        · have hpi : p i = dot q c k := by rw [HP.out i hlt, if_pos rfl]
          have hm4 : (k + 4 - i) % 4 < 4 := Nat.mod_lt _ (by omega)
          obtain ⟨m, hm⟩ : ∃ m, m = (k + 4 - i) % 4 := ⟨_, rfl⟩
          have hqm : q k = f m := by rw [HQ.out, hm]; rfl
          rw [← hm] at hm4
          have hw1 : IntKind.i64.wrap ((k : Int) - (i : Int)) = (k : Int) - (i : Int) := IntWalk.i64_in _ (by omega)
          have hw2 : IntKind.i64.wrap ((k : Int) - (i : Int) + 4) = (k : Int) - (i : Int) + 4 := IntWalk.i64_in _ (by omega)
          have hw3 : ((k : Int) - (i : Int) + 4).tmod 4 = (m : Int) := by
            rw [Int.tmod_eq_emod_of_nonneg (by omega), hm]; omega
          have hco : wr.cell? ⟨B3, i, none⟩ = some (.int .u8 (dot q c k)) := by rw [HCo.out.cell i, col_at p i hlt, hpi]
          have hcc : wr.cell? ⟨B1, k, none⟩ = some (.int .u8 (c k)) := by rw [HCc.out.cell k, col_at c k hlk]
          have hcf : wr.cell? ⟨w.heap.size, m, none⟩ = some (.int .u8 (q k)) := by rw [HCf.out.cell m, col_at f m hm4, hqm]
          have hfr : wr.frozen? ⟨B3, i, none⟩ = false := HCo.out.frozen i
          have hqk : q k < 256 := by rw [hqm]; exact HF.out m
          have hck : c k < 256 := HC.out k
          have hD : dot q c k < 256 := dot_lt q c (fun j => by rw [HQ.out]; exact HF.out _) k
          have M := Lib.hid (fun W => refmul_still (q k) (c k) hqk hck W)
          have hgm := gm_lt (q k) (c k) hqk
          have hxo : bits .xor .u8 (dot q c k : Int) (gm (q k) (c k) : Int) = (dot q c (k + 1) : Int) := bxor _ _ _ hD hgm rfl
          have hi4 : (i : Int) < 4 := by omega
          have hk4 : (k : Int) < 4 := by omega
          have hm4' : (m : Int) < 4 := by omega
          clear hpi hqm hm
          go_wp2
          refine wp_region_still_tail 17 (by kernel_rfl) (by kernel_rfl) ?_
          simp only [List.take_succ_cons, List.take_zero, List.drop_succ_cons, List.drop_zero]
          repeat still_step
          still_call (M.out _)
          repeat still_step
          refine wpStill_nil ?_
          change wpList _ _ _ _ _ wr.drew
          go_wp2
          go_roundw
          case rel =>
            refine ⟨k + 1, fun j => if j = i then dot q c (k + 1) else p j, by omega, by go_num, ?_, ?_, ?_, ?_, ?_, ?_⟩
            · have := (HCo.out.set_ i (.int .u8 (dot q c (k + 1)))).drew
              rw [col_set p _ i hlt] at this
              exact this
            · intro j hj
              by_cases hji : j = i
              · simp only [hji, if_pos]
              · simp only [hji, if_false]
                rw [HP.out j hj, if_neg hji]
            · exact (HCr.out.far (show B2 ≠ B3 by omega) _).drew
            · exact (HCc.out.far (show B1 ≠ B3 by omega) _).drew
            · exact (HCf.out.far (show w.heap.size ≠ B3 by omega) _).drew
            · exact (hbel2.setCell (show w.heap.size ≤ B3 by omega) _).drew
          case measure => first | (simp [intOf]; done) | (simp [intOf]; omega)
        · obtain rfl : k = 4 := by omega
          go_wp2
          go_roundw
          case rel =>
            refine ⟨i + 1, p, by omega, by go_num, HCo.out, ?_, HCr.out, HCc.out, HCf.out, hbel2⟩
            intro j hj
            rw [HP.out j hj]
            by_cases hji : j = i
            · subst hji
              rw [if_pos rfl, if_pos (by omega), HQ.out]
            · rw [if_neg hji, HO.out j hj]
              by_cases hj2 : j < i
              · rw [if_pos hj2, if_pos (by omega)]
              · rw [if_neg hj2, if_neg (by omega)]
          case measure => first | (simp [intOf]; done) | (simp [intOf]; omega)
    · obtain rfl : i = 4 := by omega
      have hoj : Hid (col o = col fun i => dot (turned f i) c 4) := by
        have h0 := HO.out 0 (by omega)
        have h1 := HO.out 1 (by omega)
        have h2 := HO.out 2 (by omega)
        have h3 := HO.out 3 (by omega)
        show col o = _
        simp only [col]
        rw [h0, h1, h2, h3]
        rfl
      have c0 : wr.cell? ⟨B3, 0, none⟩ = some (.int .u8 (o 0)) := HBo.out.cell 0
      have c1 : wr.cell? ⟨B3, 1, none⟩ = some (.int .u8 (o 1)) := HBo.out.cell 1
      have c2 : wr.cell? ⟨B3, 2, none⟩ = some (.int .u8 (o 2)) := HBo.out.cell 2
      have c3 : wr.cell? ⟨B3, 3, none⟩ = some (.int .u8 (o 3)) := HBo.out.cell 3
      have d0 : wr.cell? ⟨B2, 0, none⟩ = some (.int .u8 0) := HBr.out.cell 0
      have d1 : wr.cell? ⟨B2, 1, none⟩ = some (.int .u8 0) := HBr.out.cell 1
      have d2 : wr.cell? ⟨B2, 2, none⟩ = some (.int .u8 0) := HBr.out.cell 2
      have d3 : wr.cell? ⟨B2, 3, none⟩ = some (.int .u8 0) := HBr.out.cell 3
      have f0 := HBr.out.frozen 0
      have f1 := HBr.out.frozen 1
      have f2 := HBr.out.frozen 2
      have f3 := HBr.out.frozen 3
      go_wp2
      have hbk := (((HBr.out.set_ 0 (.int .u8 (o 0))).set_ 1 (.int .u8 (o 1))).set_ 2 (.int .u8 (o 2))).set_ 3 (.int .u8 (o 3))
      have e0 := hbk.cell 0
      have e1 := hbk.cell 1
      have e2 := hbk.cell 2
      have e3 := hbk.cell 3
      refine bodyPost_ret (v := .agg (col o)) ?_ rfl ⟨by rw [hoj.out], ?_⟩
      · simp [results, Try.results32, go_sem, e0, e1, e2, e3]
      · exact (((hbel.setCell (show w.heap.size ≤ B2 by omega) _).setCell (show w.heap.size ≤ B2 by omega) _).setCell (show w.heap.size ≤ B2 by omega) _).setCell (show w.heap.size ≤ B2 by omega) _
end Go.Proofs.Ytfmgpnaahkpmiaa
