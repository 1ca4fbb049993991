/- Contracts: a column times rows. -/
import Derived.Test.YtfmgpnaahkpmiaaGalD
import Derived.StillTailTactics
set_option linter.unusedVariables false
namespace Go.Proofs.Ytfmgpnaahkpmiaa
open Go.RowKit Gal

/-- A row's products with a column, k of them added. -/
def dot (r c : Nat → Nat) : Nat → Nat
  | 0 => 0
  | k + 1 => dot r c k ^^^ gm (r k) (c k)
theorem dot_lt (r c : Nat → Nat) (hr : ∀ k, r k < 256) : ∀ k, dot r c k < 256
  | 0 => by simp [dot]
  | k + 1 => xor_lt _ _ (dot_lt r c hr k) (gm_lt _ _ (hr k))
/-- Four numbers as a column. -/
abbrev col (o : Nat → Nat) : Array Value := #[.int .u8 (o 0), .int .u8 (o 1), .int .u8 (o 2), .int .u8 (o 3)]
abbrev rows16 (r : Nat → Nat → Nat) : Array Value := #[.int .u8 (r 0 0), .int .u8 (r 0 1), .int .u8 (r 0 2), .int .u8 (r 0 3), .int .u8 (r 1 0), .int .u8 (r 1 1), .int .u8 (r 1 2), .int .u8 (r 1 3),
        .int .u8 (r 2 0), .int .u8 (r 2 1), .int .u8 (r 2 2), .int .u8 (r 2 3), .int .u8 (r 3 0), .int .u8 (r 3 1), .int .u8 (r 3 2), .int .u8 (r 3 3)]
theorem four {P : Nat → Prop} (h0 : P 0) (h1 : P 1) (h2 : P 2) (h3 : P 3) : ∀ k, k < 4 → P k
  | 0, _ => h0
  | 1, _ => h1
  | 2, _ => h2
  | 3, _ => h3
theorem col_at (o : Nat → Nat) : ∀ k, k < 4 → (col o)[k]? = some (.int .u8 (o k)) := four rfl rfl rfl rfl
theorem col_set (o : Nat → Nat) (v : Nat) : ∀ k, k < 4 → (col o).setIfInBounds k (.int .u8 v) = col (fun j => if j = k then v else o j) := four rfl rfl rfl rfl

theorem mul_still (a b : Nat) (ha : a < 256) (hb : b < 256) (w : World) : Calls Try.prog 13 #[.int .u8 a, .int .u8 b] w fun e w'' => e = .returned (.int .u8 (gm a b)) ∧ w'' = w :=
  (mul_any a b ha hb w).mono fun e w' ⟨he, hw⟩ => ⟨he, hw.symm⟩
theorem index_col (o : Nat → Nat) : ∀ k : Nat, k < 4 → ∀ W : World, (Instr.index 33 (.agg (col o)) (.int .i64 (k : Int))).run Try.prog W = .ok (.int .u8 (o k)) W
  | 0, _, _ => by kernel_rfl
  | 1, _, _ => by kernel_rfl
  | 2, _, _ => by kernel_rfl
  | 3, _, _ => by kernel_rfl
theorem index_rows (r : Nat → Nat → Nat) : ∀ k : Nat, k < 4 → ∀ W : World, (Instr.index 41 (.agg (rows16 r)) (.int .i64 (k : Int))).run Try.prog W = .ok (.agg (col (r k))) W
  | 0, _, _ => by kernel_rfl
  | 1, _, _ => by kernel_rfl
  | 2, _, _ => by kernel_rfl
  | 3, _, _ => by kernel_rfl

set_option maxHeartbeats 6400000 in
set_option maxRecDepth 20000 in
theorem by_any (r : Nat → Nat → Nat) (c : Nat → Nat) (hr : ∀ i k, r i k < 256) (hc : ∀ k, c k < 256) (w : World) :
    Calls Try.prog 31 #[.agg (rows16 r), .agg (col c)] w
      fun e w' => e = .returned (.agg (col fun i => dot (r i) c 4)) ∧ Below w.heap.size w w' := by
  have HC := Lib.hid hc
  have HR := Lib.hid hr
  clear hc hr
  go_enter Try.func31, Try.ntmps31
  go_wp2
  obtain ⟨B1, hB1⟩ : ∃ B, B = w.heap.size + 1 := ⟨_, rfl⟩
  obtain ⟨B2, hB2⟩ : ∃ B, B = w.heap.size + 1 + 1 := ⟨_, rfl⟩
  obtain ⟨B3, hB3⟩ : ∃ B, B = w.heap.size + 1 + 1 + 1 := ⟨_, rfl⟩
  rw [← hB3, ← hB2, ← hB1]
  have H1 := Lib.hid hB1
  have H2 := Lib.hid hB2
  have H3 := Lib.hid hB3
  have l1 : w.heap.size < B1 := by omega
  have l2 : B1 < B2 := by omega
  have l3 : B2 < B3 := by omega
  clear hB1 hB2 hB3
  go_loopw [11] (fun z wr => ∃ (i : Nat) (o : Nat → Nat), i ≤ 4 ∧ z = .int .i64 i ∧ Blk wr B3 33 (col o) ∧ (∀ j, j < 4 → o j = if j < i then dot (r j) c 4 else 0) ∧
      Blk wr B2 33 (col fun _ => 0) ∧ Blk wr B1 33 (col c) ∧ Below w.heap.size w wr)
    (fun z _ => 4 - (intOf z).toNat)
  case atStart =>
    refine ⟨0, fun _ => 0, by omega, rfl, ?_, fun j hj => by rw [if_neg (by omega)], ?_, ?_, ?_⟩
    · rw [H3.out]; exact Blk.new' _ _ _ _ (by simp)
    · rw [H2.out]; exact (Blk.new' _ _ _ _ (by simp)).alloc _
    · rw [H1.out]; exact ((Blk.new' _ _ _ _ (by simp)).alloc _).alloc _
    · exact ((((Below.refl _ _).alloc (Nat.le_refl _) _).alloc (by simp) _).alloc (by simp; omega) _).alloc (by simp; omega) _
  case round =>
    obtain ⟨i, o, hi, rfl, hbo, ho, hbr, hbc, hbel⟩ := hrel
    have HO := Lib.hid ho
    have HBo := Lib.hid hbo
    have HBr := Lib.hid hbr
    have HBc := Lib.hid hbc
    clear ho hbo hbr hbc
    have hsz := HBo.out.lt
    have hbs := hbel.size
    by_cases hlt : i < 4
    · have hix := index_rows r i hlt
      have hdi : decide ((i : Int) < 4) = true := by simp; omega
      go_wp2
      obtain ⟨q, HQ⟩ : ∃ q, Hid (q = r i) := ⟨_, rfl⟩
      rw [← HQ.out]
      clear hix
      obtain ⟨wo, hwo⟩ : ∃ wo, wo = wr := ⟨_, rfl⟩
      rw [← hwo] at HBo HBr HBc hsz hbs hbel ⊢
      clear hwo
      go_loopw [16] (fun z wr => ∃ (k : Nat) (p : Nat → Nat), k ≤ 4 ∧ z = .int .i64 k ∧ Blk wr B3 33 (col p) ∧ (∀ j, j < 4 → p j = if j = i then dot q c k else o j) ∧
          Blk wr B2 33 (col fun _ => 0) ∧ Blk wr B1 33 (col c) ∧ Below w.heap.size w wr)
        (fun z _ => 4 - (intOf z).toNat)
      case atStart =>
        refine ⟨0, o, by omega, rfl, HBo.out.alloc _, ?_, HBr.out.alloc _, HBc.out.alloc _, hbel.alloc hbs _⟩
        intro j hj
        by_cases hji : j = i
        · subst hji
          rw [if_pos rfl, HO.out j hj, if_neg (by omega)]
          rfl
        · rw [if_neg hji]
      case round =>
        obtain ⟨k, p, hk, rfl, hbo, hp, hbr, hbc, hbel2⟩ := hrel
        have HP := Lib.hid hp
        have HCo := Lib.hid hbo
        have HCr := Lib.hid hbr
        have HCc := Lib.hid hbc
        clear hp hbo hbr hbc
        by_cases hlk : k < 4
        · have hik := index_col q k hlk
          have hpi : p i = dot q c k := by rw [HP.out i hlt, if_pos rfl]
          have hco : wr.cell? ⟨B3, i, none⟩ = some (.int .u8 (dot q c k)) := by rw [HCo.out.cell i, col_at p i hlt, hpi]
          have hcc : wr.cell? ⟨B1, k, none⟩ = some (.int .u8 (c k)) := by rw [HCc.out.cell k, col_at c k hlk]
          have hfr : wr.frozen? ⟨B3, i, none⟩ = false := HCo.out.frozen i
          have hqk : q k < 256 := by rw [HQ.out]; exact HR.out i k
          have hck : c k < 256 := HC.out k
          have hD : dot q c k < 256 := dot_lt q c (fun j => by rw [HQ.out]; exact HR.out i j) k
          have M := Lib.hid (fun W => mul_still (q k) (c k) hqk hck W)
          have hm := gm_lt (q k) (c k) hqk
          have hxo : bits .xor .u8 (dot q c k : Int) (gm (q k) (c k) : Int) = (dot q c (k + 1) : Int) := bxor _ _ _ hD hm rfl
          have hi4 : (i : Int) < 4 := by omega
          have hk4 : (k : Int) < 4 := by omega
          clear hpi
          go_wp2
          refine wp_region_still_tail 10 (by kernel_rfl) (by kernel_rfl) ?_
          simp only [List.take_succ_cons, List.take_zero, List.drop_succ_cons, List.drop_zero]
          repeat still_step
          still_call (M.out _)
          repeat still_step
          refine wpStill_nil ?_
          change wpList _ _ _ _ _ wr.drew
          go_wp2
          go_roundw
          case rel =>
            refine ⟨k + 1, fun j => if j = i then dot q c (k + 1) else p j, by omega, by go_num, ?_, ?_, ?_, ?_, ?_⟩
            · have := (HCo.out.set_ i (.int .u8 (dot q c (k + 1)))).drew
              rw [col_set p _ i hlt] at this
              exact this
            · intro j hj
              by_cases hji : j = i
              · simp only [hji, if_pos]
              · simp only [hji, if_false]
                rw [HP.out j hj, if_neg hji]
            · exact (HCr.out.far (show B2 ≠ B3 by omega) _).drew
            · exact (HCc.out.far (show B1 ≠ B3 by omega) _).drew
            · exact (hbel2.setCell (show w.heap.size ≤ B3 by omega) _).drew
          case measure => first | (simp [intOf]; done) | (simp [intOf]; omega)
        · obtain rfl : k = 4 := by omega
          go_wp2
          go_roundw
          case rel =>
            refine ⟨i + 1, p, by omega, by go_num, HCo.out, ?_, HCr.out, HCc.out, hbel2⟩
            intro j hj
            rw [HP.out j hj]
            by_cases hji : j = i
            · subst hji
              rw [if_pos rfl, if_pos (by omega), HQ.out]
            · rw [if_neg hji, HO.out j hj]
              by_cases hj2 : j < i
              · rw [if_pos hj2, if_pos (by omega)]
              · rw [if_neg hj2, if_neg (by omega)]
          case measure => first | (simp [intOf]; done) | (simp [intOf]; omega)
    · obtain rfl : i = 4 := by omega
      have hoj : Hid (col o = col fun i => dot (r i) c 4) := by
        have h0 := HO.out 0 (by omega)
        have h1 := HO.out 1 (by omega)
        have h2 := HO.out 2 (by omega)
        have h3 := HO.out 3 (by omega)
        show col o = _
        simp only [col]
        rw [h0, h1, h2, h3]
        rfl
      have c0 : wr.cell? ⟨B3, 0, none⟩ = some (.int .u8 (o 0)) := HBo.out.cell 0
      have c1 : wr.cell? ⟨B3, 1, none⟩ = some (.int .u8 (o 1)) := HBo.out.cell 1
      have c2 : wr.cell? ⟨B3, 2, none⟩ = some (.int .u8 (o 2)) := HBo.out.cell 2
      have c3 : wr.cell? ⟨B3, 3, none⟩ = some (.int .u8 (o 3)) := HBo.out.cell 3
      have d0 : wr.cell? ⟨B2, 0, none⟩ = some (.int .u8 0) := HBr.out.cell 0
      have d1 : wr.cell? ⟨B2, 1, none⟩ = some (.int .u8 0) := HBr.out.cell 1
      have d2 : wr.cell? ⟨B2, 2, none⟩ = some (.int .u8 0) := HBr.out.cell 2
      have d3 : wr.cell? ⟨B2, 3, none⟩ = some (.int .u8 0) := HBr.out.cell 3
      have f0 := HBr.out.frozen 0
      have f1 := HBr.out.frozen 1
      have f2 := HBr.out.frozen 2
      have f3 := HBr.out.frozen 3
      go_wp2
      have hbk := (((HBr.out.set_ 0 (.int .u8 (o 0))).set_ 1 (.int .u8 (o 1))).set_ 2 (.int .u8 (o 2))).set_ 3 (.int .u8 (o 3))
      have e0 := hbk.cell 0
      have e1 := hbk.cell 1
      have e2 := hbk.cell 2
      have e3 := hbk.cell 3
      refine bodyPost_ret (v := .agg (col o)) ?_ rfl ⟨by rw [hoj.out], ?_⟩
      · simp [results, Try.results31, go_sem, e0, e1, e2, e3]
      · exact (((hbel.setCell (show w.heap.size ≤ B2 by omega) _).setCell (show w.heap.size ≤ B2 by omega) _).setCell (show w.heap.size ≤ B2 by omega) _).setCell (show w.heap.size ≤ B2 by omega) _
end Go.Proofs.Ytfmgpnaahkpmiaa
