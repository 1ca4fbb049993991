/- Contracts: graft.Without. -/
import Derived.Test.YtgihcjmcefdkiaaGrWith
import Derived.Test.YtgihcjmcefdkiaaGrPart
set_option linter.unusedVariables false
set_option linter.unusedSimpArgs false
namespace Go.Proofs.Ytgihcjmcefdkiaa
open Go.RowKit

/-- A node's entries without one of them. -/
def dropE (es : List Ent) (i : Nat) : List Ent := [es.take i, es.drop (i + 1)].flatten
theorem dropE_eq (es : List Ent) (i : Nat) : dropE es i = es.take i ++ es.drop (i + 1) := by simp [dropE]
theorem dropE_length {es : List Ent} {i : Nat} (h : i < es.length) : (dropE es i).length = es.length - 1 := by
  rw [dropE_eq, List.length_append, List.length_take, List.length_drop]; omega
theorem dropE_at {es : List Ent} {i : Nat} (h : i < es.length) (j : Nat) : (dropE es i).getD j ent0 = if j < i then es.getD j ent0 else es.getD (j + 1) ent0 := by
  rw [dropE_eq]
  simp only [List.getD_eq_getElem?_getD]
  by_cases h1 : j < i
  · rw [if_pos h1, List.getElem?_append_left (by rw [List.length_take]; omega), List.getElem?_take_of_lt h1]
  · rw [if_neg h1, List.getElem?_append_right (by rw [List.length_take]; omega), List.length_take, Nat.min_eq_left (by omega), List.getElem?_drop, show i + 1 + (j - i) = j + 1 by omega]
theorem shortE.dropE {es : List Ent} (h : shortE es) {i : Nat} (hi : i < es.length) : shortE (dropE es i) := fun j hj => by
  rw [dropE_length hi] at hj
  rw [dropE_at hi]
  split
  · exact h j (by omega)
  · exact h (j + 1) (by omega)
/-- What Without answers. -/
def woE (k l : Nat) (es : List Ent) (i : Int) : Int := if i < 0 ∨ (es.length : Int) ≤ i then 2 else rE k l es
set_option maxRecDepth 100000 in
set_option maxHeartbeats 3200000 in
theorem without_any (k l : Nat) (A : Option Addr) (n c : Nat) (es : List Ent) (i : Int) (w : World) (h : RdL w A n c es) (hk : k < 256) (hl : l < 256) (hN : n ≤ 9000) (hs : shortE es) (hi : i64In i) :
    Calls Try.prog 29 #[NdV k l A n c, .int .i64 i] w (OneP (woE k l es i) k l (mE k (dropE es i.toNat)) w) := by
  have hcap := h.cap
  have hmax := h.max
  unfold maxLen at hmax
  obtain ⟨hi1, hi2⟩ := hi
  have HLn := Lib.hid h.len
  have HS := Lib.hid hs
  obtain ⟨W, hW⟩ : ∃ W, W = (w.alloc (.cells #[.int .u8 (k : Int), .int .u8 (l : Int), .slice A n c] 24)).alloc (.cells #[.int .u8 0, .int .u8 0, .slice none 0 0] 24) := ⟨_, rfl⟩
  have HWB : Hid (Below w.heap.size w W) := by rw [hW]; exact (below_new _ _).alloc (by simp) _
  have KN : Hid (Blk W w.heap.size 24 (ndA k l A n c)) := by rw [hW]; exact (Blk.new _ _ _).alloc _
  have KZ : Hid (Blk W (w.heap.size + 1) 24 [Value.int .u8 0, .int .u8 0, .slice none 0 0].toArray) := by rw [hW]; exact Blk.new' _ _ _ _ (by simp)
  have HR := Lib.hid (h.below HWB.out)
  have HW := Lib.hid hW
  have hWs := KZ.out.lt
  have d0 : W.cell? ⟨w.heap.size, 0, none⟩ = some (.int .u8 (k : Int)) := KN.out.cell 0
  have d1 : W.cell? ⟨w.heap.size, 1, none⟩ = some (.int .u8 (l : Int)) := KN.out.cell 1
  have d2 : W.cell? ⟨w.heap.size, 2, none⟩ = some (.slice A n c) := KN.out.cell 2
  by_cases hbad : i < 0 ∨ (n : Int) ≤ i
  · have HE : Hid (woE k l es i = 2) := by show _ = _; rw [woE, if_pos (by rw [← HLn.out]; exact hbad)]
    rw [HE.out]
    rcases hbad with hb | hb
    · have e1 : decide (i < 0) = true := decide_eq_true hb
      clear h hs hW HE
      go_enter Try.func29, Try.ntmps29
      go_wp2_with fail
      rw [← HW.out]
      go_wp2_with fail
      have z0 := KZ.out.cell 0
      have z1 := KZ.out.cell 1
      have z2 := KZ.out.cell 2
      refine bodyPost_ret (v := .tuple #[NdV 0 0 none 0 0, .int .i64 2]) ?_ rfl (OneP.none_ (by decide) HWB.out)
      simp [results, Try.results29, go_sem, z0, z1, z2]
    · have e1 : decide (i < 0) = false := decide_eq_false (by omega)
      have e2 : decide (i ≥ (n : Int)) = true := decide_eq_true (by omega)
      clear h hs hW HE
      go_enter Try.func29, Try.ntmps29
      go_wp2_with fail
      rw [← HW.out]
      go_wp2_with fail
      have z0 := KZ.out.cell 0
      have z1 := KZ.out.cell 1
      have z2 := KZ.out.cell 2
      refine bodyPost_ret (v := .tuple #[NdV 0 0 none 0 0, .int .i64 2]) ?_ rfl (OneP.none_ (by decide) HWB.out)
      simp [results, Try.results29, go_sem, z0, z1, z2]
  · obtain ⟨p, hp⟩ := Int.eq_ofNat_of_zero_le (a := i) (by omega)
    subst hp
    have hpn : p < n := by omega
    have e1 : decide ((p : Int) < 0) = false := decide_eq_false (by omega)
    have e2 : decide (n ≤ p) = false := decide_eq_false (by omega)
    have e3 : decide ((p : Int) ≥ (n : Int)) = false := decide_eq_false (by omega)
    obtain ⟨L, HL⟩ : ∃ L, Hid (dropE es p = L) := ⟨_, rfl⟩
    obtain ⟨m, HMM⟩ : ∃ m, Hid (n - 1 = m) := ⟨_, rfl⟩
    have HLL : Hid (L.length = m) := by show _ = _; rw [← HL.out, dropE_length (by rw [← HLn.out]; exact hpn), ← HLn.out, HMM.out]
    have HLQ : Hid (m = L.length) := HLL.out.symm
    have HSL : Hid (shortE L) := by rw [← HL.out]; exact hs.dropE (by rw [← HLn.out]; exact hpn)
    obtain ⟨E, HEE⟩ : ∃ E, Hid (rE k l es = E) := ⟨_, rfl⟩
    have HE : Hid (woE k l es (p : Int) = E) := by
      show _ = _
      rw [woE, if_neg (by rw [← HLn.out]; omega), HEE.out]
    have et : dropE es ((p : Int)).toNat = L := by rw [Int.toNat_natCast]; exact HL.out
    rw [HE.out, et]
    have HM := Lib.hid (right_any k l A n c es W HR.out hk hl)
    rw [HEE.out] at HM
    clear h hs hW HE et hbad
    go_enter Try.func29, Try.ntmps29
    go_wp2_with fail
    rw [← HW.out]
    refine HM.out.mono ?_
    rintro e w1 ⟨rfl, hb1⟩
    have HB1 : Hid (Below W.heap.size W w1) := hb1
    have s1 := hb1.size
    have sx := HWB.out.size
    clear hb1 d0 d1 d2 HM
    by_cases he : E = 0
    · have hd : (E != 0) = false := by rw [he]; rfl
      have HE0 := Lib.hid he
      clear he
      have TR : Hid (∀ V, Below W.heap.size W V → (fun V => V.cell? ⟨w.heap.size, 0, none⟩ = some (.int .u8 (k : Int)) ∧ V.cell? ⟨w.heap.size, 1, none⟩ = some (.int .u8 (l : Int)) ∧ V.cell? ⟨w.heap.size, 2, none⟩ = some (.slice A n c) ∧ Below W.heap.size W V) V) := fun V hb => by
        have k1 := KN.out.below hb KN.out.lt
        exact ⟨k1.cell 0, k1.cell 1, k1.cell 2, hb⟩
      have hw1 : IntKind.i64.wrap ((p : Int) + 1) = (p : Int) + 1 := IntWalk.i64_in _ (by omega)
      go_upto_region 6 with fail
      go_cut [7] (fun s7 wx => ∃ g A' c', s7 = .pointer (some ⟨g, 0, none⟩) ∧ W.heap.size ≤ g ∧ Blk wx g 24 (ndA k l A' m c') ∧ OwnN wx W.heap.size A' m c' L ∧ Below W.heap.size W wx)
      case first =>
        refine region_gate 17 (fun V => V.cell? ⟨w.heap.size, 0, none⟩ = some (.int .u8 (k : Int)) ∧ V.cell? ⟨w.heap.size, 1, none⟩ = some (.int .u8 (l : Int)) ∧ V.cell? ⟨w.heap.size, 2, none⟩ = some (.slice A n c) ∧ Below W.heap.size W V) (by kernel_rfl) ?th1 (fun hHeld => ?tk1)
        case th1 => ((try dsimp only); exact TR.out _ HB1.out.drew)
        refine' takeV 0 (oi := _) (d := _) (v := _) ?ti2 ?td2 (by kernel_rfl) (by kernel_rfl) (by kernel_rfl) (by kernel_rfl) (by decide) (fun _ _ _ _ _ h => h) ?tg2 ?ty2 (by assumption) ?tr2
        case ti2 => (simp only [List.getElem?_toArray, List.getElem?_cons_succ, List.getElem?_cons_zero]; rfl)
        case td2 => exact rfl
        case tg2 => exact rfl
        case ty2 => (intro w hSw; (try dsimp only at hSw); go_split_ands; go_simp; try with_reducible rfl)
        simp only [List.setIfInBounds_toArray, List.set_cons_zero, List.set_cons_succ]
        refine' takeV 1 (oi := _) (d := _) (v := _) ?ti3 ?td3 (by kernel_rfl) (by kernel_rfl) (by kernel_rfl) (by kernel_rfl) (by decide) (fun _ _ _ _ _ h => h) ?tg3 ?ty3 (by assumption) ?tr3
        case ti3 => (simp only [List.getElem?_toArray, List.getElem?_cons_succ, List.getElem?_cons_zero]; rfl)
        case td3 => exact rfl
        case tg3 => exact rfl
        case ty3 => (intro w hSw; (try dsimp only at hSw); go_split_ands; go_simp; try with_reducible rfl)
        simp only [List.setIfInBounds_toArray, List.set_cons_zero, List.set_cons_succ]
        refine' takeV 2 (oi := _) (d := _) (v := _) ?ti4 ?td4 (by kernel_rfl) (by kernel_rfl) (by kernel_rfl) (by kernel_rfl) (by decide) (fun _ _ _ _ _ h => h) ?tg4 ?ty4 (by assumption) ?tr4
        case ti4 => (simp only [List.getElem?_toArray, List.getElem?_cons_succ, List.getElem?_cons_zero]; rfl)
        case td4 => exact rfl
        case tg4 => exact rfl
        case ty4 => (intro w hSw; (try dsimp only at hSw); go_split_ands; go_simp; try with_reducible rfl)
        simp only [List.setIfInBounds_toArray, List.set_cons_zero, List.set_cons_succ]
        refine' takeV 3 (oi := _) (d := _) (v := _) ?ti5 ?td5 (by kernel_rfl) (by kernel_rfl) (by kernel_rfl) (by kernel_rfl) (by decide) (fun _ _ _ _ _ h => h) ?tg5 ?ty5 (by assumption) ?tr5
        case ti5 => (simp only [List.getElem?_toArray, List.getElem?_cons_succ, List.getElem?_cons_zero]; rfl)
        case td5 => exact rfl
        case tg5 => exact rfl
        case ty5 => (intro w hSw; (try dsimp only at hSw); go_split_ands; go_simp; try with_reducible rfl)
        simp only [List.setIfInBounds_toArray, List.set_cons_zero, List.set_cons_succ]
        refine' takeV 4 (oi := _) (d := _) (v := _) ?ti6 ?td6 (by kernel_rfl) (by kernel_rfl) (by kernel_rfl) (by kernel_rfl) (by decide) (fun _ _ _ _ _ h => h) ?tg6 ?ty6 (by assumption) ?tr6
        case ti6 => (simp only [List.getElem?_toArray, List.getElem?_cons_succ, List.getElem?_cons_zero]; rfl)
        case td6 => exact rfl
        case tg6 => exact rfl
        case ty6 => (intro w hSw; (try dsimp only at hSw); go_split_ands; go_simp; try with_reducible rfl)
        simp only [List.setIfInBounds_toArray, List.set_cons_zero, List.set_cons_succ]
        refine' takeV 5 (oi := _) (d := _) (v := _) ?ti7 ?td7 (by kernel_rfl) (by kernel_rfl) (by kernel_rfl) (by kernel_rfl) (by decide) (fun _ _ _ _ _ h => h) ?tg7 ?ty7 (by assumption) ?tr7
        case ti7 => (simp only [List.getElem?_toArray, List.getElem?_cons_succ, List.getElem?_cons_zero]; rfl)
        case td7 => exact rfl
        case tg7 => exact rfl
        case ty7 => (intro w hSw; (try dsimp only at hSw); go_split_ands; go_simp; try with_reducible rfl)
        simp only [List.setIfInBounds_toArray, List.set_cons_zero, List.set_cons_succ]
        refine' takeV 6 (oi := _) (d := _) (v := _) ?ti8 ?td8 (by kernel_rfl) (by kernel_rfl) (by kernel_rfl) (by kernel_rfl) (by decide) (fun _ _ _ _ _ h => h) ?tg8 ?ty8 (by assumption) ?tr8
        case ti8 => (simp only [List.getElem?_toArray, List.getElem?_cons_succ, List.getElem?_cons_zero]; rfl)
        case td8 => exact rfl
        case tg8 => exact rfl
        case ty8 => (intro w hSw; (try dsimp only at hSw); go_split_ands; go_simp; try with_reducible rfl)
        simp only [List.setIfInBounds_toArray, List.set_cons_zero, List.set_cons_succ]
        refine' takeV 8 (oi := _) (d := _) (v := _) ?ti9 ?td9 (by kernel_rfl) (by kernel_rfl) (by kernel_rfl) (by kernel_rfl) (by decide) (fun _ _ _ _ _ h => h) ?tg9 ?ty9 (by assumption) ?tr9
        case ti9 => (simp only [List.getElem?_toArray, List.getElem?_cons_succ, List.getElem?_cons_zero]; rfl)
        case td9 => exact rfl
        case tg9 => exact rfl
        case ty9 => (intro w hSw; (try dsimp only at hSw); go_split_ands; go_simp; try with_reducible rfl)
        simp only [List.setIfInBounds_toArray, List.set_cons_zero, List.set_cons_succ]
        refine' takeV 9 (oi := _) (d := _) (v := _) ?ti10 ?td10 (by kernel_rfl) (by kernel_rfl) (by kernel_rfl) (by kernel_rfl) (by decide) (fun _ _ _ _ _ h => h) ?tg10 ?ty10 (by assumption) ?tr10
        case ti10 => (simp only [List.getElem?_toArray, List.getElem?_cons_succ, List.getElem?_cons_zero]; rfl)
        case td10 => exact rfl
        case tg10 => exact rfl
        case ty10 => (intro w hSw; (try dsimp only at hSw); go_split_ands; go_simp; try with_reducible rfl)
        simp only [List.setIfInBounds_toArray, List.set_cons_zero, List.set_cons_succ]
        refine' takeV 10 (oi := _) (d := _) (v := _) ?ti11 ?td11 (by kernel_rfl) (by kernel_rfl) (by kernel_rfl) (by kernel_rfl) (by decide) (fun _ _ _ _ _ h => h) ?tg11 ?ty11 (by assumption) ?tr11
        case ti11 => (simp only [List.getElem?_toArray, List.getElem?_cons_succ, List.getElem?_cons_zero]; rfl)
        case td11 => exact rfl
        case tg11 => exact rfl
        case ty11 => (intro w hSw; (try dsimp only at hSw); go_split_ands; go_simp; try with_reducible rfl)
        simp only [List.setIfInBounds_toArray, List.set_cons_zero, List.set_cons_succ]
        refine' takeV 11 (oi := _) (d := _) (v := _) ?ti12 ?td12 (by kernel_rfl) (by kernel_rfl) (by kernel_rfl) (by kernel_rfl) (by decide) (fun _ _ _ _ _ h => h) ?tg12 ?ty12 (by assumption) ?tr12
        case ti12 => (simp only [List.getElem?_toArray, List.getElem?_cons_succ, List.getElem?_cons_zero]; rfl)
        case td12 => exact rfl
        case tg12 => exact rfl
        case ty12 => (intro w hSw; (try dsimp only at hSw); go_split_ands; go_simp; try with_reducible rfl)
        simp only [List.setIfInBounds_toArray, List.set_cons_zero, List.set_cons_succ]
        refine' takeV 7 (oi := _) (d := _) (v := _) ?ti13 ?td13 (by kernel_rfl) (by kernel_rfl) (by kernel_rfl) (by kernel_rfl) (by decide) (fun _ _ _ _ _ h => h) ?tg13 ?ty13 (by assumption) ?tr13
        case ti13 => (simp only [List.getElem?_toArray, List.getElem?_cons_succ, List.getElem?_cons_zero]; rfl)
        case td13 => exact rfl
        case tg13 => exact rfl
        case ty13 => (intro w hSw; (try dsimp only at hSw); rw [exec_slice_to (.tmp 29) (.tmp 30) rfl (A := A) (n := n) (c := c) (i := p) rfl rfl (by omega) w])
        simp only [List.setIfInBounds_toArray, List.set_cons_zero, List.set_cons_succ]
        refine' takeV 12 (oi := _) (d := _) (v := _) ?ti14 ?td14 (by kernel_rfl) (by kernel_rfl) (by kernel_rfl) (by kernel_rfl) (by decide) (fun _ _ _ _ _ h => h) ?tg14 ?ty14 (by assumption) ?tr14
        case ti14 => (simp only [List.getElem?_toArray, List.getElem?_cons_succ, List.getElem?_cons_zero]; rfl)
        case td14 => exact rfl
        case tg14 => exact rfl
        case ty14 => (intro w hSw; (try dsimp only at hSw); rw [exec_slice_from (.tmp 33) (.tmp 35) rfl (A := A) (n := n) (c := c) (i := p + 1) rfl rfl hpn w])
        simp only [List.setIfInBounds_toArray, List.set_cons_zero, List.set_cons_succ]
        obtain ⟨V0, hV0⟩ : ∃ V0, V0 = w1.drew := ⟨_, rfl⟩
        have B0 : Hid (Below W.heap.size W V0) := by rw [hV0]; exact HB1.out.drew
        rw [← hV0] at hHeld ⊢
        clear hV0 hw1
        have keepS : ∀ wa wb : World, (fun V => V.cell? ⟨w.heap.size, 0, none⟩ = some (.int .u8 (k : Int)) ∧ V.cell? ⟨w.heap.size, 1, none⟩ = some (.int .u8 (l : Int)) ∧ V.cell? ⟨w.heap.size, 2, none⟩ = some (.slice A n c) ∧ Below W.heap.size W V) wa → Below wa.heap.size wa wb → (fun V => V.cell? ⟨w.heap.size, 0, none⟩ = some (.int .u8 (k : Int)) ∧ V.cell? ⟨w.heap.size, 1, none⟩ = some (.int .u8 (l : Int)) ∧ V.cell? ⟨w.heap.size, 2, none⟩ = some (.slice A n c) ∧ Below W.heap.size W V) wb := fun wa wb h hb => TR.out wb (h.2.2.2.trans (hb.mono (by have := h.2.2.2.size; omega)))
        have hr14 : ∀ (V : World) (g : Nat), Below W.heap.size W V → Blk V g 22 [Value.slice A p c, .slice (cutA A c (p + 1)) (n - (p + 1)) (c - (p + 1))].toArray →
            Calls Try.prog 48 #[.int .u8 (k : Int), .int .u8 (l : Int), .slice (some ⟨g, 0, none⟩) 2 2] V fun e w' => ∃ A' c', e = .returned (NdV k l A' m c') ∧ OwnN w' V.heap.size A' m c' L ∧ Below V.heap.size V w' := fun V g hb hg => by
          have hRV := HR.out.below hb
          have := node_any k l _ 2 2 [es.take p, es.drop (p + 1)] V (RdLL.two hg (hRV.take p (by omega)) (hRV.cutA (p + 1) (by omega)))
          rw [show [es.take p, es.drop (p + 1)].flatten = L from HL.out, HLL.out] at this
          exact this (by have := HMM.out; omega) HSL.out
        have s0 := B0.out.size
        refine stepG2 13 15 (by kernel_rfl) ?_ ?_
        · refine StepOf.mk 13 (by simp only [List.getElem?_toArray, List.getElem?_cons_succ, List.getElem?_cons_zero]; rfl) (fun K hK => ?_)
          go_simp
          obtain ⟨ws1, hw1⟩ : ∃ wx : World, wx = V0.alloc (.cells [Value.slice A p c, .slice (cutA A c (p + 1)) (n - (p + 1)) (c - (p + 1))].toArray 22) := ⟨_, rfl⟩
          rw [← hw1]
          have hbs1 : Below V0.heap.size V0 ws1 := by rw [hw1]; exact below_new _ _
          have nbs1 : Blk ws1 V0.heap.size 22 [Value.slice A p c, .slice (cutA A c (p + 1)) (n - (p + 1)) (c - (p + 1))].toArray := by rw [hw1]; exact Blk.new _ _ _
          have szs1 : V0.heap.size < ws1.heap.size := by rw [hw1]; simp
          clear hw1
          have ges1 : W.heap.size ≤ V0.heap.size := (hHeld).2.2.2.size
          refine hK.out _ _ ?tu1 (fun hs1 => ?_)
          case tu1 => exact keepS _ _ hHeld hbs1
          clear hK K
          refine stepG2 14 15 (by kernel_rfl) ?_ ?_
          · refine StepOf.mk 14 (by simp only [List.getElem?_toArray, List.getElem?_cons_succ, List.getElem?_cons_zero]; rfl) (fun K hK => ?_)
            go_simp
            refine (hr14 _ _ (hs1).2.2.2 nbs1).mono ?_
            rintro e ws2 ⟨A9, c9, rfl, fx2, hbs2⟩
            have szs2 := hbs2.size
            refine hK.out _ _ ?tu2 (fun hs2 => ?_)
            case tu2 => exact keepS _ _ hs1 hbs2
            clear hK K
            have nb13_2 := nbs1.below hbs2 nbs1.lt
            refine stepG 15 (by kernel_rfl) (by simp only [List.getElem?_toArray, List.getElem?_cons_succ, List.getElem?_cons_zero]; rfl) (fun K hK => ?_)
            go_simp
            obtain ⟨ws3, hw3⟩ : ∃ wx : World, wx = ws2.alloc (.cells [Value.int .u8 0, .int .u8 0, .slice none 0 0].toArray 24) := ⟨_, rfl⟩
            rw [← hw3]
            have hbs3 : Below ws2.heap.size ws2 ws3 := by rw [hw3]; exact below_new _ _
            have nbs3 : Blk ws3 ws2.heap.size 24 [Value.int .u8 0, .int .u8 0, .slice none 0 0].toArray := by rw [hw3]; exact Blk.new _ _ _
            have szs3 : ws2.heap.size < ws3.heap.size := by rw [hw3]; simp
            clear hw3
            have ges3 : W.heap.size ≤ ws2.heap.size := (hs2).2.2.2.size
            refine hK.out _ _ ?tu3 (fun hs3 => ?_)
            case tu3 => exact keepS _ _ hs2 hbs3
            clear hK K
            have nb13_3 := nb13_2.below hbs3 nb13_2.lt
            have fy14_3 := fx2.below hbs3
            have hG9 : OwnN ws3 W.heap.size A9 m c9 L := (fy14_3).mono (by omega)
            have hSB := (hs3).2.2.2
            have hz1 := nbs3
            have hq1 : W.heap.size ≤ ws2.heap.size := by omega
            clear hHeld
            refine stepG 16 (by kernel_rfl) (by simp only [List.getElem?_toArray, List.getElem?_cons_succ, List.getElem?_cons_zero]; rfl) (fun K hK => ?_)
            refine step_store_blk rfl 24 (.tmp 7) (.tmp 38) rfl rfl (cs := [.int .u8 (k : Int), .int .u8 (l : Int), .slice A9 m c9]) rfl hz1 rfl infoNd (nd_one _ _ _ _ _) ?_
            intro wa hka hga
            refine hK.out _ _ ?ts15 (fun hHeld => ?_)
            case ts15 => ((try dsimp only); exact TR.out _ (hSB.grown hga (by have := hSB.size; omega) (by intro q hq; simp at hq; omega)))
            clear hK K
            refine doneG (by kernel_rfl) ?_ _
            go_wp2_with fail
            go_meet
            exact ⟨_, A9, c9, rfl, hq1, hka, hG9.keptE hz1 (by decide) (by decide) hga, hSB.grown hga (by have := hSB.size; omega) (by intro q hq; simp at hq; omega)⟩
          · refine StepOf.mk 15 (by simp only [List.getElem?_toArray, List.getElem?_cons_succ, List.getElem?_cons_zero]; rfl) (fun K hK => ?_)
            go_simp
            obtain ⟨ws4, hw4⟩ : ∃ wx : World, wx = ws1.alloc (.cells [Value.int .u8 0, .int .u8 0, .slice none 0 0].toArray 24) := ⟨_, rfl⟩
            rw [← hw4]
            have hbs4 : Below ws1.heap.size ws1 ws4 := by rw [hw4]; exact below_new _ _
            have nbs4 : Blk ws4 ws1.heap.size 24 [Value.int .u8 0, .int .u8 0, .slice none 0 0].toArray := by rw [hw4]; exact Blk.new _ _ _
            have szs4 : ws1.heap.size < ws4.heap.size := by rw [hw4]; simp
            clear hw4
            have ges4 : W.heap.size ≤ ws1.heap.size := (hs1).2.2.2.size
            refine hK.out _ _ ?tu4 (fun hs4 => ?_)
            case tu4 => exact keepS _ _ hs1 hbs4
            clear hK K
            have nb13_4 := nbs1.below hbs4 nbs1.lt
            refine stepG 14 (by kernel_rfl) (by simp only [List.getElem?_toArray, List.getElem?_cons_succ, List.getElem?_cons_zero]; rfl) (fun K hK => ?_)
            go_simp
            refine (hr14 _ _ (hs4).2.2.2 nb13_4).mono ?_
            rintro e ws5 ⟨A9, c9, rfl, fx5, hbs5⟩
            have szs5 := hbs5.size
            refine hK.out _ _ ?tu5 (fun hs5 => ?_)
            case tu5 => exact keepS _ _ hs4 hbs5
            clear hK K
            have nb13_5 := nb13_4.below hbs5 nb13_4.lt
            have nb15_5 := nbs4.below hbs5 nbs4.lt
            have hG9 : OwnN ws5 W.heap.size A9 m c9 L := (fx5).mono (by omega)
            have hSB := (hs5).2.2.2
            have hz1 := nb15_5
            have hq1 : W.heap.size ≤ ws1.heap.size := by omega
            clear hHeld
            refine stepG 16 (by kernel_rfl) (by simp only [List.getElem?_toArray, List.getElem?_cons_succ, List.getElem?_cons_zero]; rfl) (fun K hK => ?_)
            refine step_store_blk rfl 24 (.tmp 7) (.tmp 38) rfl rfl (cs := [.int .u8 (k : Int), .int .u8 (l : Int), .slice A9 m c9]) rfl hz1 rfl infoNd (nd_one _ _ _ _ _) ?_
            intro wa hka hga
            refine hK.out _ _ ?ts16 (fun hHeld => ?_)
            case ts16 => ((try dsimp only); exact TR.out _ (hSB.grown hga (by have := hSB.size; omega) (by intro q hq; simp at hq; omega)))
            clear hK K
            refine doneG (by kernel_rfl) ?_ _
            go_wp2_with fail
            go_meet
            exact ⟨_, A9, c9, rfl, hq1, hka, hG9.keptE hz1 (by decide) (by decide) hga, hSB.grown hga (by have := hSB.size; omega) (by intro q hq; simp at hq; omega)⟩
        · refine StepOf.mk 15 (by simp only [List.getElem?_toArray, List.getElem?_cons_succ, List.getElem?_cons_zero]; rfl) (fun K hK => ?_)
          go_simp
          obtain ⟨ws6, hw6⟩ : ∃ wx : World, wx = V0.alloc (.cells [Value.int .u8 0, .int .u8 0, .slice none 0 0].toArray 24) := ⟨_, rfl⟩
          rw [← hw6]
          have hbs6 : Below V0.heap.size V0 ws6 := by rw [hw6]; exact below_new _ _
          have nbs6 : Blk ws6 V0.heap.size 24 [Value.int .u8 0, .int .u8 0, .slice none 0 0].toArray := by rw [hw6]; exact Blk.new _ _ _
          have szs6 : V0.heap.size < ws6.heap.size := by rw [hw6]; simp
          clear hw6
          have ges6 : W.heap.size ≤ V0.heap.size := (hHeld).2.2.2.size
          refine hK.out _ _ ?tu6 (fun hs6 => ?_)
          case tu6 => exact keepS _ _ hHeld hbs6
          clear hK K
          refine stepG 13 (by kernel_rfl) (by simp only [List.getElem?_toArray, List.getElem?_cons_succ, List.getElem?_cons_zero]; rfl) (fun K hK => ?_)
          go_simp
          obtain ⟨ws7, hw7⟩ : ∃ wx : World, wx = ws6.alloc (.cells [Value.slice A p c, .slice (cutA A c (p + 1)) (n - (p + 1)) (c - (p + 1))].toArray 22) := ⟨_, rfl⟩
          rw [← hw7]
          have hbs7 : Below ws6.heap.size ws6 ws7 := by rw [hw7]; exact below_new _ _
          have nbs7 : Blk ws7 ws6.heap.size 22 [Value.slice A p c, .slice (cutA A c (p + 1)) (n - (p + 1)) (c - (p + 1))].toArray := by rw [hw7]; exact Blk.new _ _ _
          have szs7 : ws6.heap.size < ws7.heap.size := by rw [hw7]; simp
          clear hw7
          have ges7 : W.heap.size ≤ ws6.heap.size := (hs6).2.2.2.size
          refine hK.out _ _ ?tu7 (fun hs7 => ?_)
          case tu7 => exact keepS _ _ hs6 hbs7
          clear hK K
          have nb15_7 := nbs6.below hbs7 nbs6.lt
          refine stepG 14 (by kernel_rfl) (by simp only [List.getElem?_toArray, List.getElem?_cons_succ, List.getElem?_cons_zero]; rfl) (fun K hK => ?_)
          go_simp
          refine (hr14 _ _ (hs7).2.2.2 nbs7).mono ?_
          rintro e ws8 ⟨A9, c9, rfl, fx8, hbs8⟩
          have szs8 := hbs8.size
          refine hK.out _ _ ?tu8 (fun hs8 => ?_)
          case tu8 => exact keepS _ _ hs7 hbs8
          clear hK K
          have nb15_8 := nb15_7.below hbs8 nb15_7.lt
          have nb13_8 := nbs7.below hbs8 nbs7.lt
          have hG9 : OwnN ws8 W.heap.size A9 m c9 L := (fx8).mono (by omega)
          have hSB := (hs8).2.2.2
          have hz1 := nb15_8
          have hq1 : W.heap.size ≤ V0.heap.size := by omega
          clear hHeld
          refine stepG 16 (by kernel_rfl) (by simp only [List.getElem?_toArray, List.getElem?_cons_succ, List.getElem?_cons_zero]; rfl) (fun K hK => ?_)
          refine step_store_blk rfl 24 (.tmp 7) (.tmp 38) rfl rfl (cs := [.int .u8 (k : Int), .int .u8 (l : Int), .slice A9 m c9]) rfl hz1 rfl infoNd (nd_one _ _ _ _ _) ?_
          intro wa hka hga
          refine hK.out _ _ ?ts17 (fun hHeld => ?_)
          case ts17 => ((try dsimp only); exact TR.out _ (hSB.grown hga (by have := hSB.size; omega) (by intro q hq; simp at hq; omega)))
          clear hK K
          refine doneG (by kernel_rfl) ?_ _
          go_wp2_with fail
          go_meet
          exact ⟨_, A9, c9, rfl, hq1, hka, hG9.keptE hz1 (by decide) (by decide) hga, hSB.grown hga (by have := hSB.size; omega) (by intro q hq; simp at hq; omega)⟩
      case rest =>
        clear hw1
        obtain ⟨g7, A3, c3, rfl, hg, hkg, ho, hbel⟩ := hcut
        have HKM := Lib.hid hkg
        have HO := Lib.hid ho
        have HBE := Lib.hid hbel
        have hbs := hbel.size
        have KZr : Hid (Blk wc (w.heap.size + 1) 24 [Value.int .u8 0, .int .u8 0, .slice none 0 0].toArray) := KZ.out.below HBE.out KZ.out.lt
        have hq2 : m ≤ c3 := HO.out.cap.1
        have hc3 : c3 ≤ 9223372036854775807 := by have := HO.out.cap.2; unfold maxLen at this; omega
        clear hkg ho hbel TR
        have m0 : wc.cell? ⟨g7, 0, none⟩ = some (.int .u8 (k : Int)) := HKM.out.cell 0
        have m1 : wc.cell? ⟨g7, 1, none⟩ = some (.int .u8 (l : Int)) := HKM.out.cell 1
        have m2 : wc.cell? ⟨g7, 2, none⟩ = some (.slice A3 m c3) := HKM.out.cell 2
        by_cases hkq : k = 2 ∧ 0 < m
        · obtain ⟨hk2, hq0⟩ := hkq
          obtain ⟨g, v0, rfl, a0, hfr, hgW⟩ := HO.out.first hq0
          have hd : ((k : Int) == 2) = true := by rw [beq_iff_eq]; omega
          have hd2 : decide (0 < m) = true := decide_eq_true hq0
          have hd3 : (0 : Int) < (m : Int) := by omega
          have hgk := Lib.hid (HO.out.key0m hq0 HLQ.out)
          have HG := Lib.hid (grown_setCell wc g 0 (.slice none 0 0))
          go_upto_region 9 with fail
          obtain ⟨w5, hw5⟩ : ∃ w5, w5 = wc.setCell ⟨g, 0, none⟩ (.slice none 0 0) := ⟨_, rfl⟩
          rw [← hw5] at hgk HG ⊢
          clear hw5
          have KM5 : Hid (Blk w5 g7 24 (ndA k l (some ⟨g, 0, none⟩) m c3)) := by obtain ⟨css, hoe, _⟩ := HO.out; exact hoe.keepBlk HKM.out (by decide) HG.out
          have KZ5 := Lib.hid (KZr.out.keep_grown HG.out (by simp; omega))
          have HB5 : Hid (Below W.heap.size W w5) := HBE.out.grown HG.out (by omega) (by intro q hq; simp at hq; omega)
          clear m0 m1 m2 a0 hfr HBE HG
          have HKE : Hid (mE k L = mE 2 L) := by rw [hk2]; rfl
          clear hk2
          have s5 := HB5.out.size
          have m0 := KM5.out.cell 0
          have m1 := KM5.out.cell 1
          have m2 := KM5.out.cell 2
          have hlz : [Value.int .u8 0, .int .u8 0, .slice none 0 0].length = [Value.int .u8 (k : Int), .int .u8 (l : Int), .slice (some ⟨g, 0, none⟩) m c3].length := rfl
          have hiz : (Try.prog.info? 24).map (·.size) = some [Value.int .u8 (k : Int), .int .u8 (l : Int), .slice (some ⟨g, 0, none⟩) m c3].length := infoNd
          have h1 : ∀ v ∈ [Value.int .u8 (k : Int), .int .u8 (l : Int), .slice (some ⟨g, 0, none⟩) m c3], v.oneCell' = true := nd_one k l (some ⟨g, 0, none⟩) m c3
          go_wp2_with (with_reducible refine wpList_store_blk rfl 24 (.tmp 4) (.tmp 52) rfl rfl (cs := [Value.int .u8 (k : Int), .int .u8 (l : Int), .slice (some ⟨g, 0, none⟩) m c3]) rfl KZ5.out hlz hiz h1 ?_; intro w6 hk6 hg6)
          have e0 := hk6.cell 0
          have e1 := hk6.cell 1
          have e2 := hk6.cell 2
          refine bodyPost_ret (v := .tuple #[NdV k l (some ⟨g, 0, none⟩) m c3, .int .i64 0]) ?_ rfl ?_
          · simp [results, Try.results29, go_sem, e0, e1, e2]
          · rw [HE0.out]
            refine OneP.some_ (HLQ.out.trans (mE_length k L).symm) ?_ ((HWB.out.trans (HB5.out.mono (by omega))).grown hg6 (by omega) (by intro q hq; simp at hq; omega))
            rw [HKE.out]
            exact (hgk.out.keptE KZ5.out (by decide) (by decide) hg6).mono (by omega)
        · have HKE : Hid (mE k L = L) := by
            show _ = _
            rw [mE]; split
            · have hq0 : m = 0 := by omega
              have : L = [] := List.eq_nil_of_length_eq_zero (by rw [← HLQ.out]; exact hq0)
              rw [this]; rfl
            · rfl
          by_cases hk2 : k = 2
          · have hd : ((k : Int) == 2) = true := by rw [beq_iff_eq]; omega
            have hd2 : decide (0 < m) = false := decide_eq_false (by omega)
            have hd3 : decide ((m : Int) > 0) = false := decide_eq_false (by omega)
            clear hkq hk2
            have m0 := HKM.out.cell 0
            have m1 := HKM.out.cell 1
            have m2 := HKM.out.cell 2
            have hlz : [Value.int .u8 0, .int .u8 0, .slice none 0 0].length = [Value.int .u8 (k : Int), .int .u8 (l : Int), .slice A3 m c3].length := rfl
            have hiz : (Try.prog.info? 24).map (·.size) = some [Value.int .u8 (k : Int), .int .u8 (l : Int), .slice A3 m c3].length := infoNd
            have h1 : ∀ v ∈ [Value.int .u8 (k : Int), .int .u8 (l : Int), .slice A3 m c3], v.oneCell' = true := nd_one k l A3 m c3
            go_wp2_with (with_reducible refine wpList_store_blk rfl 24 (.tmp 4) (.tmp 52) rfl rfl (cs := [Value.int .u8 (k : Int), .int .u8 (l : Int), .slice A3 m c3]) rfl KZr.out hlz hiz h1 ?_; intro w6 hk6 hg6)
            have e0 := hk6.cell 0
            have e1 := hk6.cell 1
            have e2 := hk6.cell 2
            refine bodyPost_ret (v := .tuple #[NdV k l A3 m c3, .int .i64 0]) ?_ rfl ?_
            · simp [results, Try.results29, go_sem, e0, e1, e2]
            · rw [HE0.out]
              refine OneP.some_ (HLQ.out.trans (mE_length k L).symm) ?_ ((HWB.out.trans (HBE.out.mono (by omega))).grown hg6 (by omega) (by intro q hq; simp at hq; omega))
              rw [HKE.out]
              exact (HO.out.keptE KZr.out (by decide) (by decide) hg6).mono (by omega)
          · have hd : ((k : Int) == 2) = false := by rw [beq_eq_false_iff_ne]; omega
            clear hkq hk2
            have m0 := HKM.out.cell 0
            have m1 := HKM.out.cell 1
            have m2 := HKM.out.cell 2
            have hlz : [Value.int .u8 0, .int .u8 0, .slice none 0 0].length = [Value.int .u8 (k : Int), .int .u8 (l : Int), .slice A3 m c3].length := rfl
            have hiz : (Try.prog.info? 24).map (·.size) = some [Value.int .u8 (k : Int), .int .u8 (l : Int), .slice A3 m c3].length := infoNd
            have h1 : ∀ v ∈ [Value.int .u8 (k : Int), .int .u8 (l : Int), .slice A3 m c3], v.oneCell' = true := nd_one k l A3 m c3
            go_wp2_with (with_reducible refine wpList_store_blk rfl 24 (.tmp 4) (.tmp 52) rfl rfl (cs := [Value.int .u8 (k : Int), .int .u8 (l : Int), .slice A3 m c3]) rfl KZr.out hlz hiz h1 ?_; intro w6 hk6 hg6)
            have e0 := hk6.cell 0
            have e1 := hk6.cell 1
            have e2 := hk6.cell 2
            refine bodyPost_ret (v := .tuple #[NdV k l A3 m c3, .int .i64 0]) ?_ rfl ?_
            · simp [results, Try.results29, go_sem, e0, e1, e2]
            · rw [HE0.out]
              refine OneP.some_ (HLQ.out.trans (mE_length k L).symm) ?_ ((HWB.out.trans (HBE.out.mono (by omega))).grown hg6 (by omega) (by intro q hq; simp at hq; omega))
              rw [HKE.out]
              exact (HO.out.keptE KZr.out (by decide) (by decide) hg6).mono (by omega)
    · have hd : (E != 0) = true := by rw [bne_iff_ne]; exact he
      have HEN := Lib.hid he
      have KZ3 : Hid (Blk w1 (w.heap.size + 1) 24 [Value.int .u8 0, .int .u8 0, .slice none 0 0].toArray) := KZ.out.below HB1.out KZ.out.lt
      have hiz : (Try.prog.info? 24).map (·.size) = some [Value.int .u8 0, .int .u8 0, .slice none 0 0].length := infoNd
      have h1 : ∀ v ∈ [Value.int .u8 0, .int .u8 0, .slice none 0 0], v.oneCell' = true := nd_one 0 0 none 0 0
      have HX : Hid (Below w.heap.size w w1) := HWB.out.trans (HB1.out.mono sx)
      have sy := HX.out.size
      clear he
      go_wp2_with (with_reducible refine wpList_store_blk rfl 24 (.tmp 4) (.tmp 22) rfl rfl (cs := [Value.int .u8 0, .int .u8 0, .slice none 0 0]) rfl KZ3.out z3len hiz h1 ?_; intro w5 hk5 hg5)
      have e0 := hk5.cell 0
      have e1 := hk5.cell 1
      have e2 := hk5.cell 2
      refine bodyPost_ret (v := .tuple #[NdV 0 0 none 0 0, .int .i64 E]) ?_ rfl (OneP.none_ HEN.out (HX.out.grown hg5 sy (by intro q hq; simp at hq; omega)))
      simp [results, Try.results29, go_sem, e0, e1, e2]
end Go.Proofs.Ytgihcjmcefdkiaa
