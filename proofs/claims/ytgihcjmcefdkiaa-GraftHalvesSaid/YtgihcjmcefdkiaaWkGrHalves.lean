/- The walk of GraftHalves. -/
import Derived.Test.YtgihcjmcefdkiaaGrApp
set_option linter.unusedVariables false
set_option linter.unusedSimpArgs false
namespace Go.Proofs.Ytgihcjmcefdkiaa
open Go.RowKit

theorem OwnN.key0cell {w : World} {H n c : Nat} {A : Option Addr} {es : List Ent} (h : OwnN w H A n c es) (hn : 0 < n) (hk : (es.getD 0 ent0).key = []) : ∃ g B d, A = some ⟨g, 0, none⟩ ∧ w.cell? ⟨g, 0, none⟩ = some (.slice B 0 d) ∧ d ≤ maxLen := by
  obtain ⟨css, hoe, hall⟩ := h
  obtain ⟨g, rfl, hg⟩ := hoe.split hn
  obtain ⟨B1, n1, d1, B2, n2, d2, hcs, hk1, hk2⟩ := hall 0 hn
  have hat := hoe.eat 0 hn hcs 0 rfl
  have hl := hk1.len
  rw [hk] at hl
  have h0 : n1 = 0 := hl
  subst h0
  exact ⟨g, B1, d1, rfl, hat.c0, hk1.rd.max⟩
theorem less_cmp {a b : List UInt8} (h : less a b = true) : ¬ Lib.compareBytes a b ≥ 0 := by
  have := cmp_less a b
  rw [h] at this
  simpa using this
set_option maxRecDepth 100000 in
set_option maxHeartbeats 12800000 in
theorem graftHalves_walk (k l : Nat) (A : Option Addr) (n c : Nat) (es : List Ent) (w : World) (hk : k < 256) (hl : l < 256) (h : RdL w A n c es) (hin : esIn es) :
    Calls Try.prog 10 #[NdV k l A n c] w fun e w' => e = .returned (.bool true) ∧ Below w.heap.size w w' := by
  obtain ⟨W, hW⟩ : ∃ W, W = w.alloc (.cells #[.int .u8 (k : Int), .int .u8 (l : Int), .slice A n c] 24) := ⟨_, rfl⟩
  have HB0 : Hid (Below w.heap.size w W) := by rw [hW]; exact below_new1 _ _
  have N0 : Hid (Nin W w.heap.size k l A n c es) := by rw [hW]; exact Nin.new h k l
  have HWs : Hid (W.heap.size = w.heap.size + 1) := by rw [hW]; exact size_new _ _
  have HW := Lib.hid hW
  have HIN := Lib.hid hin
  have HLn := Lib.hid h.len
  clear h hW hin
  have d0 := N0.out.c0
  have d1 := N0.out.c1
  have d2 := N0.out.c2
  go_enter Try.func10, Try.ntmps10
  go_wp2_with fail
  rw [← HW.out]
  obtain ⟨W1, hW1⟩ : ∃ W1, W1 = W.alloc (.cells #[.int .u8 (k : Int), .int .u8 (l : Int), .slice A n c] 24) := ⟨_, rfl⟩
  have hb0 : Below W.heap.size W W1 := by rw [hW1]; exact below_new1 _ _
  have HM := Lib.hid (lheavy_any (some ⟨w.heap.size + 1, 0, none⟩) 1 1 [es] W1 (RdNs.one (by rw [hW1]; exact Blk.new' _ _ _ _ HWs.out) hk hl (N0.out.below hb0).rd))
  rw [← hW1]
  have HBa := Lib.hid hb0
  have sa := hb0.size
  clear hW1 hb0
  refine HM.out.mono ?_
  rintro e w1 ⟨b, rfl, hbb, hb⟩
  have HB1 : Hid (Below W.heap.size W w1) := HBa.out.trans (hb.mono sa)
  have N1 := Lib.hid (N0.out.below HB1.out)
  have HBB := Lib.hid hbb
  have s0 := HB0.out.size
  have s1 := HB1.out.size
  have HX1 : Hid (Below w.heap.size w w1) := HB0.out.trans (HB1.out.mono s0)
  have sx := HX1.out.size
  clear hb hbb d0 d1 d2 HM
  cases b with
  | true =>
    go_wp2_with (go_at_call 13; refine (known_any _).mono ?_; rintro e w3 ⟨rfl, hb3⟩)
    go_ret
    exact ⟨rfl, HX1.out.trans (hb3.mono sx)⟩
  | false =>
    have HO := Lib.hid (HBB.out rfl 0 (by simp))
    have HN3 : Hid (n ≤ 300) := by show _ ≤ _; rw [HLn.out]; exact HO.out.2
    have HSH : Hid (shortE es) := HO.out.short
    have HC4 : Hid (∀ j, j < es.length → (es.getD j ent0).key.length ≤ 4096 ∧ (es.getD j ent0).val.length ≤ 4096) := HO.out.1.2
    clear HBB HBa
    have hn3 := HN3.out
    have HC := split_any k l A n c es w1 N1.out.rd hk hl HIN.out (by omega) HSH.out
    have d0 := N1.out.c0
    have d1 := N1.out.c1
    have d2 := N1.out.c2
    by_cases hsp : splE k l es = 0
    · have HCY := SplP.yes HC hsp
      obtain ⟨hr1, hr2, hz1, hz2⟩ := half_sizes hsp
      obtain ⟨hr, h224, hb0⟩ := splE_zero hsp
      have hbl := best_lt hb0
      obtain ⟨b, HBb⟩ : ∃ b, Hid (best k es = b) := ⟨_, rfl⟩
      rw [HBb.out] at hbl hr1 hr2 hz1 hz2 hb0
      obtain ⟨LA, HLA⟩ : ∃ LA, Hid (es.take b = LA) := ⟨_, rfl⟩
      obtain ⟨LB, HLB⟩ : ∃ LB, Hid (cutB k es b = LB) := ⟨_, rfl⟩
      obtain ⟨key, HKEY⟩ : ∃ key, Hid ((es.getD b ent0).key = key) := ⟨_, rfl⟩
      simp only [HBb.out, HLA.out, HLB.out, HKEY.out] at HCY
      rw [← HLn.out] at hbl HCY
      have HIA : Hid (esIn LA) := by rw [← HLA.out]; exact HIN.out.take b
      have HIB : Hid (esIn LB) := by rw [← HLB.out]; exact HIN.out.cutB k b
      have HLAn : Hid (LA.length = b) := by show _ = _; rw [← HLA.out, List.length_take, ← HLn.out]; omega
      have HSA : Hid (shortE LA) := by rw [← HLA.out]; exact HSH.out.take b
      have HSB : Hid (shortE LB) := by
        rw [← HLB.out]
        have hcut : ∀ j, j < (cutB k es b).length → ((cutB k es b).getD j ent0).key.length ≤ (es.getD (b + j) ent0).key.length ∧ ((cutB k es b).getD j ent0).val = (es.getD (b + j) ent0).val := fun j hj => by
          rw [cutB_length] at hj
          unfold cutB
          split
          · cases j with
            | zero => rw [nk_zero (by rw [List.length_drop]; omega), drop_getD]; exact ⟨Nat.zero_le _, rfl⟩
            | succ j => rw [nk_succ, drop_getD]; exact ⟨Nat.le_refl _, rfl⟩
          · rw [drop_getD]; exact ⟨Nat.le_refl _, rfl⟩
        intro j hj
        have h1 := hcut j hj
        have h2 := HSH.out (b + j) (by rw [cutB_length] at hj; omega)
        rw [h1.2]
        exact ⟨Nat.le_trans h1.1 h2.1, h2.2⟩
      have HCA : Hid (∀ j, j < LA.length → (LA.getD j ent0).key.length ≤ 4096 ∧ (LA.getD j ent0).val.length ≤ 4096) := fun j hj => by
        have hjb : j < b := by rw [HLAn.out] at hj; exact hj
        rw [← HLA.out, take_getD _ _ _ hjb]; exact HC4.out j (by rw [← HLn.out]; omega)
      obtain ⟨M, HMM⟩ : ∃ M, Hid (n - b = M) := ⟨_, rfl⟩
      have HLBn : Hid (LB.length = M) := by show _ = _; rw [← HLB.out, cutB_length, ← HLn.out]; exact HMM.out
      rw [HMM.out] at HCY
      have hM : b + M = n := by have := HMM.out; omega
      have HONE : Hid (oneL k LA LB key = es) := by show _ = _; rw [← HLA.out, ← HLB.out, ← HKEY.out]; exact halves_one k es (by rw [← HLn.out]; exact hbl)
      have HJB : Hid (joinB k l LA k l LB key = false) := by
        show _ = _
        rw [joinB, HONE.out, Bool.and_eq_false_iff]
        exact .inr (decide_eq_false (by omega))
      have HLS : Hid (∀ i, i < b → less (LA.getD i ent0).key key = true) := fun i hi => by
        rw [← HLA.out, take_getD _ _ _ hi, ← HKEY.out]; exact right_less hr b i hi (by rw [← HLn.out]; exact hbl)
      have HBK : Hid (k = 2 → (LB.getD 0 ent0).key = []) := fun e => by
        rw [← HLB.out, cutB, if_pos e, nk_zero (by rw [List.length_drop, ← HLn.out]; omega)]
      have HKL : Hid (key.length ≤ 4096) := by show _ ≤ _; rw [← HKEY.out]; exact (HC4.out b (by rw [← HLn.out]; exact hbl)).1
      rw [HLA.out] at hr1 hz1
      rw [HLB.out] at hr2 hz2
      have HRA := Lib.hid (right_reach (k := k) (l := l) (es := LA) (by rw [HLAn.out]; omega))
      have HRB := Lib.hid (right_reach (k := k) (l := l) (es := LB) (by rw [HLBn.out]; omega))
      obtain ⟨x, hx⟩ : ∃ x, sizeV k l LA = x := ⟨_, rfl⟩
      obtain ⟨y, hy⟩ : ∃ y, sizeV k l LB = y := ⟨_, rfl⟩
      rw [hx] at hz1
      rw [hy] at hz2
      have HXX := Lib.hid hx
      have HYY := Lib.hid hy
      have HR1 := Lib.hid hr1
      have HR2 := Lib.hid hr2
      have HYES := Lib.hid HCY
      have hb1 : 1 ≤ b := by omega
      have hM1 : 1 ≤ M := by omega
      clear HC HCY hsp hr h224 hb0 hr1 hr2 hx hy
      go_wp2_with fail
      refine HYES.out.mono ?_
      rintro e w2 ⟨A1, c1, A2, c2, B, m, d, rfl, ho1, ho2, ho3, hb, hdis⟩
      clear d0 d1 d2 HYES hdis
      have s2 := hb.size
      obtain ⟨g3, hg3⟩ : ∃ g3, w2.heap.size = g3 := ⟨_, rfl⟩
      obtain ⟨w5, hw5⟩ : ∃ w5, w5 = (w2.alloc (.cells #[.int .u8 (k : Int), .int .u8 (l : Int), .slice A1 b c1] 24)).alloc (.cells #[.int .u8 (k : Int), .int .u8 (l : Int), .slice A2 M c2] 24) := ⟨_, rfl⟩
      have hx5 : Below w2.heap.size w2 w5 := by rw [hw5]; exact (below_new _ _).alloc (by simp) _
      have O1 := Lib.hid (ho1.below hx5)
      have O2 := Lib.hid (ho2.below hx5)
      have O3 := Lib.hid (ho3.below hx5)
      have K3 : Hid (Blk w5 g3 24 (ndA k l A1 b c1)) := by rw [hw5]; exact (Blk.new' _ _ _ _ hg3).alloc _
      have K4 : Hid (Blk w5 (g3 + 1) 24 (ndA k l A2 M c2)) := by rw [hw5]; exact Blk.new' _ _ _ _ (by rw [size_new, hg3])
      have HX : Hid (Below W.heap.size W w5) := HB1.out.trans ((hb.trans (hx5.mono s2)).mono s1)
      have t5 : w1.heap.size ≤ w5.heap.size := (hb.trans (hx5.mono s2)).size
      have HW5 := Lib.hid hw5
      have HG3 := Lib.hid hg3
      clear ho1 ho2 ho3 hb hw5 hx5 hg3 N1
      go_upto_region 4 with fail
      rw [← HW5.out, HG3.out]
      have HCS := size_any k l A1 b c1 LA w5 (O1.out.rdl HLAn.out.symm) hk hl HIA.out HRA.out
      rw [HXX.out, HR1.out] at HCS
      have HCSS := Lib.hid HCS
      clear HCS
      have d0 : w5.cell? ⟨g3, 0, none⟩ = some (.int .u8 (k : Int)) := K3.out.cell 0
      have d1 : w5.cell? ⟨g3, 1, none⟩ = some (.int .u8 (l : Int)) := K3.out.cell 1
      have d2 : w5.cell? ⟨g3, 2, none⟩ = some (.slice A1 b c1) := K3.out.cell 2
      go_wp2_with fail
      refine HCSS.out.mono ?_
      rintro e w6 ⟨rfl, hb⟩
      have t6 := hb.size
      replace O1 := Lib.hid (O1.out.below hb)
      replace O2 := Lib.hid (O2.out.below hb)
      replace O3 := Lib.hid (O3.out.below hb)
      replace K3 := Lib.hid (K3.out.below hb K3.out.lt)
      replace K4 := Lib.hid (K4.out.below hb K4.out.lt)
      replace HX := Lib.hid (HX.out.trans (hb.mono HX.out.size))
      clear d0 d1 d2 HCSS hb
      have HCS := size_any k l A2 M c2 LB w6 (O2.out.rdl HLBn.out.symm) hk hl HIB.out HRB.out
      rw [HYY.out, HR2.out] at HCS
      have HCSS := Lib.hid HCS
      clear HCS
      have d0 : w6.cell? ⟨g3 + 1, 0, none⟩ = some (.int .u8 (k : Int)) := K4.out.cell 0
      have d1 : w6.cell? ⟨g3 + 1, 1, none⟩ = some (.int .u8 (l : Int)) := K4.out.cell 1
      have d2 : w6.cell? ⟨g3 + 1, 2, none⟩ = some (.slice A2 M c2) := K4.out.cell 2
      go_wp2_with fail
      refine HCSS.out.mono ?_
      rintro e w7 ⟨rfl, hb⟩
      have t7 := hb.size
      replace O1 := Lib.hid (O1.out.below hb)
      replace O2 := Lib.hid (O2.out.below hb)
      replace O3 := Lib.hid (O3.out.below hb)
      replace K3 := Lib.hid (K3.out.below hb K3.out.lt)
      replace K4 := Lib.hid (K4.out.below hb K4.out.lt)
      replace HX := Lib.hid (HX.out.trans (hb.mono HX.out.size))
      clear d0 d1 d2 HCSS hb
      have N7 := Lib.hid (N0.out.below HX.out)
      have s7 := HX.out.size
      have d0 : w7.cell? ⟨g3, 0, none⟩ = some (.int .u8 (k : Int)) := K3.out.cell 0
      have d1 : w7.cell? ⟨g3, 1, none⟩ = some (.int .u8 (l : Int)) := K3.out.cell 1
      have d2 : w7.cell? ⟨g3, 2, none⟩ = some (.slice A1 b c1) := K3.out.cell 2
      have f0 : w7.cell? ⟨g3 + 1, 0, none⟩ = some (.int .u8 (k : Int)) := K4.out.cell 0
      have f1 : w7.cell? ⟨g3 + 1, 1, none⟩ = some (.int .u8 (l : Int)) := K4.out.cell 1
      have f2 : w7.cell? ⟨g3 + 1, 2, none⟩ = some (.slice A2 M c2) := K4.out.cell 2
      have y0 := N7.out.c0
      have y1 := N7.out.c1
      have y2 := N7.out.c2
      have i1 : decide ((x : Int) > 224) = false := decide_eq_false (by omega)
      have i2 : decide ((224 : Int) < (x : Int)) = false := decide_eq_false (by omega)
      have i3 : decide ((y : Int) > 224) = false := decide_eq_false (by omega)
      have i4 : decide ((224 : Int) < (y : Int)) = false := decide_eq_false (by omega)
      have i5 : ((k : Int) != (k : Int)) = false := by rw [bne_eq_false_iff_eq]
      have i6 : ((l : Int) != (l : Int)) = false := by rw [bne_eq_false_iff_eq]
      have i7 : ((b : Int) + (M : Int) != (n : Int)) = false := by rw [bne_eq_false_iff_eq]; omega
      have i8 : (b + M != n) = false := by rw [bne_eq_false_iff_eq]; exact hM
      have j1 : decide ((b : Int) < 1) = false := decide_eq_false (by omega)
      have j2 : decide ((M : Int) < 1) = false := decide_eq_false (by omega)
      have j3 : decide (b < 1) = false := decide_eq_false (by omega)
      have j4 : decide (M < 1) = false := decide_eq_false (by omega)
      have HM := Lib.hid hM
      clear hM
      have hbM : b ≤ 300 ∧ M ≤ 300 := by have := HM.out; omega
      obtain ⟨hb300, hM300⟩ := hbM
      go_upto_region 12 with fail
      clear i1 i2 i3 i4 i5 i6 i7 i8 j1 j2 j3 j4 d0 d1 d2 f0 f1 f2 y0 y1 y2
      obtain ⟨ga, _, rfl, _, _, _⟩ := O1.out.first (by omega)
      obtain ⟨gb, _, rfl, _, _, _⟩ := O2.out.first (by omega)
      go_cut [11] (fun s11 wx => ∃ g12 g9 c9, s11 = .pointer (some ⟨g12, 0, none⟩) ∧ Blk wx g12 24 (ndA k l (some ⟨g9, 0, none⟩) n c9) ∧ OwnN wx w1.heap.size (some ⟨g9, 0, none⟩) n c9 [LA, LB].flatten ∧ w7.heap.size ≤ g9 ∧ Below w7.heap.size w7 wx)
      case first =>
        have TR : Hid (∀ V, Below w7.heap.size w7 V → (fun V => V.cell? ⟨w.heap.size, 0, none⟩ = some (.int .u8 (k : Int)) ∧ V.cell? ⟨w.heap.size, 1, none⟩ = some (.int .u8 (l : Int)) ∧ V.cell? ⟨g3, 2, none⟩ = some (.slice (some ⟨ga, 0, none⟩) b c1) ∧ V.cell? ⟨g3 + 1, 2, none⟩ = some (.slice (some ⟨gb, 0, none⟩) M c2) ∧ Below w7.heap.size w7 V) V) := fun V hb => by
          have n1 := N7.out.below hb
          have n2 := K3.out.below hb K3.out.lt
          have n3 := K4.out.below hb K4.out.lt
          exact ⟨n1.c0, n1.c1, n2.cell 2, n3.cell 2, hb⟩
        refine region_gate 14 (fun V => V.cell? ⟨w.heap.size, 0, none⟩ = some (.int .u8 (k : Int)) ∧ V.cell? ⟨w.heap.size, 1, none⟩ = some (.int .u8 (l : Int)) ∧ V.cell? ⟨g3, 2, none⟩ = some (.slice (some ⟨ga, 0, none⟩) b c1) ∧ V.cell? ⟨g3 + 1, 2, none⟩ = some (.slice (some ⟨gb, 0, none⟩) M c2) ∧ Below w7.heap.size w7 V) (by kernel_rfl) ?th1 (fun hHeld => ?tk1)
        case th1 => ((try dsimp only); exact TR.out _ (Below.refl _ _).drew)
        refine' takeV 0 (oi := _) (d := _) (v := _) ?ti2 ?td2 (by kernel_rfl) (by kernel_rfl) (by kernel_rfl) (by kernel_rfl) (by decide) (fun _ _ _ _ _ h => h) ?tg2 ?ty2 (by assumption) ?tr2
        case ti2 => (simp only [List.getElem?_toArray, List.getElem?_cons_succ, List.getElem?_cons_zero]; rfl)
        case td2 => exact rfl
        case tg2 => exact rfl
        case ty2 => (intro w hSw; (try dsimp only at hSw); go_split_ands; go_simp; try with_reducible rfl)
        simp only [List.setIfInBounds_toArray, List.set_cons_zero, List.set_cons_succ]
        refine' takeV 1 (oi := _) (d := _) (v := _) ?ti3 ?td3 (by kernel_rfl) (by kernel_rfl) (by kernel_rfl) (by kernel_rfl) (by decide) (fun _ _ _ _ _ h => h) ?tg3 ?ty3 (by assumption) ?tr3
        case ti3 => (simp only [List.getElem?_toArray, List.getElem?_cons_succ, List.getElem?_cons_zero]; rfl)
        case td3 => exact rfl
        case tg3 => exact rfl
        case ty3 => (intro w hSw; (try dsimp only at hSw); go_split_ands; go_simp; try with_reducible rfl)
        simp only [List.setIfInBounds_toArray, List.set_cons_zero, List.set_cons_succ]
        refine' takeV 2 (oi := _) (d := _) (v := _) ?ti4 ?td4 (by kernel_rfl) (by kernel_rfl) (by kernel_rfl) (by kernel_rfl) (by decide) (fun _ _ _ _ _ h => h) ?tg4 ?ty4 (by assumption) ?tr4
        case ti4 => (simp only [List.getElem?_toArray, List.getElem?_cons_succ, List.getElem?_cons_zero]; rfl)
        case td4 => exact rfl
        case tg4 => exact rfl
        case ty4 => (intro w hSw; (try dsimp only at hSw); go_split_ands; go_simp; try with_reducible rfl)
        simp only [List.setIfInBounds_toArray, List.set_cons_zero, List.set_cons_succ]
        refine' takeV 3 (oi := _) (d := _) (v := _) ?ti5 ?td5 (by kernel_rfl) (by kernel_rfl) (by kernel_rfl) (by kernel_rfl) (by decide) (fun _ _ _ _ _ h => h) ?tg5 ?ty5 (by assumption) ?tr5
        case ti5 => (simp only [List.getElem?_toArray, List.getElem?_cons_succ, List.getElem?_cons_zero]; rfl)
        case td5 => exact rfl
        case tg5 => exact rfl
        case ty5 => (intro w hSw; (try dsimp only at hSw); go_split_ands; go_simp; try with_reducible rfl)
        simp only [List.setIfInBounds_toArray, List.set_cons_zero, List.set_cons_succ]
        refine' takeV 5 (oi := _) (d := _) (v := _) ?ti6 ?td6 (by kernel_rfl) (by kernel_rfl) (by kernel_rfl) (by kernel_rfl) (by decide) (fun _ _ _ _ _ h => h) ?tg6 ?ty6 (by assumption) ?tr6
        case ti6 => (simp only [List.getElem?_toArray, List.getElem?_cons_succ, List.getElem?_cons_zero]; rfl)
        case td6 => exact rfl
        case tg6 => exact rfl
        case ty6 => (intro w hSw; (try dsimp only at hSw); go_split_ands; go_simp; try with_reducible rfl)
        simp only [List.setIfInBounds_toArray, List.set_cons_zero, List.set_cons_succ]
        refine' takeV 6 (oi := _) (d := _) (v := _) ?ti7 ?td7 (by kernel_rfl) (by kernel_rfl) (by kernel_rfl) (by kernel_rfl) (by decide) (fun _ _ _ _ _ h => h) ?tg7 ?ty7 (by assumption) ?tr7
        case ti7 => (simp only [List.getElem?_toArray, List.getElem?_cons_succ, List.getElem?_cons_zero]; rfl)
        case td7 => exact rfl
        case tg7 => exact rfl
        case ty7 => (intro w hSw; (try dsimp only at hSw); go_split_ands; go_simp; try with_reducible rfl)
        simp only [List.setIfInBounds_toArray, List.set_cons_zero, List.set_cons_succ]
        refine' takeV 8 (oi := _) (d := _) (v := _) ?ti8 ?td8 (by kernel_rfl) (by kernel_rfl) (by kernel_rfl) (by kernel_rfl) (by decide) (fun _ _ _ _ _ h => h) ?tg8 ?ty8 (by assumption) ?tr8
        case ti8 => (simp only [List.getElem?_toArray, List.getElem?_cons_succ, List.getElem?_cons_zero]; rfl)
        case td8 => exact rfl
        case tg8 => exact rfl
        case ty8 => (intro w hSw; (try dsimp only at hSw); go_split_ands; go_simp; try with_reducible rfl)
        simp only [List.setIfInBounds_toArray, List.set_cons_zero, List.set_cons_succ]
        refine' takeV 9 (oi := _) (d := _) (v := _) ?ti9 ?td9 (by kernel_rfl) (by kernel_rfl) (by kernel_rfl) (by kernel_rfl) (by decide) (fun _ _ _ _ _ h => h) ?tg9 ?ty9 (by assumption) ?tr9
        case ti9 => (simp only [List.getElem?_toArray, List.getElem?_cons_succ, List.getElem?_cons_zero]; rfl)
        case td9 => exact rfl
        case tg9 => exact rfl
        case ty9 => (intro w hSw; (try dsimp only at hSw); go_split_ands; go_simp; try with_reducible rfl)
        simp only [List.setIfInBounds_toArray, List.set_cons_zero, List.set_cons_succ]
        obtain ⟨V0, hV0⟩ : ∃ V0, V0 = w7.drew := ⟨_, rfl⟩
        have B0 : Below w7.heap.size w7 V0 := by rw [hV0]; exact (Below.refl _ _).drew
        rw [← hV0] at hHeld ⊢
        clear hV0
        have z0 := B0.size
        obtain ⟨css1, hoe1, hec1, hon1⟩ := (O1.out.below B0).one
        obtain ⟨css2, hoe2, hec2, hon2⟩ := (O2.out.below B0).one
        have HE1 := Lib.hid hoe1
        have HE2 := Lib.hid hoe2
        have HC1 : Hid (∀ j, j < b → EC V0 w1.heap.size (css1.getD j []) (LA.getD j ent0)) := hec1
        have HC2 : Hid (∀ j, j < M → EC V0 w1.heap.size (css2.getD j []) (LB.getD j ent0)) := hec2
        have HN1 := Lib.hid hon1
        have HN2 := Lib.hid hon2
        have sv : w1.heap.size ≤ V0.heap.size := by omega
        clear hoe1 hoe2 hec1 hec2 hon1 hon2
        have bv0 : Below V0.heap.size V0 V0 := Below.refl _ _
        refine stepG2 4 12 (by kernel_rfl) ?_ ?_
        · refine StepOf.mk 4 (by simp only [List.getElem?_toArray, List.getElem?_cons_succ, List.getElem?_cons_zero]; rfl) (fun K hK => ?_)
          go_simp
          obtain ⟨wv1, hw1⟩ : ∃ wx : World, wx = V0.alloc (.cells #[] 46) := ⟨_, rfl⟩
          rw [← hw1]
          have hn1 : Below V0.heap.size V0 wv1 := by rw [hw1]; exact below_new _ _
          have bv1 : Below V0.heap.size V0 wv1 := bv0.trans (hn1.mono bv0.size)
          have sq1 := bv0.size
          have ov1 : OwnE wv1 V0.heap.size (some ⟨V0.heap.size, 0, none⟩) 0 0 [] := by rw [hw1]; exact OwnE.fresh0 _ _ bv0.size
          clear hw1
          refine hK.out _ _ ?tv1 (fun hv1 => ?_)
          case tv1 => ((try dsimp only); exact TR.out _ (B0.trans (bv1.mono z0)))
          clear hK K hHeld
          refine stepG2 7 12 (by kernel_rfl) ?_ ?_
          · refine StepOf.mk 7 (by simp only [List.getElem?_toArray, List.getElem?_cons_succ, List.getElem?_cons_zero]; rfl) (fun K hK => ?_)
            refine step_appM 22 Try.underlying22 rfl (.tmp 125) (.tmp 127) rfl rfl rfl ov1 (HE1.out.below bv1) HN1.out bv1.size (by omega) ?_
            intro Av2 cv2 wv2 ov2' hg2 hbx2
            have bv2 : Below V0.heap.size V0 wv2 := bv1.trans hbx2
            have ov2 : OwnE wv2 V0.heap.size Av2 b cv2 ([] ++ css1) := by rw [Nat.zero_add] at ov2'; exact ov2'
            rw [Nat.zero_add]
            refine hK.out _ _ ?tv2 (fun hv2 => ?_)
            case tv2 => ((try dsimp only); exact TR.out _ (B0.trans (bv2.mono z0)))
            clear hK K hv1
            refine stepG2 10 12 (by kernel_rfl) ?_ ?_
            · refine StepOf.mk 10 (by simp only [List.getElem?_toArray, List.getElem?_cons_succ, List.getElem?_cons_zero]; rfl) (fun K hK => ?_)
              refine step_appM 22 Try.underlying22 rfl (.tmp 128) (.tmp 130) rfl rfl rfl ov2 (HE2.out.below bv2) HN2.out bv2.size (by omega) ?_
              intro Av3 cv3 wv3 ov3' hg3 hbx3
              have bv3 : Below V0.heap.size V0 wv3 := bv2.trans hbx3
              have ov3 : OwnE wv3 V0.heap.size Av3 (b + M) cv3 (([] ++ css1) ++ css2) := ov3'
              refine hK.out _ _ ?tv3 (fun hv3 => ?_)
              case tv3 => ((try dsimp only); exact TR.out _ (B0.trans (bv3.mono z0)))
              clear hK K hv2
              refine' takeV 11 (oi := _) (d := _) (v := _) ?ti10 ?td10 (by kernel_rfl) (by kernel_rfl) (by kernel_rfl) (by kernel_rfl) (by decide) (fun _ _ _ _ _ h => h) ?tg10 ?ty10 (by assumption) ?tr10
              case ti10 => (simp only [List.getElem?_toArray, List.getElem?_cons_succ, List.getElem?_cons_zero]; rfl)
              case td10 => exact rfl
              case tg10 => exact rfl
              case ty10 => (intro w hSw; (try dsimp only at hSw); go_split_ands; go_simp; try with_reducible rfl)
              simp only [List.setIfInBounds_toArray, List.set_cons_zero, List.set_cons_succ]
              refine stepG 12 (by kernel_rfl) (by simp only [List.getElem?_toArray, List.getElem?_cons_succ, List.getElem?_cons_zero]; rfl) (fun K hK => ?_)
              go_simp
              obtain ⟨wv4, hw4⟩ : ∃ wx : World, wx = wv3.alloc (.cells #[.int .u8 0, .int .u8 0, .slice none 0 0] 24) := ⟨_, rfl⟩
              rw [← hw4]
              have hn4 : Below wv3.heap.size wv3 wv4 := by rw [hw4]; exact below_new _ _
              have bv4 : Below V0.heap.size V0 wv4 := bv3.trans (hn4.mono bv3.size)
              have sq4 := bv3.size
              have kv4 : Blk wv4 wv3.heap.size 24 [Value.int .u8 0, .int .u8 0, .slice none 0 0].toArray := by rw [hw4]; exact Blk.new _ _ _
              have ov4 := ov3.below hn4
              clear hw4
              refine hK.out _ _ ?tv4 (fun hv4 => ?_)
              case tv4 => ((try dsimp only); exact TR.out _ (B0.trans (bv4.mono z0)))
              clear hK K hv3
              clear hv4
              have hfin : OwnN wv4 w1.heap.size Av3 n cv3 [LA, LB].flatten := by
                have := OwnN.two (es := LA) (es' := LB) (ov4.mono sv) (by rw [List.nil_append]; exact HE1.out.2.1) HLAn.out (fun j hj => by rw [List.nil_append]; exact (HC1.out j hj).below bv4) (fun j hj => (HC2.out j hj).below bv4)
                rw [HM.out] at this
                exact this
              have hB7 : Below w7.heap.size w7 wv4 := B0.trans (bv4.mono z0)
              have sz9 := hB7.size
              obtain ⟨g9, v9, e9, _, _, _⟩ := hfin.first (by omega)
              have hg9 : V0.heap.size ≤ g9 := by have := ov4.ge _ e9; exact this
              refine stepG 13 (by kernel_rfl) (by simp only [List.getElem?_toArray, List.getElem?_cons_succ, List.getElem?_cons_zero]; rfl) (fun K hK => ?_)
              refine step_store_blk rfl 24 (.tmp 11) (.tmp 132) rfl rfl (cs := [.int .u8 (k : Int), .int .u8 (l : Int), .slice Av3 (b + M) cv3]) rfl kv4 rfl infoNd (nd_one _ _ _ _ _) ?_
              intro wz hkz hgz
              refine hK.out _ _ ?ts11 (fun hHeld => ?_)
              case ts11 => ((try dsimp only); exact TR.out _ (hB7.grown hgz (by omega) (by intro q hq; simp at hq; omega)))
              clear hK K
              refine doneG (by kernel_rfl) ?_ _
              go_wp2_with fail
              go_meet
              rw [HM.out] at hkz
              subst e9
              exact ⟨_, g9, _, rfl, hkz, hfin.keptE kv4 (by decide) (by decide) hgz, by omega, hB7.grown hgz (by omega) (by intro q hq; simp at hq; omega)⟩
            · refine StepOf.mk 12 (by simp only [List.getElem?_toArray, List.getElem?_cons_succ, List.getElem?_cons_zero]; rfl) (fun K hK => ?_)
              go_simp
              obtain ⟨wv5, hw5⟩ : ∃ wx : World, wx = wv2.alloc (.cells #[.int .u8 0, .int .u8 0, .slice none 0 0] 24) := ⟨_, rfl⟩
              rw [← hw5]
              have hn5 : Below wv2.heap.size wv2 wv5 := by rw [hw5]; exact below_new _ _
              have bv5 : Below V0.heap.size V0 wv5 := bv2.trans (hn5.mono bv2.size)
              have sq5 := bv2.size
              have kv5 : Blk wv5 wv2.heap.size 24 [Value.int .u8 0, .int .u8 0, .slice none 0 0].toArray := by rw [hw5]; exact Blk.new _ _ _
              have ov5 := ov2.below hn5
              clear hw5
              refine hK.out _ _ ?tv5 (fun hv5 => ?_)
              case tv5 => ((try dsimp only); exact TR.out _ (B0.trans (bv5.mono z0)))
              clear hK K hv2
              refine stepG 10 (by kernel_rfl) (by simp only [List.getElem?_toArray, List.getElem?_cons_succ, List.getElem?_cons_zero]; rfl) (fun K hK => ?_)
              refine step_appM 22 Try.underlying22 rfl (.tmp 128) (.tmp 130) rfl rfl rfl ov5 (HE2.out.below bv5) HN2.out bv5.size (by omega) ?_
              intro Av6 cv6 wv6 ov6' hg6 hbx6
              have bv6 : Below V0.heap.size V0 wv6 := bv5.trans hbx6
              have kv6 := ov5.keepBlk kv5 (by decide) hg6
              have ov6 : OwnE wv6 V0.heap.size Av6 (b + M) cv6 (([] ++ css1) ++ css2) := ov6'
              refine hK.out _ _ ?tv6 (fun hv6 => ?_)
              case tv6 => ((try dsimp only); exact TR.out _ (B0.trans (bv6.mono z0)))
              clear hK K hv5
              refine' takeV 11 (oi := _) (d := _) (v := _) ?ti12 ?td12 (by kernel_rfl) (by kernel_rfl) (by kernel_rfl) (by kernel_rfl) (by decide) (fun _ _ _ _ _ h => h) ?tg12 ?ty12 (by assumption) ?tr12
              case ti12 => (simp only [List.getElem?_toArray, List.getElem?_cons_succ, List.getElem?_cons_zero]; rfl)
              case td12 => exact rfl
              case tg12 => exact rfl
              case ty12 => (intro w hSw; (try dsimp only at hSw); go_split_ands; go_simp; try with_reducible rfl)
              simp only [List.setIfInBounds_toArray, List.set_cons_zero, List.set_cons_succ]
              clear hv6
              have hfin : OwnN wv6 w1.heap.size Av6 n cv6 [LA, LB].flatten := by
                have := OwnN.two (es := LA) (es' := LB) (ov6.mono sv) (by rw [List.nil_append]; exact HE1.out.2.1) HLAn.out (fun j hj => by rw [List.nil_append]; exact (HC1.out j hj).below bv6) (fun j hj => (HC2.out j hj).below bv6)
                rw [HM.out] at this
                exact this
              have hB7 : Below w7.heap.size w7 wv6 := B0.trans (bv6.mono z0)
              have sz9 := hB7.size
              obtain ⟨g9, v9, e9, _, _, _⟩ := hfin.first (by omega)
              have hg9 : V0.heap.size ≤ g9 := by have := ov6.ge _ e9; exact this
              refine stepG 13 (by kernel_rfl) (by simp only [List.getElem?_toArray, List.getElem?_cons_succ, List.getElem?_cons_zero]; rfl) (fun K hK => ?_)
              refine step_store_blk rfl 24 (.tmp 11) (.tmp 132) rfl rfl (cs := [.int .u8 (k : Int), .int .u8 (l : Int), .slice Av6 (b + M) cv6]) rfl kv6 rfl infoNd (nd_one _ _ _ _ _) ?_
              intro wz hkz hgz
              refine hK.out _ _ ?ts13 (fun hHeld => ?_)
              case ts13 => ((try dsimp only); exact TR.out _ (hB7.grown hgz (by omega) (by intro q hq; simp at hq; omega)))
              clear hK K
              refine doneG (by kernel_rfl) ?_ _
              go_wp2_with fail
              go_meet
              rw [HM.out] at hkz
              subst e9
              exact ⟨_, g9, _, rfl, hkz, hfin.keptE kv6 (by decide) (by decide) hgz, by omega, hB7.grown hgz (by omega) (by intro q hq; simp at hq; omega)⟩
          · refine StepOf.mk 12 (by simp only [List.getElem?_toArray, List.getElem?_cons_succ, List.getElem?_cons_zero]; rfl) (fun K hK => ?_)
            go_simp
            obtain ⟨wv7, hw7⟩ : ∃ wx : World, wx = wv1.alloc (.cells #[.int .u8 0, .int .u8 0, .slice none 0 0] 24) := ⟨_, rfl⟩
            rw [← hw7]
            have hn7 : Below wv1.heap.size wv1 wv7 := by rw [hw7]; exact below_new _ _
            have bv7 : Below V0.heap.size V0 wv7 := bv1.trans (hn7.mono bv1.size)
            have sq7 := bv1.size
            have kv7 : Blk wv7 wv1.heap.size 24 [Value.int .u8 0, .int .u8 0, .slice none 0 0].toArray := by rw [hw7]; exact Blk.new _ _ _
            have ov7 := ov1.below hn7
            clear hw7
            refine hK.out _ _ ?tv7 (fun hv7 => ?_)
            case tv7 => ((try dsimp only); exact TR.out _ (B0.trans (bv7.mono z0)))
            clear hK K hv1
            refine stepG 7 (by kernel_rfl) (by simp only [List.getElem?_toArray, List.getElem?_cons_succ, List.getElem?_cons_zero]; rfl) (fun K hK => ?_)
            refine step_appM 22 Try.underlying22 rfl (.tmp 125) (.tmp 127) rfl rfl rfl ov7 (HE1.out.below bv7) HN1.out bv7.size (by omega) ?_
            intro Av8 cv8 wv8 ov8' hg8 hbx8
            have bv8 : Below V0.heap.size V0 wv8 := bv7.trans hbx8
            have kv8 := ov7.keepBlk kv7 (by decide) hg8
            have ov8 : OwnE wv8 V0.heap.size Av8 b cv8 ([] ++ css1) := by rw [Nat.zero_add] at ov8'; exact ov8'
            rw [Nat.zero_add]
            refine hK.out _ _ ?tv8 (fun hv8 => ?_)
            case tv8 => ((try dsimp only); exact TR.out _ (B0.trans (bv8.mono z0)))
            clear hK K hv7
            refine stepG 10 (by kernel_rfl) (by simp only [List.getElem?_toArray, List.getElem?_cons_succ, List.getElem?_cons_zero]; rfl) (fun K hK => ?_)
            refine step_appM 22 Try.underlying22 rfl (.tmp 128) (.tmp 130) rfl rfl rfl ov8 (HE2.out.below bv8) HN2.out bv8.size (by omega) ?_
            intro Av9 cv9 wv9 ov9' hg9 hbx9
            have bv9 : Below V0.heap.size V0 wv9 := bv8.trans hbx9
            have kv9 := ov8.keepBlk kv8 (by decide) hg9
            have ov9 : OwnE wv9 V0.heap.size Av9 (b + M) cv9 (([] ++ css1) ++ css2) := ov9'
            refine hK.out _ _ ?tv9 (fun hv9 => ?_)
            case tv9 => ((try dsimp only); exact TR.out _ (B0.trans (bv9.mono z0)))
            clear hK K hv8
            refine' takeV 11 (oi := _) (d := _) (v := _) ?ti14 ?td14 (by kernel_rfl) (by kernel_rfl) (by kernel_rfl) (by kernel_rfl) (by decide) (fun _ _ _ _ _ h => h) ?tg14 ?ty14 (by assumption) ?tr14
            case ti14 => (simp only [List.getElem?_toArray, List.getElem?_cons_succ, List.getElem?_cons_zero]; rfl)
            case td14 => exact rfl
            case tg14 => exact rfl
            case ty14 => (intro w hSw; (try dsimp only at hSw); go_split_ands; go_simp; try with_reducible rfl)
            simp only [List.setIfInBounds_toArray, List.set_cons_zero, List.set_cons_succ]
            clear hv9
            have hfin : OwnN wv9 w1.heap.size Av9 n cv9 [LA, LB].flatten := by
              have := OwnN.two (es := LA) (es' := LB) (ov9.mono sv) (by rw [List.nil_append]; exact HE1.out.2.1) HLAn.out (fun j hj => by rw [List.nil_append]; exact (HC1.out j hj).below bv9) (fun j hj => (HC2.out j hj).below bv9)
              rw [HM.out] at this
              exact this
            have hB7 : Below w7.heap.size w7 wv9 := B0.trans (bv9.mono z0)
            have sz9 := hB7.size
            obtain ⟨g9, v9, e9, _, _, _⟩ := hfin.first (by omega)
            have hg9 : V0.heap.size ≤ g9 := by have := ov9.ge _ e9; exact this
            refine stepG 13 (by kernel_rfl) (by simp only [List.getElem?_toArray, List.getElem?_cons_succ, List.getElem?_cons_zero]; rfl) (fun K hK => ?_)
            refine step_store_blk rfl 24 (.tmp 11) (.tmp 132) rfl rfl (cs := [.int .u8 (k : Int), .int .u8 (l : Int), .slice Av9 (b + M) cv9]) rfl kv9 rfl infoNd (nd_one _ _ _ _ _) ?_
            intro wz hkz hgz
            refine hK.out _ _ ?ts15 (fun hHeld => ?_)
            case ts15 => ((try dsimp only); exact TR.out _ (hB7.grown hgz (by omega) (by intro q hq; simp at hq; omega)))
            clear hK K
            refine doneG (by kernel_rfl) ?_ _
            go_wp2_with fail
            go_meet
            rw [HM.out] at hkz
            subst e9
            exact ⟨_, g9, _, rfl, hkz, hfin.keptE kv9 (by decide) (by decide) hgz, by omega, hB7.grown hgz (by omega) (by intro q hq; simp at hq; omega)⟩
        · refine StepOf.mk 12 (by simp only [List.getElem?_toArray, List.getElem?_cons_succ, List.getElem?_cons_zero]; rfl) (fun K hK => ?_)
          go_simp
          obtain ⟨wv10, hw10⟩ : ∃ wx : World, wx = V0.alloc (.cells #[.int .u8 0, .int .u8 0, .slice none 0 0] 24) := ⟨_, rfl⟩
          rw [← hw10]
          have hn10 : Below V0.heap.size V0 wv10 := by rw [hw10]; exact below_new _ _
          have bv10 : Below V0.heap.size V0 wv10 := bv0.trans (hn10.mono bv0.size)
          have sq10 := bv0.size
          have kv10 : Blk wv10 V0.heap.size 24 [Value.int .u8 0, .int .u8 0, .slice none 0 0].toArray := by rw [hw10]; exact Blk.new _ _ _
          clear hw10
          refine hK.out _ _ ?tv10 (fun hv10 => ?_)
          case tv10 => ((try dsimp only); exact TR.out _ (B0.trans (bv10.mono z0)))
          clear hK K hHeld
          refine stepG 4 (by kernel_rfl) (by simp only [List.getElem?_toArray, List.getElem?_cons_succ, List.getElem?_cons_zero]; rfl) (fun K hK => ?_)
          go_simp
          obtain ⟨wv11, hw11⟩ : ∃ wx : World, wx = wv10.alloc (.cells #[] 46) := ⟨_, rfl⟩
          rw [← hw11]
          have hn11 : Below wv10.heap.size wv10 wv11 := by rw [hw11]; exact below_new _ _
          have bv11 : Below V0.heap.size V0 wv11 := bv10.trans (hn11.mono bv10.size)
          have sq11 := bv10.size
          have ov11 : OwnE wv11 V0.heap.size (some ⟨wv10.heap.size, 0, none⟩) 0 0 [] := by rw [hw11]; exact OwnE.fresh0 _ _ bv10.size
          have kv11 := kv10.below hn11 kv10.lt
          clear hw11
          refine hK.out _ _ ?tv11 (fun hv11 => ?_)
          case tv11 => ((try dsimp only); exact TR.out _ (B0.trans (bv11.mono z0)))
          clear hK K hv10
          refine stepG 7 (by kernel_rfl) (by simp only [List.getElem?_toArray, List.getElem?_cons_succ, List.getElem?_cons_zero]; rfl) (fun K hK => ?_)
          refine step_appM 22 Try.underlying22 rfl (.tmp 125) (.tmp 127) rfl rfl rfl ov11 (HE1.out.below bv11) HN1.out bv11.size (by omega) ?_
          intro Av12 cv12 wv12 ov12' hg12 hbx12
          have bv12 : Below V0.heap.size V0 wv12 := bv11.trans hbx12
          have kv12 := ov11.keepBlk kv11 (by decide) hg12
          have ov12 : OwnE wv12 V0.heap.size Av12 b cv12 ([] ++ css1) := by rw [Nat.zero_add] at ov12'; exact ov12'
          rw [Nat.zero_add]
          refine hK.out _ _ ?tv12 (fun hv12 => ?_)
          case tv12 => ((try dsimp only); exact TR.out _ (B0.trans (bv12.mono z0)))
          clear hK K hv11
          refine stepG 10 (by kernel_rfl) (by simp only [List.getElem?_toArray, List.getElem?_cons_succ, List.getElem?_cons_zero]; rfl) (fun K hK => ?_)
          refine step_appM 22 Try.underlying22 rfl (.tmp 128) (.tmp 130) rfl rfl rfl ov12 (HE2.out.below bv12) HN2.out bv12.size (by omega) ?_
          intro Av13 cv13 wv13 ov13' hg13 hbx13
          have bv13 : Below V0.heap.size V0 wv13 := bv12.trans hbx13
          have kv13 := ov12.keepBlk kv12 (by decide) hg13
          have ov13 : OwnE wv13 V0.heap.size Av13 (b + M) cv13 (([] ++ css1) ++ css2) := ov13'
          refine hK.out _ _ ?tv13 (fun hv13 => ?_)
          case tv13 => ((try dsimp only); exact TR.out _ (B0.trans (bv13.mono z0)))
          clear hK K hv12
          refine' takeV 11 (oi := _) (d := _) (v := _) ?ti16 ?td16 (by kernel_rfl) (by kernel_rfl) (by kernel_rfl) (by kernel_rfl) (by decide) (fun _ _ _ _ _ h => h) ?tg16 ?ty16 (by assumption) ?tr16
          case ti16 => (simp only [List.getElem?_toArray, List.getElem?_cons_succ, List.getElem?_cons_zero]; rfl)
          case td16 => exact rfl
          case tg16 => exact rfl
          case ty16 => (intro w hSw; (try dsimp only at hSw); go_split_ands; go_simp; try with_reducible rfl)
          simp only [List.setIfInBounds_toArray, List.set_cons_zero, List.set_cons_succ]
          clear hv13
          have hfin : OwnN wv13 w1.heap.size Av13 n cv13 [LA, LB].flatten := by
            have := OwnN.two (es := LA) (es' := LB) (ov13.mono sv) (by rw [List.nil_append]; exact HE1.out.2.1) HLAn.out (fun j hj => by rw [List.nil_append]; exact (HC1.out j hj).below bv13) (fun j hj => (HC2.out j hj).below bv13)
            rw [HM.out] at this
            exact this
          have hB7 : Below w7.heap.size w7 wv13 := B0.trans (bv13.mono z0)
          have sz9 := hB7.size
          obtain ⟨g9, v9, e9, _, _, _⟩ := hfin.first (by omega)
          have hg9 : V0.heap.size ≤ g9 := by have := ov13.ge _ e9; exact this
          refine stepG 13 (by kernel_rfl) (by simp only [List.getElem?_toArray, List.getElem?_cons_succ, List.getElem?_cons_zero]; rfl) (fun K hK => ?_)
          refine step_store_blk rfl 24 (.tmp 11) (.tmp 132) rfl rfl (cs := [.int .u8 (k : Int), .int .u8 (l : Int), .slice Av13 (b + M) cv13]) rfl kv13 rfl infoNd (nd_one _ _ _ _ _) ?_
          intro wz hkz hgz
          refine hK.out _ _ ?ts17 (fun hHeld => ?_)
          case ts17 => ((try dsimp only); exact TR.out _ (hB7.grown hgz (by omega) (by intro q hq; simp at hq; omega)))
          clear hK K
          refine doneG (by kernel_rfl) ?_ _
          go_wp2_with fail
          go_meet
          rw [HM.out] at hkz
          subst e9
          exact ⟨_, g9, _, rfl, hkz, hfin.keptE kv13 (by decide) (by decide) hgz, by omega, hB7.grown hgz (by omega) (by intro q hq; simp at hq; omega)⟩
      case rest =>
        obtain ⟨g12, g9, c9, rfl, hk12, hfo, hg9, hbel⟩ := hcut
        have HK12 := Lib.hid hk12
        have HFO := Lib.hid hfo
        have HBE := Lib.hid hbel
        have hbs := hbel.size
        have NC := Lib.hid (N7.out.below hbel)
        have KC3 := Lib.hid (K3.out.below hbel K3.out.lt)
        have KC4 := Lib.hid (K4.out.below hbel K4.out.lt)
        have OC2 := Lib.hid (O2.out.below hbel)
        have hn9 : n ≤ c9 := hfo.cap.1
        have hc9 : c9 ≤ 9223372036854775807 := by have := hfo.cap.2; unfold maxLen at this; omega
        have hmc2 : M ≤ c2 := O2.out.cap.1
        have hc2 : c2 ≤ 9223372036854775807 := by have := O2.out.cap.2; unfold maxLen at this; omega
        have y0 : wc.cell? ⟨w.heap.size, 0, none⟩ = some (.int .u8 (k : Int)) := NC.out.c0
        have HLF : Hid (n = [LA, LB].flatten.length) := by show _ = _; simp [HLAn.out, HLBn.out]; exact HM.out.symm
        clear hk12 hfo hbel
        by_cases hk2 : k = 2
        · have hd : ((k : Int) == 2) = true := by rw [beq_iff_eq]; omega
          obtain ⟨gb', Bq, dq, hgb, a0, hdq⟩ := OC2.out.key0cell (by omega) (HBK.out hk2)
          injection hgb with hgb
          injection hgb with hgb
          subst hgb
          unfold maxLen at hdq
          have f2 : wc.cell? ⟨g3 + 1, 2, none⟩ = some (.slice (some ⟨gb, 0, none⟩) M c2) := KC4.out.cell 2
          have d2 : wc.cell? ⟨g3, 2, none⟩ = some (.slice (some ⟨ga, 0, none⟩) b c1) := KC3.out.cell 2
          have m2 : wc.cell? ⟨g12, 2, none⟩ = some (.slice (some ⟨g9, 0, none⟩) n c9) := HK12.out.cell 2
          obtain ⟨g9', v9, hg9', a9, fr9, _⟩ := HFO.out.cellAt b (by omega)
          injection hg9' with hg9'
          injection hg9' with hg9'
          subst hg9'
          have i1 : (0 : Int) ≤ (b : Int) := by omega
          have i2 : (b : Int) < (n : Int) := by have := HM.out; omega
          have i3 : (0 : Int) < (M : Int) := by omega
          have HONE2 : Hid (setK [LA, LB].flatten b key = es) := by
            show _ = _
            have := HONE.out
            rw [oneL, if_pos hk2, HLAn.out] at this
            exact this
          clear hk2
          go_upto_region 17 with fail
          obtain ⟨w8, hw8⟩ : ∃ w8, w8 = wc.setCell ⟨g9, b * 9, none⟩ (.slice B m d) := ⟨_, rfl⟩
          have HG : Hid (wc.grownBy w8 (some g9)) := by rw [hw8]; exact grown_setCell _ _ _ _
          have hown8 := HFO.out.keyAt b (by have := HM.out; omega) HLF.out (O3.out.below HBE.out)
          rw [HONE2.out, ← hw8] at hown8
          have OA := Lib.hid hown8
          have KA : Hid (Blk w8 g12 24 (ndA k l (some ⟨g9, 0, none⟩) n c9)) := by obtain ⟨css, hoe, _⟩ := HFO.out; exact hoe.keepBlk HK12.out (by decide) HG.out
          have HT : Hid (Below w7.heap.size w7 w8) := HBE.out.grown HG.out (by omega) (by intro q hq; simp at hq; omega)
          rw [← hw8]
          clear hw8 hown8 f2 d2 m2 a0 a9 fr9 y0 hd HG HFO HK12 HBE NC KC3 KC4 OC2 i1 i2 i3 hdq
          have s8 := HT.out.size
          have Q3 := Lib.hid (K3.out.below HT.out K3.out.lt)
          have Q4 := Lib.hid (K4.out.below HT.out K4.out.lt)
          have QA := Lib.hid ((O1.out.below HT.out).rdl HLAn.out.symm)
          have QB := Lib.hid ((O2.out.below HT.out).rdl HLBn.out.symm)
          have QK := Lib.hid (O3.out.below HT.out).rd
          have QN := Lib.hid (N7.out.below HT.out)
          have hb1c : b ≤ c1 := O1.out.cap.1
          have hc1 : c1 ≤ 9223372036854775807 := by have := O1.out.cap.2; unfold maxLen at this; omega
          have d2 : w8.cell? ⟨g3, 2, none⟩ = some (.slice (some ⟨ga, 0, none⟩) b c1) := Q3.out.cell 2
          go_wp2_with fail
          go_loopw [154] (fun z wr => ∃ i : Nat, i ≤ b ∧ z = .int .i64 (i : Int) ∧ wr = w8) (fun z _ => b - (intOf z).toNat)
          case atStart => exact ⟨0, Nat.zero_le _, rfl, rfl⟩
          case round =>
            obtain ⟨i, hi, rfl, rfl⟩ := hrel
            by_cases hlt : i < b
            · obtain ⟨bq, oq, A5, n5, c5, A6, n6, c6, hAq, hat, hrk, _⟩ := QA.out.ent i hlt _ rfl
              have hAA : bq = ga ∧ oq = 0 := by injection hAq with h1; injection h1 with h1 h2; exact ⟨h1.symm, h2.symm⟩
              obtain ⟨rfl, rfl⟩ := hAA
              have a0 : wr.cell? ⟨bq, i * 9, none⟩ = some (.slice A5 n5 c5) := by have h0 := hat.c0; rw [Nat.zero_add] at h0; exact h0
              have HCM := compare_any A5 n5 c5 (LA.getD i ent0).key B m d key wr hrk QK.out
              obtain ⟨C, hC⟩ : ∃ C, Lib.compareBytes (LA.getD i ent0).key key = C := ⟨_, rfl⟩
              have hCn : ¬ C ≥ 0 := by rw [← hC]; exact less_cmp (HLS.out i hlt)
              rw [hC] at HCM
              have HCC := Lib.hid HCM
              have hd1 : decide (C ≥ 0) = false := decide_eq_false hCn
              have hd2 : decide (0 ≤ C) = false := decide_eq_false hCn
              have i1 : (0 : Int) ≤ (i : Int) := by omega
              have i2 : (i : Int) < (b : Int) := by omega
              clear hat hrk HCM hC hCn hAq
              go_wp2_with (go_at_call 37; refine HCC.out.mono ?_; rintro e w' ⟨rfl, rfl⟩)
              go_roundw
              case rel => exact ⟨i + 1, by omega, by go_num, trivial⟩
              case measure => first | (simp [intOf]; done) | (simp [intOf]; omega)
            · obtain rfl : i = b := by omega
              have HCJ := join_any k l (some ⟨ga, 0, none⟩) i c1 LA k l (some ⟨gb, 0, none⟩) M c2 LB B m d key wr QA.out QB.out QK.out hk hl hk hl (by omega) (by omega) HSA.out HCA.out HSB.out HIA.out HIB.out (by rw [QK.out.len]; have := HKL.out; omega)
              rw [HJB.out] at HCJ
              have HCJJ := Lib.hid (NodB.zero HCJ rfl rfl)
              clear HCJ d2
              have d0 : wr.cell? ⟨g3, 0, none⟩ = some (.int .u8 (k : Int)) := Q3.out.cell 0
              have d1 : wr.cell? ⟨g3, 1, none⟩ = some (.int .u8 (l : Int)) := Q3.out.cell 1
              have d2 : wr.cell? ⟨g3, 2, none⟩ = some (.slice (some ⟨ga, 0, none⟩) i c1) := Q3.out.cell 2
              have f0 : wr.cell? ⟨g3 + 1, 0, none⟩ = some (.int .u8 (k : Int)) := Q4.out.cell 0
              have f1 : wr.cell? ⟨g3 + 1, 1, none⟩ = some (.int .u8 (l : Int)) := Q4.out.cell 1
              have f2 : wr.cell? ⟨g3 + 1, 2, none⟩ = some (.slice (some ⟨gb, 0, none⟩) M c2) := Q4.out.cell 2
              clear hlt hi
              go_wp2_with fail
              refine HCJJ.out.mono ?_
              rintro e w9 ⟨A13, c13, rfl, hb⟩
              clear d0 d1 d2 f0 f1 f2 HCJJ
              have s9 := hb.size
              obtain ⟨wa, hwa⟩ : ∃ wa, wa = w9.alloc (.cells #[.int .u8 0, .int .u8 0, .slice A13 0 c13] 24) := ⟨_, rfl⟩
              have hba : Below wr.heap.size wr wa := by rw [hwa]; exact hb.alloc s9 _
              have HWA := Lib.hid hwa
              replace KA := Lib.hid (KA.out.below hba KA.out.lt)
              replace OA := Lib.hid (OA.out.below hba)
              replace QN := Lib.hid (QN.out.below hba)
              replace QK := Lib.hid (QK.out.below hba)
              replace Q3 := Lib.hid (Q3.out.below hba Q3.out.lt)
              replace HT := Lib.hid (HT.out.trans (hba.mono s8))
              clear hb hwa hba Q4 QA QB
              go_upto_region 24 with fail
              rw [← HWA.out]
              have HCS := slotsame_any k l (some ⟨g9, 0, none⟩) n c9 es k l A n c es wa (OA.out.rdl HLn.out) QN.out.rd
              rw [sameN_refl] at HCS
              have HCSS := Lib.hid HCS
              clear HCS
              have d0 : wa.cell? ⟨g12, 0, none⟩ = some (.int .u8 (k : Int)) := KA.out.cell 0
              have d1 : wa.cell? ⟨g12, 1, none⟩ = some (.int .u8 (l : Int)) := KA.out.cell 1
              have d2 : wa.cell? ⟨g12, 2, none⟩ = some (.slice (some ⟨g9, 0, none⟩) n c9) := KA.out.cell 2
              have y0 := QN.out.c0
              have y1 := QN.out.c1
              have y2 := QN.out.c2
              go_wp2_with fail
              refine HCSS.out.mono ?_
              rintro e wb ⟨rfl, hb⟩
              replace QN := Lib.hid (QN.out.below hb)
              replace QK := Lib.hid (QK.out.below hb)
              replace Q3 := Lib.hid (Q3.out.below hb Q3.out.lt)
              have HU : Hid (Below W.heap.size W wb) := (HX.out.trans (HT.out.mono s7)).trans (hb.mono (HX.out.trans (HT.out.mono s7)).size)
              clear d0 d1 d2 y0 y1 y2 HCSS hb KA OA
              have hin : i < n := by have := HM.out; omega
              obtain ⟨bq, oq, A5, n5, c5, A6, n6, c6, rfl, hat, hrk, _⟩ := QN.out.rd.ent i hin _ rfl
              have a0 := hat.c0
              have d2 : wb.cell? ⟨g3, 2, none⟩ = some (.slice (some ⟨ga, 0, none⟩) i c1) := Q3.out.cell 2
              have y2 := QN.out.c2
              have hnc := QN.out.rd.cap
              have hcm := QN.out.rd.max
              unfold maxLen at hcm
              rw [HKEY.out] at hrk
              have HEQ := equal_any A5 n5 c5 key B m d key wb hrk QK.out
              rw [beq_self_eq_true] at HEQ
              have HEQQ := Lib.hid HEQ
              have i1 : (0 : Int) ≤ (i : Int) := by omega
              have i2 : (i : Int) < (n : Int) := by omega
              clear HEQ hat hrk
              go_wp2_with fail
              refine HEQQ.out.mono ?_
              rintro e _ ⟨rfl, rfl⟩
              clear HEQQ
              go_wp2_with fail
              refine (known_any wb).mono ?_
              rintro e wf ⟨rfl, hbf⟩
              have HZ : Hid (Below W.heap.size W wf) := HU.out.trans (hbf.mono HU.out.size)
              clear hbf
              go_wp2_with fail
              go_ret
              exact ⟨rfl, HB0.out.trans (HZ.out.mono s0)⟩
        · have hd : ((k : Int) == 2) = false := by rw [beq_eq_false_iff_ne]; omega
          have HONE2 : Hid ([LA, LB].flatten = es) := by
            show _ = _
            have := HONE.out
            rw [oneL, if_neg hk2] at this
            exact this
          clear hk2
          go_upto_region 17 with fail
          have HT := HBE
          have KA := HK12
          rw [HONE2.out] at HFO
          have OA := HFO
          obtain ⟨w8, hw8⟩ : ∃ w8, w8 = wc := ⟨_, rfl⟩
          rw [← hw8] at HT KA OA ⊢
          clear hw8 y0 hd HFO HK12 HBE NC KC3 KC4 OC2
          have s8 := HT.out.size
          have Q3 := Lib.hid (K3.out.below HT.out K3.out.lt)
          have Q4 := Lib.hid (K4.out.below HT.out K4.out.lt)
          have QA := Lib.hid ((O1.out.below HT.out).rdl HLAn.out.symm)
          have QB := Lib.hid ((O2.out.below HT.out).rdl HLBn.out.symm)
          have QK := Lib.hid (O3.out.below HT.out).rd
          have QN := Lib.hid (N7.out.below HT.out)
          have hb1c : b ≤ c1 := O1.out.cap.1
          have hc1 : c1 ≤ 9223372036854775807 := by have := O1.out.cap.2; unfold maxLen at this; omega
          have d2 : w8.cell? ⟨g3, 2, none⟩ = some (.slice (some ⟨ga, 0, none⟩) b c1) := Q3.out.cell 2
          go_wp2_with fail
          go_loopw [154] (fun z wr => ∃ i : Nat, i ≤ b ∧ z = .int .i64 (i : Int) ∧ wr = w8) (fun z _ => b - (intOf z).toNat)
          case atStart => exact ⟨0, Nat.zero_le _, rfl, rfl⟩
          case round =>
            obtain ⟨i, hi, rfl, rfl⟩ := hrel
            by_cases hlt : i < b
            · obtain ⟨bq, oq, A5, n5, c5, A6, n6, c6, hAq, hat, hrk, _⟩ := QA.out.ent i hlt _ rfl
              have hAA : bq = ga ∧ oq = 0 := by injection hAq with h1; injection h1 with h1 h2; exact ⟨h1.symm, h2.symm⟩
              obtain ⟨rfl, rfl⟩ := hAA
              have a0 : wr.cell? ⟨bq, i * 9, none⟩ = some (.slice A5 n5 c5) := by have h0 := hat.c0; rw [Nat.zero_add] at h0; exact h0
              have HCM := compare_any A5 n5 c5 (LA.getD i ent0).key B m d key wr hrk QK.out
              obtain ⟨C, hC⟩ : ∃ C, Lib.compareBytes (LA.getD i ent0).key key = C := ⟨_, rfl⟩
              have hCn : ¬ C ≥ 0 := by rw [← hC]; exact less_cmp (HLS.out i hlt)
              rw [hC] at HCM
              have HCC := Lib.hid HCM
              have hd1 : decide (C ≥ 0) = false := decide_eq_false hCn
              have hd2 : decide (0 ≤ C) = false := decide_eq_false hCn
              have i1 : (0 : Int) ≤ (i : Int) := by omega
              have i2 : (i : Int) < (b : Int) := by omega
              clear hat hrk HCM hC hCn hAq
              go_wp2_with (go_at_call 37; refine HCC.out.mono ?_; rintro e w' ⟨rfl, rfl⟩)
              go_roundw
              case rel => exact ⟨i + 1, by omega, by go_num, trivial⟩
              case measure => first | (simp [intOf]; done) | (simp [intOf]; omega)
            · obtain rfl : i = b := by omega
              have HCJ := join_any k l (some ⟨ga, 0, none⟩) i c1 LA k l (some ⟨gb, 0, none⟩) M c2 LB B m d key wr QA.out QB.out QK.out hk hl hk hl (by omega) (by omega) HSA.out HCA.out HSB.out HIA.out HIB.out (by rw [QK.out.len]; have := HKL.out; omega)
              rw [HJB.out] at HCJ
              have HCJJ := Lib.hid (NodB.zero HCJ rfl rfl)
              clear HCJ d2
              have d0 : wr.cell? ⟨g3, 0, none⟩ = some (.int .u8 (k : Int)) := Q3.out.cell 0
              have d1 : wr.cell? ⟨g3, 1, none⟩ = some (.int .u8 (l : Int)) := Q3.out.cell 1
              have d2 : wr.cell? ⟨g3, 2, none⟩ = some (.slice (some ⟨ga, 0, none⟩) i c1) := Q3.out.cell 2
              have f0 : wr.cell? ⟨g3 + 1, 0, none⟩ = some (.int .u8 (k : Int)) := Q4.out.cell 0
              have f1 : wr.cell? ⟨g3 + 1, 1, none⟩ = some (.int .u8 (l : Int)) := Q4.out.cell 1
              have f2 : wr.cell? ⟨g3 + 1, 2, none⟩ = some (.slice (some ⟨gb, 0, none⟩) M c2) := Q4.out.cell 2
              clear hlt hi
              go_wp2_with fail
              refine HCJJ.out.mono ?_
              rintro e w9 ⟨A13, c13, rfl, hb⟩
              clear d0 d1 d2 f0 f1 f2 HCJJ
              have s9 := hb.size
              obtain ⟨wa, hwa⟩ : ∃ wa, wa = w9.alloc (.cells #[.int .u8 0, .int .u8 0, .slice A13 0 c13] 24) := ⟨_, rfl⟩
              have hba : Below wr.heap.size wr wa := by rw [hwa]; exact hb.alloc s9 _
              have HWA := Lib.hid hwa
              replace KA := Lib.hid (KA.out.below hba KA.out.lt)
              replace OA := Lib.hid (OA.out.below hba)
              replace QN := Lib.hid (QN.out.below hba)
              replace QK := Lib.hid (QK.out.below hba)
              replace Q3 := Lib.hid (Q3.out.below hba Q3.out.lt)
              replace HT := Lib.hid (HT.out.trans (hba.mono s8))
              clear hb hwa hba Q4 QA QB
              go_upto_region 24 with fail
              rw [← HWA.out]
              have HCS := slotsame_any k l (some ⟨g9, 0, none⟩) n c9 es k l A n c es wa (OA.out.rdl HLn.out) QN.out.rd
              rw [sameN_refl] at HCS
              have HCSS := Lib.hid HCS
              clear HCS
              have d0 : wa.cell? ⟨g12, 0, none⟩ = some (.int .u8 (k : Int)) := KA.out.cell 0
              have d1 : wa.cell? ⟨g12, 1, none⟩ = some (.int .u8 (l : Int)) := KA.out.cell 1
              have d2 : wa.cell? ⟨g12, 2, none⟩ = some (.slice (some ⟨g9, 0, none⟩) n c9) := KA.out.cell 2
              have y0 := QN.out.c0
              have y1 := QN.out.c1
              have y2 := QN.out.c2
              go_wp2_with fail
              refine HCSS.out.mono ?_
              rintro e wb ⟨rfl, hb⟩
              replace QN := Lib.hid (QN.out.below hb)
              replace QK := Lib.hid (QK.out.below hb)
              replace Q3 := Lib.hid (Q3.out.below hb Q3.out.lt)
              have HU : Hid (Below W.heap.size W wb) := (HX.out.trans (HT.out.mono s7)).trans (hb.mono (HX.out.trans (HT.out.mono s7)).size)
              clear d0 d1 d2 y0 y1 y2 HCSS hb KA OA
              have hin : i < n := by have := HM.out; omega
              obtain ⟨bq, oq, A5, n5, c5, A6, n6, c6, rfl, hat, hrk, _⟩ := QN.out.rd.ent i hin _ rfl
              have a0 := hat.c0
              have d2 : wb.cell? ⟨g3, 2, none⟩ = some (.slice (some ⟨ga, 0, none⟩) i c1) := Q3.out.cell 2
              have y2 := QN.out.c2
              have hnc := QN.out.rd.cap
              have hcm := QN.out.rd.max
              unfold maxLen at hcm
              rw [HKEY.out] at hrk
              have HEQ := equal_any A5 n5 c5 key B m d key wb hrk QK.out
              rw [beq_self_eq_true] at HEQ
              have HEQQ := Lib.hid HEQ
              have i1 : (0 : Int) ≤ (i : Int) := by omega
              have i2 : (i : Int) < (n : Int) := by omega
              clear HEQ hat hrk
              go_wp2_with fail
              refine HEQQ.out.mono ?_
              rintro e _ ⟨rfl, rfl⟩
              clear HEQQ
              go_wp2_with fail
              refine (known_any wb).mono ?_
              rintro e wf ⟨rfl, hbf⟩
              have HZ : Hid (Below W.heap.size W wf) := HU.out.trans (hbf.mono HU.out.size)
              clear hbf
              go_wp2_with fail
              go_ret
              exact ⟨rfl, HB0.out.trans (HZ.out.mono s0)⟩
    · obtain ⟨E, HE⟩ : ∃ E, Hid (splE k l es = E) := ⟨_, rfl⟩
      have hEn : (E != 0) = true := by rw [bne_iff_ne, ← HE.out]; exact hsp
      have HNO := Lib.hid (SplP.no HC HE.out (by rw [← HE.out]; exact hsp))
      clear HC hsp
      go_wp2_with fail
      refine HNO.out.mono ?_
      rintro e w2 ⟨A1, c1, A2, c2, B, d, rfl, hb⟩
      clear d0 d1 d2 HNO
      have s2 := hb.size
      obtain ⟨g3, hg3⟩ : ∃ g3, w2.heap.size = g3 := ⟨_, rfl⟩
      obtain ⟨w5, hw5⟩ : ∃ w5, w5 = (w2.alloc (.cells #[.int .u8 0, .int .u8 0, .slice A1 0 c1] 24)).alloc (.cells #[.int .u8 0, .int .u8 0, .slice A2 0 c2] 24) := ⟨_, rfl⟩
      have hx5 : Below w2.heap.size w2 w5 := by rw [hw5]; exact (below_new _ _).alloc (by simp) _
      have K3 : Hid (Blk w5 g3 24 #[.int .u8 0, .int .u8 0, .slice A1 0 c1]) := by rw [hw5]; exact (Blk.new' _ _ _ _ hg3).alloc _
      have K4 : Hid (Blk w5 (g3 + 1) 24 #[.int .u8 0, .int .u8 0, .slice A2 0 c2]) := by rw [hw5]; exact Blk.new' _ _ _ _ (by rw [size_new, hg3])
      have HX : Hid (Below W.heap.size W w5) := HB1.out.trans ((hb.trans (hx5.mono s2)).mono s1)
      have HW5 := Lib.hid hw5
      have HG3 := Lib.hid hg3
      clear hb hw5 hx5 hg3 N1
      go_upto_region 4 with fail
      rw [← HW5.out, HG3.out]
      have d2 : w5.cell? ⟨g3, 2, none⟩ = some (.slice A1 0 c1) := K3.out.cell 2
      have f2 : w5.cell? ⟨g3 + 1, 2, none⟩ = some (.slice A2 0 c2) := K4.out.cell 2
      go_wp2_with (go_at_call 13; refine (known_any _).mono ?_; rintro e w9 ⟨rfl, hb9⟩)
      go_ret
      exact ⟨rfl, HB0.out.trans ((HX.out.trans (hb9.mono HX.out.size)).mono s0)⟩
end Go.Proofs.Ytgihcjmcefdkiaa
