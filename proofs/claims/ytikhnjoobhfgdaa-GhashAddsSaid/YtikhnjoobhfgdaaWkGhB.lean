/- The walk of GhashSums. -/
import Derived.Test.YtikhnjoobhfgdaaGhH
import Derived.Test.YtikhnjoobhfgdaaRegG
set_option linter.unusedVariables false
namespace Go.Proofs.Ytikhnjoobhfgdaa
open Go.RowKit

theorem sum_o (hb : List UInt8) (cx cr : List Value) (l1 l2 : List UInt8) (hcx : Hid (cx = hb.map B8)) (hcr : Hid (cr = (be (gfin (num hb) l1 l2) 16).map B8)) (hl : hb.length = 16) (A1 : Option Addr) (n1 c1 : Nat) (A2 : Option Addr) (n2 c2 : Nat) (w : World) (h1 : Rd w A1 n1 c1 l1) (h2 : Rd w A2 n2 c2 l2) (hn1 : n1 ≤ 1000000) (hn2 : n2 ≤ 1000000) :
    Calls Try.prog 10 #[.agg cx.toArray, .slice A1 n1 c1, .slice A2 n2 c2] w fun e w' => e = .returned (.agg cr.toArray) ∧ Below w.heap.size w w' := by
  rw [hcx.out, hcr.out]
  exact sum_any hb hl A1 n1 c1 l1 A2 n2 c2 l2 w h1 h2 (by omega) (by omega)
theorem refsum_o (hb : List UInt8) (cx cr : List Value) (l1 l2 : List UInt8) (hcx : Hid (cx = hb.map B8)) (hcr : Hid (cr = (be (gfin (num hb) l1 l2) 16).map B8)) (hl : hb.length = 16) (A1 : Option Addr) (n1 c1 : Nat) (A2 : Option Addr) (n2 c2 : Nat) (w : World) (h1 : Rd w A1 n1 c1 l1) (h2 : Rd w A2 n2 c2 l2) (hn1 : n1 ≤ 1000000) (hn2 : n2 ≤ 1000000) :
    Calls Try.prog 12 #[.agg cx.toArray, .slice A1 n1 c1, .slice A2 n2 c2] w fun e w' => e = .returned (.agg cr.toArray) ∧ Below w.heap.size w w' := by
  rw [hcx.out, hcr.out]
  exact refsum_any hb hl A1 n1 c1 l1 A2 n2 c2 l2 w h1 h2 hn1 hn2
theorem same_refl (A : Option Addr) (n c : Nat) (l : List UInt8) (A' : Option Addr) (n' c' : Nat) (w : World) (h : Rd w A n c l) (h' : Rd w A' n' c' l) :
    Calls Try.prog 11 #[.slice A n c, .slice A' n' c'] w fun e w' => e = .returned (.bool true) ∧ w = w' := by
  have := same_any A n c l A' n' c' l w h h'
  rwa [beq_self_eq_true] at this
theorem eqcs (b : List UInt8) (cr : List Value) (hcr : Hid (cr = b.map B8)) (hb : b.length = 16) : ∀ W, (Op.equalIn 10000 22 (.agg cr.toArray) (.agg cr.toArray)).run Try.prog W = .ok true W := fun W => by
  have := eq16 b b hb hb W
  rw [beq_self_eq_true, A16, ← hcr.out] at this
  exact this

set_option maxRecDepth 100000 in
set_option maxHeartbeats 3200000 in
theorem ghashSums_walk (hb : List UInt8) (A1 : Option Addr) (n1 c1 : Nat) (l1 : List UInt8) (A2 : Option Addr) (n2 c2 : Nat) (l2 : List UInt8) (w : World) (hl : hb.length = 16) (h1 : Rd w A1 n1 c1 l1) (hc1 : c1 ≤ 140737488351232) (h2 : Rd w A2 n2 c2 l2) (hc2 : c2 ≤ 140737488351232) :
    Calls Try.prog 3 #[.agg (hb.map B8).toArray, .slice A1 n1 c1, .slice A2 n2 c2] w fun e w' => e = .returned (.bool true) ∧ Below w.heap.size w w' := by
  have hcap1 := h1.cap
  have hcap2 := h2.cap
  obtain ⟨H, HH⟩ : ∃ H, Hid (w.heap.size = H) := ⟨_, rfl⟩
  obtain ⟨cx, Hcx⟩ : ∃ cs, Hid (cs = hb.map B8) := ⟨_, rfl⟩
  have HX := Lib.hid hl
  have lx : Hid (cx.length = 16) := by show _ = _; rw [Hcx.out]; simpa using hl
  rw [← Hcx.out]
  have KX : Hid (Blk (w.alloc (.cells cx.toArray 22)) H 22 cx.toArray) := Blk.new' _ _ _ _ HH.out
  have HB : Hid (Below H w (w.alloc (.cells cx.toArray 22))) := by rw [← HH.out]; exact below_new _ _
  have R1 : Hid (Rd (w.alloc (.cells cx.toArray 22)) A1 n1 c1 l1) := h1.below (below_new _ _)
  have R2 : Hid (Rd (w.alloc (.cells cx.toArray 22)) A2 n2 c2 l2) := h2.below (below_new _ _)
  clear h1 h2 hl
  by_cases hbig : 2000 < n1 ∨ 2000 < n2
  · have hd : (decide ((n1 : Int) > 2000) = true) ∨ (decide ((n1 : Int) > 2000) = false ∧ decide ((n2 : Int) > 2000) = true) := by
      by_cases h : 2000 < n1
      · exact .inl (decide_eq_true (by omega))
      · exact .inr ⟨decide_eq_false (by omega), decide_eq_true (by omega)⟩
    clear hbig
    rcases hd with hd | ⟨hd, hd2⟩
    all_goals
      go_enter Try.func3, Try.ntmps3
      go_wp2_with (go_at_call 8; refine (known_any _).mono ?_; rintro e w3 ⟨rfl, hb3⟩)
      go_ret
      exact ⟨rfl, by rw [HH.out]; exact HB.out.trans (hb3.mono (by simp [HH.out]))⟩
  · have hd : decide ((n1 : Int) > 2000) = false := decide_eq_false (by omega)
    have hd2 : decide ((n2 : Int) > 2000) = false := decide_eq_false (by omega)
    obtain ⟨z, HZ⟩ : ∃ z, Hid (z = List.replicate 16 (Value.int .u8 0)) := ⟨_, rfl⟩
    have lz : Hid (z.length = 16) := by show _ = _; rw [HZ.out]; simp
    have hz2 : ∀ W : World, (zeroValue 22).run Try.prog W = .ok (.agg z.toArray) W := fun W => by rw [HZ.out]; kernel_rfl
    have HU : Hid (Try.prog.underlying 22 = some (.array 16 5)) := Try.underlying22
    obtain ⟨cr, Hcr⟩ : ∃ cs, Hid (cs = (be (gfin (num hb) l1 l2) 16).map B8) := ⟨_, rfl⟩
    have lr : Hid (cr.length = 16) := by show _ = _; rw [Hcr.out]; simp [be_length]
    have hq := eqcs _ cr Hcr (be_length _ 16)
    have cr1 : ∀ v ∈ cr, v.oneCell' = true := by rw [Hcr.out]; exact b8_one
    have HCR1 := Lib.hid cr1
    have bn1 : n1 ≤ 2000 := by omega
    have bn2 : n2 ≤ 2000 := by omega
    clear cr1 hbig
    go_enter Try.func3, Try.ntmps3
    go_wp2_with fail
    refine (copy_any A1 n1 c1 l1 _ R1.out (by omega)).mono ?_
    rintro e w1 ⟨A3, c3, rfl, hown1, hb1⟩
    have KX1 := Lib.hid (KX.out.below hb1 KX.out.lt)
    have S1 := Lib.hid (R1.out.below hb1)
    have S2 := Lib.hid (R2.out.below hb1)
    have O1 := Lib.hid (Own.rd hown1)
    have HB1 := Lib.hid (HB.out.trans (hb1.mono (Nat.le_of_lt KX.out.lt)))
    clear hown1 hb1
    go_wp2_with fail
    refine (copy_any A2 n2 c2 l2 _ S2.out (by omega)).mono ?_
    rintro e w2 ⟨A4, c4, rfl, hown2, hb2⟩
    have KX2 := Lib.hid (KX1.out.below hb2 KX1.out.lt)
    have T1 := Lib.hid (S1.out.below hb2)
    have T2 := Lib.hid (S2.out.below hb2)
    have P1 := Lib.hid (O1.out.below hb2)
    have P2 := Lib.hid (Own.rd hown2)
    have HB2 := Lib.hid (HB1.out.trans (hb2.mono (Nat.le_of_lt KX1.out.lt)))
    clear hown2 hb2
    rw [HH.out]
    go_wp2_with (with_reducible refine wpList_load_blk rfl 22 (.tmp 3) rfl rfl KX2.out _ HU.out rfl (by rw [lx.out]; exact infoA16) ?_)
    refine (sum_o hb cx cr l1 l2 Hcx Hcr HX.out A3 n1 c3 A4 n2 c4 w2 P1.out P2.out (by omega) (by omega)).mono ?_
    rintro e w3 ⟨rfl, hb3⟩
    have KX3 := Lib.hid (KX2.out.below hb3 KX2.out.lt)
    have T13 := Lib.hid (T1.out.below hb3)
    have T23 := Lib.hid (T2.out.below hb3)
    have P13 := Lib.hid (P1.out.below hb3)
    have P23 := Lib.hid (P2.out.below hb3)
    have HB3 := Lib.hid (HB2.out.trans (hb3.mono (Nat.le_of_lt KX2.out.lt)))
    clear hb3
    have hHG : H < w3.heap.size := KX3.out.lt
    have KZ : Hid (Blk (w3.alloc (.cells z.toArray 22)) w3.heap.size 22 z.toArray) := Blk.new _ _ _
    go_wp2_with (with_reducible refine wpList_store_blk rfl 22 (.tmp 9) (.tmp 26) rfl rfl rfl KZ.out (by rw [lr.out, lz.out]) (by rw [lr.out]; exact infoA16) HCR1.out ?_; intro w5 hk5 hg5)
    have hb5 : Below w3.heap.size w3 w5 := (below_new w3 _).grown hg5 (by simp) (by intro k hk; simp at hk; omega)
    obtain ⟨G, hG⟩ : ∃ G, w3.heap.size = G := ⟨_, rfl⟩
    have KX5 := Lib.hid (KX3.out.below hb5 KX3.out.lt)
    have T15 := Lib.hid (T13.out.below hb5)
    have T25 := Lib.hid (T23.out.below hb5)
    have P15 := Lib.hid (P13.out.below hb5)
    have P25 := Lib.hid (P23.out.below hb5)
    have HB5 := Lib.hid (HB3.out.trans (hb5.mono (Nat.le_of_lt hHG)))
    rw [hG] at hk5
    have KS5 := Lib.hid hk5
    clear hk5 hg5 hb5 KZ hHG
    rw [hG]
    clear hG
    go_wp2_with fail
    refine region_gate 20 (fun w' => Rd w' A3 n1 c3 l1 ∧ Rd w' A4 n2 c4 l2 ∧ Rd w' A1 n1 c1 l1 ∧ Rd w' A2 n2 c2 l2 ∧ Blk w' H 22 cx.toArray ∧ Blk w' G 22 cr.toArray ∧ Below H w w') (by kernel_rfl) ?th1 (fun hHeld => ?tk1)
    case th1 => ((try dsimp only); exact ⟨P15.out.below (below_drewN (Below.refl _ _) 1), P25.out.below (below_drewN (Below.refl _ _) 1), T15.out.below (below_drewN (Below.refl _ _) 1), T25.out.below (below_drewN (Below.refl _ _) 1), KX5.out.drew, KS5.out.drew, HB5.out.drew⟩)
    refine' takeV 0 (oi := _) (d := _) (v := _) ?ti2 ?td2 (by kernel_rfl) (by kernel_rfl) (by kernel_rfl) (by kernel_rfl) (by decide) (fun _ _ _ _ _ h => h) ?tg2 ?ty2 (by assumption) ?tr2
    case ti2 => (simp only [List.getElem?_toArray, List.getElem?_cons_succ, List.getElem?_cons_zero]; rfl)
    case td2 => exact rfl
    case tg2 => exact rfl
    case ty2 => (intro w hSw; (try dsimp only at hSw); go_split_ands; go_simp; try with_reducible rfl)
    simp only [List.setIfInBounds_toArray, List.set_cons_zero, List.set_cons_succ]
    refine' takeV 1 (oi := _) (d := _) (v := _) ?ti3 ?td3 (by kernel_rfl) (by kernel_rfl) (by kernel_rfl) (by kernel_rfl) (by decide) (fun _ _ _ _ _ h => h) ?tg3 ?ty3 (by assumption) ?tr3
    case ti3 => (simp only [List.getElem?_toArray, List.getElem?_cons_succ, List.getElem?_cons_zero]; rfl)
    case td3 => exact rfl
    case tg3 => exact rfl
    case ty3 => (intro w hSw; (try dsimp only at hSw); go_split_ands; go_simp; try with_reducible rfl)
    simp only [List.setIfInBounds_toArray, List.set_cons_zero, List.set_cons_succ]
    refine' takeC 2 (oi := _) (d := _) (v := _) ?ti4 ?td4 (by kernel_rfl) (by kernel_rfl) (by kernel_rfl) (by kernel_rfl) (by decide) (fun _ _ _ _ _ h => h) ?tg4 ?ty4 (by assumption) ?tr4
    case ti4 => (simp only [List.getElem?_toArray, List.getElem?_cons_succ, List.getElem?_cons_zero]; rfl)
    case td4 => exact rfl
    case tg4 => exact rfl
    case ty4 => (intro w hSw; have hc := same_refl A3 n1 c3 l1 A1 n1 c1 w hSw.1 hSw.2.2.1; exact OnlyV.call rfl Try.func11 (by kernel_rfl) (by kernel_rfl) (Calls.mono hc (by rintro e w2 ⟨rfl, rfl⟩; constructor <;> rfl)) (by simp only [List.map_toArray, List.map_cons, List.map_nil]; rfl))
    simp only [List.setIfInBounds_toArray, List.set_cons_zero, List.set_cons_succ]
    refine' takeV 3 (oi := _) (d := _) (v := _) ?ti5 ?td5 (by kernel_rfl) (by kernel_rfl) (by kernel_rfl) (by kernel_rfl) (by decide) (fun _ _ _ _ _ h => h) ?tg5 ?ty5 (by assumption) ?tr5
    case ti5 => (simp only [List.getElem?_toArray, List.getElem?_cons_succ, List.getElem?_cons_zero]; rfl)
    case td5 => exact rfl
    case tg5 => exact rfl
    case ty5 => (intro w hSw; (try dsimp only at hSw); go_split_ands; go_simp; try with_reducible rfl)
    simp only [List.setIfInBounds_toArray, List.set_cons_zero, List.set_cons_succ]
    refine' takeVg 4 (oi := _) (d := _) (v := _) ?ti6 ?td6 (by kernel_rfl) (by kernel_rfl) (by kernel_rfl) (by kernel_rfl) (by decide) (fun _ _ _ _ _ h => h) ?tg6 ?ty6 (by assumption) ?tr6
    case ti6 => (simp only [List.getElem?_toArray, List.getElem?_cons_succ, List.getElem?_cons_zero]; rfl)
    case td6 => exact rfl
    case tg6 => exact rfl
    case ty6 => (intro w hSw; (try dsimp only at hSw); go_split_ands; go_simp; try with_reducible rfl)
    simp only [List.setIfInBounds_toArray, List.set_cons_zero, List.set_cons_succ]
    refine' takeVg 5 (oi := _) (d := _) (v := _) ?ti7 ?td7 (by kernel_rfl) (by kernel_rfl) (by kernel_rfl) (by kernel_rfl) (by decide) (fun _ _ _ _ _ h => h) ?tg7 ?ty7 (by assumption) ?tr7
    case ti7 => (simp only [List.getElem?_toArray, List.getElem?_cons_succ, List.getElem?_cons_zero]; rfl)
    case td7 => exact rfl
    case tg7 => exact rfl
    case ty7 => (intro w hSw; (try dsimp only at hSw); go_split_ands; go_simp; try with_reducible rfl)
    simp only [List.setIfInBounds_toArray, List.set_cons_zero, List.set_cons_succ]
    refine' takeCg 6 (oi := _) (d := _) (v := _) ?ti8 ?td8 (by kernel_rfl) (by kernel_rfl) (by kernel_rfl) (by kernel_rfl) (by decide) (fun _ _ _ _ _ h => h) ?tg8 ?ty8 (by assumption) ?tr8
    case ti8 => (simp only [List.getElem?_toArray, List.getElem?_cons_succ, List.getElem?_cons_zero]; rfl)
    case td8 => exact rfl
    case tg8 => exact rfl
    case ty8 => (intro w hSw; have hc := same_refl A4 n2 c4 l2 A2 n2 c2 w hSw.2.1 hSw.2.2.2.1; exact OnlyV.call rfl Try.func11 (by kernel_rfl) (by kernel_rfl) (Calls.mono hc (by rintro e w2 ⟨rfl, rfl⟩; constructor <;> rfl)) (by simp only [List.map_toArray, List.map_cons, List.map_nil]; rfl))
    simp only [List.setIfInBounds_toArray, List.set_cons_zero, List.set_cons_succ]
    refine' takeV 7 (oi := _) (d := _) (v := _) ?ti9 ?td9 (by kernel_rfl) (by kernel_rfl) (by kernel_rfl) (by kernel_rfl) (by decide) (fun _ _ _ _ _ h => h) ?tg9 ?ty9 (by assumption) ?tr9
    case ti9 => (simp only [List.getElem?_toArray, List.getElem?_cons_succ, List.getElem?_cons_zero]; rfl)
    case td9 => exact rfl
    case tg9 => exact rfl
    case ty9 => (intro w hSw; (try dsimp only at hSw); go_split_ands; go_simp; try with_reducible rfl)
    simp only [List.setIfInBounds_toArray, List.set_cons_zero, List.set_cons_succ]
    refine' takeV 8 (oi := _) (d := _) (v := _) ?ti10 ?td10 (by kernel_rfl) (by kernel_rfl) (by kernel_rfl) (by kernel_rfl) (by decide) (fun _ _ _ _ _ h => h) ?tg10 ?ty10 (by assumption) ?tr10
    case ti10 => (simp only [List.getElem?_toArray, List.getElem?_cons_succ, List.getElem?_cons_zero]; rfl)
    case td10 => exact rfl
    case tg10 => exact rfl
    case ty10 => (intro w hSw; (try dsimp only at hSw); go_split_ands; go_simp; try with_reducible rfl)
    simp only [List.setIfInBounds_toArray, List.set_cons_zero, List.set_cons_succ]
    refine' takeVg 9 (oi := _) (d := _) (v := _) ?ti11 ?td11 (by kernel_rfl) (by kernel_rfl) (by kernel_rfl) (by kernel_rfl) (by decide) (fun _ _ _ _ _ h => h) ?tg11 ?ty11 (by assumption) ?tr11
    case ti11 => (simp only [List.getElem?_toArray, List.getElem?_cons_succ, List.getElem?_cons_zero]; rfl)
    case td11 => exact rfl
    case tg11 => exact rfl
    case ty11 => (intro w hSw; (try dsimp only at hSw); rw [exec_load_blk 22 (.tmp 9) rfl rfl hSw.2.2.2.2.2.1 _ HU.out rfl (by rw [lr.out]; exact infoA16)])
    simp only [List.setIfInBounds_toArray, List.set_cons_zero, List.set_cons_succ]
    refine' takeVg 10 (oi := _) (d := _) (v := _) ?ti12 ?td12 (by kernel_rfl) (by kernel_rfl) (by kernel_rfl) (by kernel_rfl) (by decide) (fun _ _ _ _ _ h => h) ?tg12 ?ty12 (by assumption) ?tr12
    case ti12 => (simp only [List.getElem?_toArray, List.getElem?_cons_succ, List.getElem?_cons_zero]; rfl)
    case td12 => exact rfl
    case tg12 => exact rfl
    case ty12 => (intro w hSw; (try dsimp only at hSw); rw [exec_load_blk 22 (.tmp 3) rfl rfl hSw.2.2.2.2.1 _ HU.out rfl (by rw [lx.out]; exact infoA16)])
    simp only [List.setIfInBounds_toArray, List.set_cons_zero, List.set_cons_succ]
    refine' takeVg 11 (oi := _) (d := _) (v := _) ?ti13 ?td13 (by kernel_rfl) (by kernel_rfl) (by kernel_rfl) (by kernel_rfl) (by decide) (fun _ _ _ _ _ h => h) ?tg13 ?ty13 (by assumption) ?tr13
    case ti13 => (simp only [List.getElem?_toArray, List.getElem?_cons_succ, List.getElem?_cons_zero]; rfl)
    case td13 => exact rfl
    case tg13 => exact rfl
    case ty13 => (intro w hSw; (try dsimp only at hSw); go_split_ands; go_simp; try with_reducible rfl)
    simp only [List.setIfInBounds_toArray, List.set_cons_zero, List.set_cons_succ]
    refine' takeVg 12 (oi := _) (d := _) (v := _) ?ti14 ?td14 (by kernel_rfl) (by kernel_rfl) (by kernel_rfl) (by kernel_rfl) (by decide) (fun _ _ _ _ _ h => h) ?tg14 ?ty14 (by assumption) ?tr14
    case ti14 => (simp only [List.getElem?_toArray, List.getElem?_cons_succ, List.getElem?_cons_zero]; rfl)
    case td14 => exact rfl
    case tg14 => exact rfl
    case ty14 => (intro w hSw; (try dsimp only at hSw); go_split_ands; go_simp; try with_reducible rfl)
    simp only [List.setIfInBounds_toArray, List.set_cons_zero, List.set_cons_succ]
    obtain ⟨k1, k2, k3, k4, k5, k6, k7⟩ := hHeld
    refine stepG 13 (by kernel_rfl) (by simp only [List.getElem?_toArray, List.getElem?_cons_succ, List.getElem?_cons_zero]; rfl) (fun K hK => ?_)
    go_simp
    refine (refsum_o hb cx cr l1 l2 Hcx Hcr HX.out A1 n1 c1 A2 n2 c2 _ k3 k4 (by omega) (by omega)).mono ?_
    rintro e w6 ⟨rfl, hb6⟩
    refine hK.out _ _ ?ts15 (fun hHeld => ?_)
    case ts15 => ((try dsimp only); exact ⟨k1.below hb6, k2.below hb6, k3.below hb6, k4.below hb6, k5.below hb6 k5.lt, k6.below hb6 k6.lt, k7.trans (hb6.mono (Nat.le_of_lt k5.lt))⟩)
    clear hK K
    obtain ⟨m1, m2, m3, m4, m5, m6, m7⟩ := hHeld
    refine stepG 14 (by kernel_rfl) (by simp only [List.getElem?_toArray, List.getElem?_cons_succ, List.getElem?_cons_zero]; rfl) (fun K hK => ?_)
    go_simp
    refine hK.out _ _ ?ts16 (fun hHeld => ?_)
    case ts16 => ((try dsimp only); exact ⟨m1, m2, m3, m4, m5, m6, m7⟩)
    clear hK K
    refine stepG 15 (by kernel_rfl) (by simp only [List.getElem?_toArray, List.getElem?_cons_succ, List.getElem?_cons_zero]; rfl) (fun K hK => ?_)
    go_simp
    refine hK.out _ _ ?ts17 (fun hHeld => ?_)
    case ts17 => ((try dsimp only); exact ⟨m1, m2, m3, m4, m5, m6, m7⟩)
    clear hK K
    refine stepG 16 (by kernel_rfl) (by simp only [List.getElem?_toArray, List.getElem?_cons_succ, List.getElem?_cons_zero]; rfl) (fun K hK => ?_)
    go_simp
    refine hK.out _ _ ?ts18 (fun hHeld => ?_)
    case ts18 => ((try dsimp only); exact ⟨m1, m2, m3, m4, m5, m6, m7⟩)
    clear hK K
    refine stepG 17 (by kernel_rfl) (by simp only [List.getElem?_toArray, List.getElem?_cons_succ, List.getElem?_cons_zero]; rfl) (fun K hK => ?_)
    go_simp
    refine (known_any _).mono ?_
    rintro e w7 ⟨rfl, hb7⟩
    refine hK.out _ _ ?ts19 (fun hHeld => ?_)
    case ts19 => ((try dsimp only); exact ⟨m1.below hb7, m2.below hb7, m3.below hb7, m4.below hb7, m5.below hb7 m5.lt, m6.below hb7 m6.lt, m7.trans (hb7.mono (Nat.le_of_lt m5.lt))⟩)
    clear hK K
    obtain ⟨n1', n2', n3', n4', n5', n6', n7'⟩ := hHeld
    refine stepG 18 (by kernel_rfl) (by simp only [List.getElem?_toArray, List.getElem?_cons_succ, List.getElem?_cons_zero]; rfl) (fun K hK => ?_)
    go_simp
    refine hK.out _ _ ?ts20 (fun hHeld => ?_)
    case ts20 => ((try dsimp only); exact ⟨n1', n2', n3', n4', n5', n6', n7'⟩)
    clear hK K
    refine stepG 19 (by kernel_rfl) (by simp only [List.getElem?_toArray, List.getElem?_cons_succ, List.getElem?_cons_zero]; rfl) (fun K hK => ?_)
    go_simp
    refine hK.out _ _ ?ts21 (fun hHeld => ?_)
    case ts21 => ((try dsimp only); exact ⟨n1', n2', n3', n4', n5', n6', n7'⟩)
    clear hK K
    refine doneG (by kernel_rfl) ?_ _
    go_wp2
    go_ret
    exact ⟨rfl, by rw [HH.out]; exact n7'⟩
end Go.Proofs.Ytikhnjoobhfgdaa
