/- The walk of GhashField. -/
import Derived.Test.YtikhnjoobhfgdaaWkGhC
import Derived.Test.YtikhnjoobhfgdaaRegU
set_option linter.unusedVariables false
namespace Go.Proofs.Ytikhnjoobhfgdaa
open Go.RowKit

/-- The product of two elements as bytes. -/
def gm (a b : List UInt8) : List UInt8 := be (gmul (num a) (num b)) 16
theorem gm_length (a b : List UInt8) : (gm a b).length = 16 := be_length _ 16
theorem num_gm (a b : List UInt8) (hb : b.length = 16) : num (gm a b) = gmul (num a) (num b) := num_be16 _ (gmul_lt (num_lt16 b hb))
theorem gm_comm (a b : List UInt8) (ha : a.length = 16) (hb : b.length = 16) : gm a b = gm b a := by
  unfold gm; rw [gmul_comm _ _ (num_lt16 a ha) (num_lt16 b hb)]
theorem gm_assoc (a b c : List UInt8) (ha : a.length = 16) (hb : b.length = 16) (hc : c.length = 16) : gm (gm a b) c = gm a (gm b c) := by
  show be (gmul (num (gm a b)) (num c)) 16 = be (gmul (num a) (num (gm b c))) 16
  rw [num_gm a b hb, num_gm b c hc, gmul_assoc _ _ _ (num_lt16 a ha) (num_lt16 b hb) (num_lt16 c hc)]
theorem gm_gadd (a b c : List UInt8) (ha : a.length = 16) (hb : b.length = 16) (hc : c.length = 16) : gm a (gadd b c) = gadd (gm a b) (gm a c) := by
  rw [gadd_be _ _ (gm_length a b) (gm_length a c), num_gm a b hb, num_gm a c hc, ← gmul_xor_right, gm, num_gadd b c hb hc]
def el0 : List UInt8 := List.replicate 16 0
def el1 : List UInt8 := [128, 0, 0, 0, 0, 0, 0, 0, 0, 0, 0, 0, 0, 0, 0, 0]
theorem be_num16 (a : List UInt8) (ha : a.length = 16) : be (num a) 16 = a := by
  have := be_num a
  rwa [ha] at this
theorem gm_zero (a : List UInt8) : gm a el0 = el0 := by
  have e : num el0 = 0 := by decide +kernel
  rw [gm, e, gmul_zero]
  decide +kernel
theorem gm_one (a : List UInt8) (ha : a.length = 16) : gm a el1 = a := by
  have e : num el1 = gone := by decide +kernel
  rw [gm, e, gmul_one _ (num_lt16 a ha), be_num16 a ha]
theorem gm_none (a b : List UInt8) (ha : a.length = 16) (hb : b.length = 16) (h : gm a b = el0) : a = el0 ∨ b = el0 := by
  have e0 : num el0 = 0 := by decide +kernel
  have e1 := num_gm a b hb
  rw [h, e0] at e1
  rcases gmul_none _ _ (num_lt16 a ha) (num_lt16 b hb) e1.symm with h0 | h0
  · left; rw [← be_num16 a ha, h0]; decide +kernel
  · right; rw [← be_num16 b hb, h0]; decide +kernel
theorem mulg (x y : List UInt8) (cx cy cr : List Value) (hcx : Hid (cx = x.map B8)) (hcy : Hid (cy = y.map B8)) (hcr : Hid (cr = (gm x y).map B8)) (hx : x.length = 16) (hy : y.length = 16) (w : World) :
    Calls Try.prog 14 #[.agg cx.toArray, .agg cy.toArray] w fun e w' => e = .returned (.agg cr.toArray) ∧ Below w.heap.size w w' := mul_o x y cx cy cr hcx hcy hcr hx hy w
theorem len16 {cs : List Value} {l : List UInt8} (h : Hid (cs = l.map B8)) (hl : l.length = 16) : cs.length = 16 := by rw [h.out]; simpa using hl
theorem one16 {cs : List Value} {l : List UInt8} (h : Hid (cs = l.map B8)) : ∀ v ∈ cs, v.oneCell' = true := by rw [h.out]; exact b8_one

set_option maxRecDepth 100000 in
theorem one_any (c1 : List Value) (h1 : Hid (c1 = el1.map B8)) (w : World) : Calls Try.prog 16 #[] w fun e w' => e = .returned (.agg c1.toArray) ∧ Below w.heap.size w w' := by
  have hu : Try.prog.underlying 22 = some (.array 16 5) := Try.underlying22
  have HU := Lib.hid hu
  clear hu
  obtain ⟨z, HZ⟩ : ∃ z, Hid (z = List.replicate 16 (Value.int .u8 0)) := ⟨_, rfl⟩
  have lz : Hid (z.length = 16) := by show _ = _; rw [HZ.out]; simp
  have l1 : Hid (c1.length = 16) := len16 h1 rfl
  have o1 : Hid (∀ v ∈ c1, v.oneCell' = true) := one16 h1
  go_enter Try.func16, Try.ntmps16
  go_wp2
  have hB : Blk (w.alloc (.cells (el1.map B8).toArray 22)) w.heap.size 22 (el1.map B8).toArray := Blk.new _ _ _
  refine bodyPost_ret (v := .agg (el1.map B8).toArray) (ret_blk (p := 0) rfl rfl hB _ HU.out rfl infoA16) rfl ⟨by rw [h1.out], below_new _ _⟩
set_option maxRecDepth 100000 in
set_option maxHeartbeats 12800000 in
theorem ghashField_walk (x y z0 : List UInt8) (w : World) (hx : x.length = 16) (hy : y.length = 16) (hz : z0.length = 16) :
    Calls Try.prog 6 #[.agg (x.map B8).toArray, .agg (y.map B8).toArray, .agg (z0.map B8).toArray] w fun e w' => e = .returned (.bool true) ∧ Below w.heap.size w w' := by
  obtain ⟨H, HH⟩ : ∃ H, Hid (w.heap.size = H) := ⟨_, rfl⟩
  obtain ⟨cx, Hcx⟩ : ∃ cs, Hid (cs = x.map B8) := ⟨_, rfl⟩
  obtain ⟨cy, Hcy⟩ : ∃ cs, Hid (cs = y.map B8) := ⟨_, rfl⟩
  obtain ⟨cz, Hcz⟩ : ∃ cs, Hid (cs = z0.map B8) := ⟨_, rfl⟩
  have HX := Lib.hid hx
  have HY := Lib.hid hy
  have HZ0 := Lib.hid hz
  have lx := Lib.hid (len16 Hcx hx)
  have ly := Lib.hid (len16 Hcy hy)
  have lzz := Lib.hid (len16 Hcz hz)
  obtain ⟨z, HZ⟩ : ∃ z, Hid (z = List.replicate 16 (Value.int .u8 0)) := ⟨_, rfl⟩
  have lz : Hid (z.length = 16) := by show _ = _; rw [HZ.out]; simp
  have hz2 : ∀ W : World, (zeroValue 22).run Try.prog W = .ok (.agg z.toArray) W := fun W => by rw [HZ.out]; kernel_rfl
  have HU : Hid (Try.prog.underlying 22 = some (.array 16 5)) := Try.underlying22
  obtain ⟨cp, Hcp⟩ : ∃ cs, Hid (cs = (gm x y).map B8) := ⟨_, rfl⟩
  have Hcp' : Hid (cp = (gm y x).map B8) := by rw [gm_comm y x hy hx]; exact Hcp
  have lc := Lib.hid (len16 Hcp (gm_length x y))
  have onec := Lib.hid (one16 Hcp)
  rw [← Hcx.out, ← Hcy.out, ← Hcz.out]
  clear hx hy hz
  go_enter Try.func6, Try.ntmps6
  go_wp2_with fail
  obtain ⟨W, hW⟩ : ∃ W, W = (((w.alloc (.cells cx.toArray 22)).alloc (.cells cy.toArray 22)).alloc (.cells cz.toArray 22)) := ⟨_, rfl⟩
  have KX : Hid (Blk W H 22 cx.toArray) := by rw [hW]; exact ((Blk.new' _ _ _ _ HH.out).alloc _).alloc _
  have KY : Hid (Blk W (H + 1) 22 cy.toArray) := by rw [hW]; exact (Blk.new' _ _ _ _ (by simp [HH.out])).alloc _
  have KZ : Hid (Blk W (H + 1 + 1) 22 cz.toArray) := by rw [hW]; exact Blk.new' _ _ _ _ (by simp [HH.out])
  have HB : Hid (Below H w W) := by
    rw [hW, ← HH.out]
    exact ((below_new _ _).alloc (by simp) _).alloc (by simp; omega) _
  rw [← hW, HH.out]
  clear hW
  go_upto_region 1 with fail
  go_cut [7, 8] (fun s7 s8 wx => ∃ b7 b8 : Nat, s7 = .pointer (some ⟨b7, 0, none⟩) ∧ s8 = .pointer (some ⟨b8, 0, none⟩) ∧ Blk wx b7 22 cp.toArray ∧ Blk wx b8 22 cp.toArray ∧ Below W.heap.size W wx)
  case first =>
    have TR : Hid (∀ wx, Below W.heap.size W wx → Blk wx H 22 cx.toArray ∧ Blk wx (H + 1) 22 cy.toArray) := fun wx h => ⟨KX.out.below h KX.out.lt, KY.out.below h KY.out.lt⟩
    have KS : Hid (∀ wa wb, Below W.heap.size W wa → Below wa.heap.size wa wb → Below W.heap.size W wb) := fun wa wb h hb => h.trans (hb.mono h.size)
    refine region_gate 10 (fun w' => Below W.heap.size W w') (by kernel_rfl) ?th1 (fun hHeld => ?tk1)
    case th1 => ((try dsimp only); exact (Below.refl _ _).drew)
    obtain ⟨V0, hV0⟩ : ∃ V0, V0 = W.drew := ⟨_, rfl⟩
    rw [← hV0] at hHeld ⊢
    clear hV0
    have keepS := KS.out
    refine' takeV 0 (oi := _) (d := _) (v := _) ?ti2 ?td2 (by kernel_rfl) (by kernel_rfl) (by kernel_rfl) (by kernel_rfl) (by decide) (fun _ _ _ _ _ h => h) ?tg2 ?ty2 (by assumption) ?tr2
    case ti2 => (simp only [List.getElem?_toArray, List.getElem?_cons_succ, List.getElem?_cons_zero]; rfl)
    case td2 => exact rfl
    case tg2 => exact rfl
    case ty2 => (intro w hSw; (try dsimp only at hSw); rw [exec_load_blk 22 (.tmp 3) rfl rfl (TR.out _ hSw).1 _ HU.out rfl (by rw [lx.out]; exact infoA16)])
    simp only [List.setIfInBounds_toArray, List.set_cons_zero, List.set_cons_succ]
    refine' takeV 1 (oi := _) (d := _) (v := _) ?ti3 ?td3 (by kernel_rfl) (by kernel_rfl) (by kernel_rfl) (by kernel_rfl) (by decide) (fun _ _ _ _ _ h => h) ?tg3 ?ty3 (by assumption) ?tr3
    case ti3 => (simp only [List.getElem?_toArray, List.getElem?_cons_succ, List.getElem?_cons_zero]; rfl)
    case td3 => exact rfl
    case tg3 => exact rfl
    case ty3 => (intro w hSw; (try dsimp only at hSw); rw [exec_load_blk 22 (.tmp 4) rfl rfl (TR.out _ hSw).2 _ HU.out rfl (by rw [ly.out]; exact infoA16)])
    simp only [List.setIfInBounds_toArray, List.set_cons_zero, List.set_cons_succ]
    refine' takeV 3 (oi := _) (d := _) (v := _) ?ti4 ?td4 (by kernel_rfl) (by kernel_rfl) (by kernel_rfl) (by kernel_rfl) (by decide) (fun _ _ _ _ _ h => h) ?tg4 ?ty4 (by assumption) ?tr4
    case ti4 => (simp only [List.getElem?_toArray, List.getElem?_cons_succ, List.getElem?_cons_zero]; rfl)
    case td4 => exact rfl
    case tg4 => exact rfl
    case ty4 => (intro w hSw; (try dsimp only at hSw); rw [exec_load_blk 22 (.tmp 4) rfl rfl (TR.out _ hSw).2 _ HU.out rfl (by rw [ly.out]; exact infoA16)])
    simp only [List.setIfInBounds_toArray, List.set_cons_zero, List.set_cons_succ]
    refine' takeV 4 (oi := _) (d := _) (v := _) ?ti5 ?td5 (by kernel_rfl) (by kernel_rfl) (by kernel_rfl) (by kernel_rfl) (by decide) (fun _ _ _ _ _ h => h) ?tg5 ?ty5 (by assumption) ?tr5
    case ti5 => (simp only [List.getElem?_toArray, List.getElem?_cons_succ, List.getElem?_cons_zero]; rfl)
    case td5 => exact rfl
    case tg5 => exact rfl
    case ty5 => (intro w hSw; (try dsimp only at hSw); rw [exec_load_blk 22 (.tmp 3) rfl rfl (TR.out _ hSw).1 _ HU.out rfl (by rw [lx.out]; exact infoA16)])
    simp only [List.setIfInBounds_toArray, List.set_cons_zero, List.set_cons_succ]
    refine stepG3 2 6 7 (by kernel_rfl) ?_ ?_ ?_
    · refine StepOf.mk 2 (by simp only [List.getElem?_toArray, List.getElem?_cons_succ, List.getElem?_cons_zero]; rfl) (fun K hK => ?_)
      go_simp
      refine (mulg x y cx cy cp Hcx Hcy Hcp HX.out HY.out _).mono ?_
      rintro e ws1 ⟨rfl, hbs1⟩
      have szs1 := hbs1.size
      refine hK.out _ _ ?tu1 (fun hs1 => ?_)
      case tu1 => exact keepS _ _ hHeld hbs1
      clear hK K
      refine stepG3 5 6 7 (by kernel_rfl) ?_ ?_ ?_
      · refine StepOf.mk 5 (by simp only [List.getElem?_toArray, List.getElem?_cons_succ, List.getElem?_cons_zero]; rfl) (fun K hK => ?_)
        go_simp
        refine (mulg y x cy cx cp Hcy Hcx Hcp' HY.out HX.out _).mono ?_
        rintro e ws2 ⟨rfl, hbs2⟩
        have szs2 := hbs2.size
        refine hK.out _ _ ?tu2 (fun hs2 => ?_)
        case tu2 => exact keepS _ _ hs1 hbs2
        clear hK K
        refine stepG2 6 7 (by kernel_rfl) ?_ ?_
        · refine StepOf.mk 6 (by simp only [List.getElem?_toArray, List.getElem?_cons_succ, List.getElem?_cons_zero]; rfl) (fun K hK => ?_)
          go_simp
          obtain ⟨ws3, hw3⟩ : ∃ wx : World, wx = ws2.alloc (.cells z.toArray 22) := ⟨_, rfl⟩
          rw [← hw3]
          have hbs3 : Below ws2.heap.size ws2 ws3 := by rw [hw3]; exact below_new _ _
          have nbs3 : Blk ws3 ws2.heap.size 22 z.toArray := by rw [hw3]; exact Blk.new _ _ _
          have szs3 : ws2.heap.size < ws3.heap.size := by rw [hw3]; simp
          clear hw3
          have ges3 : W.heap.size ≤ ws2.heap.size := (hs2).size
          refine hK.out _ _ ?tu3 (fun hs3 => ?_)
          case tu3 => exact keepS _ _ hs2 hbs3
          clear hK K
          refine stepG 7 (by kernel_rfl) (by simp only [List.getElem?_toArray, List.getElem?_cons_succ, List.getElem?_cons_zero]; rfl) (fun K hK => ?_)
          go_simp
          obtain ⟨ws4, hw4⟩ : ∃ wx : World, wx = ws3.alloc (.cells z.toArray 22) := ⟨_, rfl⟩
          rw [← hw4]
          have hbs4 : Below ws3.heap.size ws3 ws4 := by rw [hw4]; exact below_new _ _
          have nbs4 : Blk ws4 ws3.heap.size 22 z.toArray := by rw [hw4]; exact Blk.new _ _ _
          have szs4 : ws3.heap.size < ws4.heap.size := by rw [hw4]; simp
          clear hw4
          have ges4 : W.heap.size ≤ ws3.heap.size := (hs3).size
          refine hK.out _ _ ?tu4 (fun hs4 => ?_)
          case tu4 => exact keepS _ _ hs3 hbs4
          clear hK K
          have nb6_4 := nbs3.below hbs4 nbs3.lt
          refine stepG 8 (by kernel_rfl) (by simp only [List.getElem?_toArray, List.getElem?_cons_succ, List.getElem?_cons_zero]; rfl) (fun K hK => ?_)
          refine step_store_blk rfl 22 (.tmp 7) (.tmp 16) rfl rfl rfl nb6_4 (by rw [lc.out, lz.out]) (by rw [lc.out]; exact infoA16) onec.out ?_
          intro wa hka hga
          refine hK.out _ _ ?ts6 (fun hHeld => ?_)
          case ts6 => ((try dsimp only); exact (hs4).grown hga (hs4).size (by intro k hk; simp at hk; omega))
          clear hK K
          have hkb := (nbs4).keep_grown hga (by simp; omega)
          have hSa := hHeld
          refine stepG 9 (by kernel_rfl) (by simp only [List.getElem?_toArray, List.getElem?_cons_succ, List.getElem?_cons_zero]; rfl) (fun K hK => ?_)
          refine step_store_blk rfl 22 (.tmp 8) (.tmp 19) rfl rfl rfl hkb (by rw [lc.out, lz.out]) (by rw [lc.out]; exact infoA16) onec.out ?_
          intro wb hkb2 hgb
          refine hK.out _ _ ?ts7 (fun hHeld => ?_)
          case ts7 => ((try dsimp only); exact hSa.grown hgb hSa.size (by intro k hk; simp at hk; omega))
          clear hK K
          have hka2 := hka.keep_grown hgb (by simp; omega)
          refine doneG (by kernel_rfl) ?_ _
          go_wp2_with fail
          go_meet
          exact ⟨_, _, rfl, rfl, hka2, hkb2, hHeld⟩
        · refine StepOf.mk 7 (by simp only [List.getElem?_toArray, List.getElem?_cons_succ, List.getElem?_cons_zero]; rfl) (fun K hK => ?_)
          go_simp
          obtain ⟨ws5, hw5⟩ : ∃ wx : World, wx = ws2.alloc (.cells z.toArray 22) := ⟨_, rfl⟩
          rw [← hw5]
          have hbs5 : Below ws2.heap.size ws2 ws5 := by rw [hw5]; exact below_new _ _
          have nbs5 : Blk ws5 ws2.heap.size 22 z.toArray := by rw [hw5]; exact Blk.new _ _ _
          have szs5 : ws2.heap.size < ws5.heap.size := by rw [hw5]; simp
          clear hw5
          have ges5 : W.heap.size ≤ ws2.heap.size := (hs2).size
          refine hK.out _ _ ?tu5 (fun hs5 => ?_)
          case tu5 => exact keepS _ _ hs2 hbs5
          clear hK K
          refine stepG 6 (by kernel_rfl) (by simp only [List.getElem?_toArray, List.getElem?_cons_succ, List.getElem?_cons_zero]; rfl) (fun K hK => ?_)
          go_simp
          obtain ⟨ws6, hw6⟩ : ∃ wx : World, wx = ws5.alloc (.cells z.toArray 22) := ⟨_, rfl⟩
          rw [← hw6]
          have hbs6 : Below ws5.heap.size ws5 ws6 := by rw [hw6]; exact below_new _ _
          have nbs6 : Blk ws6 ws5.heap.size 22 z.toArray := by rw [hw6]; exact Blk.new _ _ _
          have szs6 : ws5.heap.size < ws6.heap.size := by rw [hw6]; simp
          clear hw6
          have ges6 : W.heap.size ≤ ws5.heap.size := (hs5).size
          refine hK.out _ _ ?tu6 (fun hs6 => ?_)
          case tu6 => exact keepS _ _ hs5 hbs6
          clear hK K
          have nb7_6 := nbs5.below hbs6 nbs5.lt
          refine stepG 8 (by kernel_rfl) (by simp only [List.getElem?_toArray, List.getElem?_cons_succ, List.getElem?_cons_zero]; rfl) (fun K hK => ?_)
          refine step_store_blk rfl 22 (.tmp 7) (.tmp 16) rfl rfl rfl nbs6 (by rw [lc.out, lz.out]) (by rw [lc.out]; exact infoA16) onec.out ?_
          intro wa hka hga
          refine hK.out _ _ ?ts8 (fun hHeld => ?_)
          case ts8 => ((try dsimp only); exact (hs6).grown hga (hs6).size (by intro k hk; simp at hk; omega))
          clear hK K
          have hkb := (nb7_6).keep_grown hga (by simp; omega)
          have hSa := hHeld
          refine stepG 9 (by kernel_rfl) (by simp only [List.getElem?_toArray, List.getElem?_cons_succ, List.getElem?_cons_zero]; rfl) (fun K hK => ?_)
          refine step_store_blk rfl 22 (.tmp 8) (.tmp 19) rfl rfl rfl hkb (by rw [lc.out, lz.out]) (by rw [lc.out]; exact infoA16) onec.out ?_
          intro wb hkb2 hgb
          refine hK.out _ _ ?ts9 (fun hHeld => ?_)
          case ts9 => ((try dsimp only); exact hSa.grown hgb hSa.size (by intro k hk; simp at hk; omega))
          clear hK K
          have hka2 := hka.keep_grown hgb (by simp; omega)
          refine doneG (by kernel_rfl) ?_ _
          go_wp2_with fail
          go_meet
          exact ⟨_, _, rfl, rfl, hka2, hkb2, hHeld⟩
      · refine StepOf.mk 6 (by simp only [List.getElem?_toArray, List.getElem?_cons_succ, List.getElem?_cons_zero]; rfl) (fun K hK => ?_)
        go_simp
        obtain ⟨ws7, hw7⟩ : ∃ wx : World, wx = ws1.alloc (.cells z.toArray 22) := ⟨_, rfl⟩
        rw [← hw7]
        have hbs7 : Below ws1.heap.size ws1 ws7 := by rw [hw7]; exact below_new _ _
        have nbs7 : Blk ws7 ws1.heap.size 22 z.toArray := by rw [hw7]; exact Blk.new _ _ _
        have szs7 : ws1.heap.size < ws7.heap.size := by rw [hw7]; simp
        clear hw7
        have ges7 : W.heap.size ≤ ws1.heap.size := (hs1).size
        refine hK.out _ _ ?tu7 (fun hs7 => ?_)
        case tu7 => exact keepS _ _ hs1 hbs7
        clear hK K
        refine stepG2 5 7 (by kernel_rfl) ?_ ?_
        · refine StepOf.mk 5 (by simp only [List.getElem?_toArray, List.getElem?_cons_succ, List.getElem?_cons_zero]; rfl) (fun K hK => ?_)
          go_simp
          refine (mulg y x cy cx cp Hcy Hcx Hcp' HY.out HX.out _).mono ?_
          rintro e ws8 ⟨rfl, hbs8⟩
          have szs8 := hbs8.size
          refine hK.out _ _ ?tu8 (fun hs8 => ?_)
          case tu8 => exact keepS _ _ hs7 hbs8
          clear hK K
          have nb6_8 := nbs7.below hbs8 nbs7.lt
          refine stepG 7 (by kernel_rfl) (by simp only [List.getElem?_toArray, List.getElem?_cons_succ, List.getElem?_cons_zero]; rfl) (fun K hK => ?_)
          go_simp
          obtain ⟨ws9, hw9⟩ : ∃ wx : World, wx = ws8.alloc (.cells z.toArray 22) := ⟨_, rfl⟩
          rw [← hw9]
          have hbs9 : Below ws8.heap.size ws8 ws9 := by rw [hw9]; exact below_new _ _
          have nbs9 : Blk ws9 ws8.heap.size 22 z.toArray := by rw [hw9]; exact Blk.new _ _ _
          have szs9 : ws8.heap.size < ws9.heap.size := by rw [hw9]; simp
          clear hw9
          have ges9 : W.heap.size ≤ ws8.heap.size := (hs8).size
          refine hK.out _ _ ?tu9 (fun hs9 => ?_)
          case tu9 => exact keepS _ _ hs8 hbs9
          clear hK K
          have nb6_9 := nb6_8.below hbs9 nb6_8.lt
          refine stepG 8 (by kernel_rfl) (by simp only [List.getElem?_toArray, List.getElem?_cons_succ, List.getElem?_cons_zero]; rfl) (fun K hK => ?_)
          refine step_store_blk rfl 22 (.tmp 7) (.tmp 16) rfl rfl rfl nb6_9 (by rw [lc.out, lz.out]) (by rw [lc.out]; exact infoA16) onec.out ?_
          intro wa hka hga
          refine hK.out _ _ ?ts10 (fun hHeld => ?_)
          case ts10 => ((try dsimp only); exact (hs9).grown hga (hs9).size (by intro k hk; simp at hk; omega))
          clear hK K
          have hkb := (nbs9).keep_grown hga (by simp; omega)
          have hSa := hHeld
          refine stepG 9 (by kernel_rfl) (by simp only [List.getElem?_toArray, List.getElem?_cons_succ, List.getElem?_cons_zero]; rfl) (fun K hK => ?_)
          refine step_store_blk rfl 22 (.tmp 8) (.tmp 19) rfl rfl rfl hkb (by rw [lc.out, lz.out]) (by rw [lc.out]; exact infoA16) onec.out ?_
          intro wb hkb2 hgb
          refine hK.out _ _ ?ts11 (fun hHeld => ?_)
          case ts11 => ((try dsimp only); exact hSa.grown hgb hSa.size (by intro k hk; simp at hk; omega))
          clear hK K
          have hka2 := hka.keep_grown hgb (by simp; omega)
          refine doneG (by kernel_rfl) ?_ _
          go_wp2_with fail
          go_meet
          exact ⟨_, _, rfl, rfl, hka2, hkb2, hHeld⟩
        · refine StepOf.mk 7 (by simp only [List.getElem?_toArray, List.getElem?_cons_succ, List.getElem?_cons_zero]; rfl) (fun K hK => ?_)
          go_simp
          obtain ⟨ws10, hw10⟩ : ∃ wx : World, wx = ws7.alloc (.cells z.toArray 22) := ⟨_, rfl⟩
          rw [← hw10]
          have hbs10 : Below ws7.heap.size ws7 ws10 := by rw [hw10]; exact below_new _ _
          have nbs10 : Blk ws10 ws7.heap.size 22 z.toArray := by rw [hw10]; exact Blk.new _ _ _
          have szs10 : ws7.heap.size < ws10.heap.size := by rw [hw10]; simp
          clear hw10
          have ges10 : W.heap.size ≤ ws7.heap.size := (hs7).size
          refine hK.out _ _ ?tu10 (fun hs10 => ?_)
          case tu10 => exact keepS _ _ hs7 hbs10
          clear hK K
          have nb6_10 := nbs7.below hbs10 nbs7.lt
          refine stepG 5 (by kernel_rfl) (by simp only [List.getElem?_toArray, List.getElem?_cons_succ, List.getElem?_cons_zero]; rfl) (fun K hK => ?_)
          go_simp
          refine (mulg y x cy cx cp Hcy Hcx Hcp' HY.out HX.out _).mono ?_
          rintro e ws11 ⟨rfl, hbs11⟩
          have szs11 := hbs11.size
          refine hK.out _ _ ?tu11 (fun hs11 => ?_)
          case tu11 => exact keepS _ _ hs10 hbs11
          clear hK K
          have nb6_11 := nb6_10.below hbs11 nb6_10.lt
          have nb7_11 := nbs10.below hbs11 nbs10.lt
          refine stepG 8 (by kernel_rfl) (by simp only [List.getElem?_toArray, List.getElem?_cons_succ, List.getElem?_cons_zero]; rfl) (fun K hK => ?_)
          refine step_store_blk rfl 22 (.tmp 7) (.tmp 16) rfl rfl rfl nb6_11 (by rw [lc.out, lz.out]) (by rw [lc.out]; exact infoA16) onec.out ?_
          intro wa hka hga
          refine hK.out _ _ ?ts12 (fun hHeld => ?_)
          case ts12 => ((try dsimp only); exact (hs11).grown hga (hs11).size (by intro k hk; simp at hk; omega))
          clear hK K
          have hkb := (nb7_11).keep_grown hga (by simp; omega)
          have hSa := hHeld
          refine stepG 9 (by kernel_rfl) (by simp only [List.getElem?_toArray, List.getElem?_cons_succ, List.getElem?_cons_zero]; rfl) (fun K hK => ?_)
          refine step_store_blk rfl 22 (.tmp 8) (.tmp 19) rfl rfl rfl hkb (by rw [lc.out, lz.out]) (by rw [lc.out]; exact infoA16) onec.out ?_
          intro wb hkb2 hgb
          refine hK.out _ _ ?ts13 (fun hHeld => ?_)
          case ts13 => ((try dsimp only); exact hSa.grown hgb hSa.size (by intro k hk; simp at hk; omega))
          clear hK K
          have hka2 := hka.keep_grown hgb (by simp; omega)
          refine doneG (by kernel_rfl) ?_ _
          go_wp2_with fail
          go_meet
          exact ⟨_, _, rfl, rfl, hka2, hkb2, hHeld⟩
      · refine StepOf.mk 7 (by simp only [List.getElem?_toArray, List.getElem?_cons_succ, List.getElem?_cons_zero]; rfl) (fun K hK => ?_)
        go_simp
        obtain ⟨ws12, hw12⟩ : ∃ wx : World, wx = ws1.alloc (.cells z.toArray 22) := ⟨_, rfl⟩
        rw [← hw12]
        have hbs12 : Below ws1.heap.size ws1 ws12 := by rw [hw12]; exact below_new _ _
        have nbs12 : Blk ws12 ws1.heap.size 22 z.toArray := by rw [hw12]; exact Blk.new _ _ _
        have szs12 : ws1.heap.size < ws12.heap.size := by rw [hw12]; simp
        clear hw12
        have ges12 : W.heap.size ≤ ws1.heap.size := (hs1).size
        refine hK.out _ _ ?tu12 (fun hs12 => ?_)
        case tu12 => exact keepS _ _ hs1 hbs12
        clear hK K
        refine stepG2 5 6 (by kernel_rfl) ?_ ?_
        · refine StepOf.mk 5 (by simp only [List.getElem?_toArray, List.getElem?_cons_succ, List.getElem?_cons_zero]; rfl) (fun K hK => ?_)
          go_simp
          refine (mulg y x cy cx cp Hcy Hcx Hcp' HY.out HX.out _).mono ?_
          rintro e ws13 ⟨rfl, hbs13⟩
          have szs13 := hbs13.size
          refine hK.out _ _ ?tu13 (fun hs13 => ?_)
          case tu13 => exact keepS _ _ hs12 hbs13
          clear hK K
          have nb7_13 := nbs12.below hbs13 nbs12.lt
          refine stepG 6 (by kernel_rfl) (by simp only [List.getElem?_toArray, List.getElem?_cons_succ, List.getElem?_cons_zero]; rfl) (fun K hK => ?_)
          go_simp
          obtain ⟨ws14, hw14⟩ : ∃ wx : World, wx = ws13.alloc (.cells z.toArray 22) := ⟨_, rfl⟩
          rw [← hw14]
          have hbs14 : Below ws13.heap.size ws13 ws14 := by rw [hw14]; exact below_new _ _
          have nbs14 : Blk ws14 ws13.heap.size 22 z.toArray := by rw [hw14]; exact Blk.new _ _ _
          have szs14 : ws13.heap.size < ws14.heap.size := by rw [hw14]; simp
          clear hw14
          have ges14 : W.heap.size ≤ ws13.heap.size := (hs13).size
          refine hK.out _ _ ?tu14 (fun hs14 => ?_)
          case tu14 => exact keepS _ _ hs13 hbs14
          clear hK K
          have nb7_14 := nb7_13.below hbs14 nb7_13.lt
          refine stepG 8 (by kernel_rfl) (by simp only [List.getElem?_toArray, List.getElem?_cons_succ, List.getElem?_cons_zero]; rfl) (fun K hK => ?_)
          refine step_store_blk rfl 22 (.tmp 7) (.tmp 16) rfl rfl rfl nbs14 (by rw [lc.out, lz.out]) (by rw [lc.out]; exact infoA16) onec.out ?_
          intro wa hka hga
          refine hK.out _ _ ?ts14 (fun hHeld => ?_)
          case ts14 => ((try dsimp only); exact (hs14).grown hga (hs14).size (by intro k hk; simp at hk; omega))
          clear hK K
          have hkb := (nb7_14).keep_grown hga (by simp; omega)
          have hSa := hHeld
          refine stepG 9 (by kernel_rfl) (by simp only [List.getElem?_toArray, List.getElem?_cons_succ, List.getElem?_cons_zero]; rfl) (fun K hK => ?_)
          refine step_store_blk rfl 22 (.tmp 8) (.tmp 19) rfl rfl rfl hkb (by rw [lc.out, lz.out]) (by rw [lc.out]; exact infoA16) onec.out ?_
          intro wb hkb2 hgb
          refine hK.out _ _ ?ts15 (fun hHeld => ?_)
          case ts15 => ((try dsimp only); exact hSa.grown hgb hSa.size (by intro k hk; simp at hk; omega))
          clear hK K
          have hka2 := hka.keep_grown hgb (by simp; omega)
          refine doneG (by kernel_rfl) ?_ _
          go_wp2_with fail
          go_meet
          exact ⟨_, _, rfl, rfl, hka2, hkb2, hHeld⟩
        · refine StepOf.mk 6 (by simp only [List.getElem?_toArray, List.getElem?_cons_succ, List.getElem?_cons_zero]; rfl) (fun K hK => ?_)
          go_simp
          obtain ⟨ws15, hw15⟩ : ∃ wx : World, wx = ws12.alloc (.cells z.toArray 22) := ⟨_, rfl⟩
          rw [← hw15]
          have hbs15 : Below ws12.heap.size ws12 ws15 := by rw [hw15]; exact below_new _ _
          have nbs15 : Blk ws15 ws12.heap.size 22 z.toArray := by rw [hw15]; exact Blk.new _ _ _
          have szs15 : ws12.heap.size < ws15.heap.size := by rw [hw15]; simp
          clear hw15
          have ges15 : W.heap.size ≤ ws12.heap.size := (hs12).size
          refine hK.out _ _ ?tu15 (fun hs15 => ?_)
          case tu15 => exact keepS _ _ hs12 hbs15
          clear hK K
          have nb7_15 := nbs12.below hbs15 nbs12.lt
          refine stepG 5 (by kernel_rfl) (by simp only [List.getElem?_toArray, List.getElem?_cons_succ, List.getElem?_cons_zero]; rfl) (fun K hK => ?_)
          go_simp
          refine (mulg y x cy cx cp Hcy Hcx Hcp' HY.out HX.out _).mono ?_
          rintro e ws16 ⟨rfl, hbs16⟩
          have szs16 := hbs16.size
          refine hK.out _ _ ?tu16 (fun hs16 => ?_)
          case tu16 => exact keepS _ _ hs15 hbs16
          clear hK K
          have nb7_16 := nb7_15.below hbs16 nb7_15.lt
          have nb6_16 := nbs15.below hbs16 nbs15.lt
          refine stepG 8 (by kernel_rfl) (by simp only [List.getElem?_toArray, List.getElem?_cons_succ, List.getElem?_cons_zero]; rfl) (fun K hK => ?_)
          refine step_store_blk rfl 22 (.tmp 7) (.tmp 16) rfl rfl rfl nb6_16 (by rw [lc.out, lz.out]) (by rw [lc.out]; exact infoA16) onec.out ?_
          intro wa hka hga
          refine hK.out _ _ ?ts16 (fun hHeld => ?_)
          case ts16 => ((try dsimp only); exact (hs16).grown hga (hs16).size (by intro k hk; simp at hk; omega))
          clear hK K
          have hkb := (nb7_16).keep_grown hga (by simp; omega)
          have hSa := hHeld
          refine stepG 9 (by kernel_rfl) (by simp only [List.getElem?_toArray, List.getElem?_cons_succ, List.getElem?_cons_zero]; rfl) (fun K hK => ?_)
          refine step_store_blk rfl 22 (.tmp 8) (.tmp 19) rfl rfl rfl hkb (by rw [lc.out, lz.out]) (by rw [lc.out]; exact infoA16) onec.out ?_
          intro wb hkb2 hgb
          refine hK.out _ _ ?ts17 (fun hHeld => ?_)
          case ts17 => ((try dsimp only); exact hSa.grown hgb hSa.size (by intro k hk; simp at hk; omega))
          clear hK K
          have hka2 := hka.keep_grown hgb (by simp; omega)
          refine doneG (by kernel_rfl) ?_ _
          go_wp2_with fail
          go_meet
          exact ⟨_, _, rfl, rfl, hka2, hkb2, hHeld⟩
    · refine StepOf.mk 6 (by simp only [List.getElem?_toArray, List.getElem?_cons_succ, List.getElem?_cons_zero]; rfl) (fun K hK => ?_)
      go_simp
      obtain ⟨ws17, hw17⟩ : ∃ wx : World, wx = V0.alloc (.cells z.toArray 22) := ⟨_, rfl⟩
      rw [← hw17]
      have hbs17 : Below V0.heap.size V0 ws17 := by rw [hw17]; exact below_new _ _
      have nbs17 : Blk ws17 V0.heap.size 22 z.toArray := by rw [hw17]; exact Blk.new _ _ _
      have szs17 : V0.heap.size < ws17.heap.size := by rw [hw17]; simp
      clear hw17
      have ges17 : W.heap.size ≤ V0.heap.size := (hHeld).size
      refine hK.out _ _ ?tu17 (fun hs17 => ?_)
      case tu17 => exact keepS _ _ hHeld hbs17
      clear hK K
      refine stepG2 2 7 (by kernel_rfl) ?_ ?_
      · refine StepOf.mk 2 (by simp only [List.getElem?_toArray, List.getElem?_cons_succ, List.getElem?_cons_zero]; rfl) (fun K hK => ?_)
        go_simp
        refine (mulg x y cx cy cp Hcx Hcy Hcp HX.out HY.out _).mono ?_
        rintro e ws18 ⟨rfl, hbs18⟩
        have szs18 := hbs18.size
        refine hK.out _ _ ?tu18 (fun hs18 => ?_)
        case tu18 => exact keepS _ _ hs17 hbs18
        clear hK K
        have nb6_18 := nbs17.below hbs18 nbs17.lt
        refine stepG2 5 7 (by kernel_rfl) ?_ ?_
        · refine StepOf.mk 5 (by simp only [List.getElem?_toArray, List.getElem?_cons_succ, List.getElem?_cons_zero]; rfl) (fun K hK => ?_)
          go_simp
          refine (mulg y x cy cx cp Hcy Hcx Hcp' HY.out HX.out _).mono ?_
          rintro e ws19 ⟨rfl, hbs19⟩
          have szs19 := hbs19.size
          refine hK.out _ _ ?tu19 (fun hs19 => ?_)
          case tu19 => exact keepS _ _ hs18 hbs19
          clear hK K
          have nb6_19 := nb6_18.below hbs19 nb6_18.lt
          refine stepG 7 (by kernel_rfl) (by simp only [List.getElem?_toArray, List.getElem?_cons_succ, List.getElem?_cons_zero]; rfl) (fun K hK => ?_)
          go_simp
          obtain ⟨ws20, hw20⟩ : ∃ wx : World, wx = ws19.alloc (.cells z.toArray 22) := ⟨_, rfl⟩
          rw [← hw20]
          have hbs20 : Below ws19.heap.size ws19 ws20 := by rw [hw20]; exact below_new _ _
          have nbs20 : Blk ws20 ws19.heap.size 22 z.toArray := by rw [hw20]; exact Blk.new _ _ _
          have szs20 : ws19.heap.size < ws20.heap.size := by rw [hw20]; simp
          clear hw20
          have ges20 : W.heap.size ≤ ws19.heap.size := (hs19).size
          refine hK.out _ _ ?tu20 (fun hs20 => ?_)
          case tu20 => exact keepS _ _ hs19 hbs20
          clear hK K
          have nb6_20 := nb6_19.below hbs20 nb6_19.lt
          refine stepG 8 (by kernel_rfl) (by simp only [List.getElem?_toArray, List.getElem?_cons_succ, List.getElem?_cons_zero]; rfl) (fun K hK => ?_)
          refine step_store_blk rfl 22 (.tmp 7) (.tmp 16) rfl rfl rfl nb6_20 (by rw [lc.out, lz.out]) (by rw [lc.out]; exact infoA16) onec.out ?_
          intro wa hka hga
          refine hK.out _ _ ?ts18 (fun hHeld => ?_)
          case ts18 => ((try dsimp only); exact (hs20).grown hga (hs20).size (by intro k hk; simp at hk; omega))
          clear hK K
          have hkb := (nbs20).keep_grown hga (by simp; omega)
          have hSa := hHeld
          refine stepG 9 (by kernel_rfl) (by simp only [List.getElem?_toArray, List.getElem?_cons_succ, List.getElem?_cons_zero]; rfl) (fun K hK => ?_)
          refine step_store_blk rfl 22 (.tmp 8) (.tmp 19) rfl rfl rfl hkb (by rw [lc.out, lz.out]) (by rw [lc.out]; exact infoA16) onec.out ?_
          intro wb hkb2 hgb
          refine hK.out _ _ ?ts19 (fun hHeld => ?_)
          case ts19 => ((try dsimp only); exact hSa.grown hgb hSa.size (by intro k hk; simp at hk; omega))
          clear hK K
          have hka2 := hka.keep_grown hgb (by simp; omega)
          refine doneG (by kernel_rfl) ?_ _
          go_wp2_with fail
          go_meet
          exact ⟨_, _, rfl, rfl, hka2, hkb2, hHeld⟩
        · refine StepOf.mk 7 (by simp only [List.getElem?_toArray, List.getElem?_cons_succ, List.getElem?_cons_zero]; rfl) (fun K hK => ?_)
          go_simp
          obtain ⟨ws21, hw21⟩ : ∃ wx : World, wx = ws18.alloc (.cells z.toArray 22) := ⟨_, rfl⟩
          rw [← hw21]
          have hbs21 : Below ws18.heap.size ws18 ws21 := by rw [hw21]; exact below_new _ _
          have nbs21 : Blk ws21 ws18.heap.size 22 z.toArray := by rw [hw21]; exact Blk.new _ _ _
          have szs21 : ws18.heap.size < ws21.heap.size := by rw [hw21]; simp
          clear hw21
          have ges21 : W.heap.size ≤ ws18.heap.size := (hs18).size
          refine hK.out _ _ ?tu21 (fun hs21 => ?_)
          case tu21 => exact keepS _ _ hs18 hbs21
          clear hK K
          have nb6_21 := nb6_18.below hbs21 nb6_18.lt
          refine stepG 5 (by kernel_rfl) (by simp only [List.getElem?_toArray, List.getElem?_cons_succ, List.getElem?_cons_zero]; rfl) (fun K hK => ?_)
          go_simp
          refine (mulg y x cy cx cp Hcy Hcx Hcp' HY.out HX.out _).mono ?_
          rintro e ws22 ⟨rfl, hbs22⟩
          have szs22 := hbs22.size
          refine hK.out _ _ ?tu22 (fun hs22 => ?_)
          case tu22 => exact keepS _ _ hs21 hbs22
          clear hK K
          have nb6_22 := nb6_21.below hbs22 nb6_21.lt
          have nb7_22 := nbs21.below hbs22 nbs21.lt
          refine stepG 8 (by kernel_rfl) (by simp only [List.getElem?_toArray, List.getElem?_cons_succ, List.getElem?_cons_zero]; rfl) (fun K hK => ?_)
          refine step_store_blk rfl 22 (.tmp 7) (.tmp 16) rfl rfl rfl nb6_22 (by rw [lc.out, lz.out]) (by rw [lc.out]; exact infoA16) onec.out ?_
          intro wa hka hga
          refine hK.out _ _ ?ts20 (fun hHeld => ?_)
          case ts20 => ((try dsimp only); exact (hs22).grown hga (hs22).size (by intro k hk; simp at hk; omega))
          clear hK K
          have hkb := (nb7_22).keep_grown hga (by simp; omega)
          have hSa := hHeld
          refine stepG 9 (by kernel_rfl) (by simp only [List.getElem?_toArray, List.getElem?_cons_succ, List.getElem?_cons_zero]; rfl) (fun K hK => ?_)
          refine step_store_blk rfl 22 (.tmp 8) (.tmp 19) rfl rfl rfl hkb (by rw [lc.out, lz.out]) (by rw [lc.out]; exact infoA16) onec.out ?_
          intro wb hkb2 hgb
          refine hK.out _ _ ?ts21 (fun hHeld => ?_)
          case ts21 => ((try dsimp only); exact hSa.grown hgb hSa.size (by intro k hk; simp at hk; omega))
          clear hK K
          have hka2 := hka.keep_grown hgb (by simp; omega)
          refine doneG (by kernel_rfl) ?_ _
          go_wp2_with fail
          go_meet
          exact ⟨_, _, rfl, rfl, hka2, hkb2, hHeld⟩
      · refine StepOf.mk 7 (by simp only [List.getElem?_toArray, List.getElem?_cons_succ, List.getElem?_cons_zero]; rfl) (fun K hK => ?_)
        go_simp
        obtain ⟨ws23, hw23⟩ : ∃ wx : World, wx = ws17.alloc (.cells z.toArray 22) := ⟨_, rfl⟩
        rw [← hw23]
        have hbs23 : Below ws17.heap.size ws17 ws23 := by rw [hw23]; exact below_new _ _
        have nbs23 : Blk ws23 ws17.heap.size 22 z.toArray := by rw [hw23]; exact Blk.new _ _ _
        have szs23 : ws17.heap.size < ws23.heap.size := by rw [hw23]; simp
        clear hw23
        have ges23 : W.heap.size ≤ ws17.heap.size := (hs17).size
        refine hK.out _ _ ?tu23 (fun hs23 => ?_)
        case tu23 => exact keepS _ _ hs17 hbs23
        clear hK K
        have nb6_23 := nbs17.below hbs23 nbs17.lt
        refine stepG 2 (by kernel_rfl) (by simp only [List.getElem?_toArray, List.getElem?_cons_succ, List.getElem?_cons_zero]; rfl) (fun K hK => ?_)
        go_simp
        refine (mulg x y cx cy cp Hcx Hcy Hcp HX.out HY.out _).mono ?_
        rintro e ws24 ⟨rfl, hbs24⟩
        have szs24 := hbs24.size
        refine hK.out _ _ ?tu24 (fun hs24 => ?_)
        case tu24 => exact keepS _ _ hs23 hbs24
        clear hK K
        have nb6_24 := nb6_23.below hbs24 nb6_23.lt
        have nb7_24 := nbs23.below hbs24 nbs23.lt
        refine stepG 5 (by kernel_rfl) (by simp only [List.getElem?_toArray, List.getElem?_cons_succ, List.getElem?_cons_zero]; rfl) (fun K hK => ?_)
        go_simp
        refine (mulg y x cy cx cp Hcy Hcx Hcp' HY.out HX.out _).mono ?_
        rintro e ws25 ⟨rfl, hbs25⟩
        have szs25 := hbs25.size
        refine hK.out _ _ ?tu25 (fun hs25 => ?_)
        case tu25 => exact keepS _ _ hs24 hbs25
        clear hK K
        have nb6_25 := nb6_24.below hbs25 nb6_24.lt
        have nb7_25 := nb7_24.below hbs25 nb7_24.lt
        refine stepG 8 (by kernel_rfl) (by simp only [List.getElem?_toArray, List.getElem?_cons_succ, List.getElem?_cons_zero]; rfl) (fun K hK => ?_)
        refine step_store_blk rfl 22 (.tmp 7) (.tmp 16) rfl rfl rfl nb6_25 (by rw [lc.out, lz.out]) (by rw [lc.out]; exact infoA16) onec.out ?_
        intro wa hka hga
        refine hK.out _ _ ?ts22 (fun hHeld => ?_)
        case ts22 => ((try dsimp only); exact (hs25).grown hga (hs25).size (by intro k hk; simp at hk; omega))
        clear hK K
        have hkb := (nb7_25).keep_grown hga (by simp; omega)
        have hSa := hHeld
        refine stepG 9 (by kernel_rfl) (by simp only [List.getElem?_toArray, List.getElem?_cons_succ, List.getElem?_cons_zero]; rfl) (fun K hK => ?_)
        refine step_store_blk rfl 22 (.tmp 8) (.tmp 19) rfl rfl rfl hkb (by rw [lc.out, lz.out]) (by rw [lc.out]; exact infoA16) onec.out ?_
        intro wb hkb2 hgb
        refine hK.out _ _ ?ts23 (fun hHeld => ?_)
        case ts23 => ((try dsimp only); exact hSa.grown hgb hSa.size (by intro k hk; simp at hk; omega))
        clear hK K
        have hka2 := hka.keep_grown hgb (by simp; omega)
        refine doneG (by kernel_rfl) ?_ _
        go_wp2_with fail
        go_meet
        exact ⟨_, _, rfl, rfl, hka2, hkb2, hHeld⟩
    · refine StepOf.mk 7 (by simp only [List.getElem?_toArray, List.getElem?_cons_succ, List.getElem?_cons_zero]; rfl) (fun K hK => ?_)
      go_simp
      obtain ⟨ws26, hw26⟩ : ∃ wx : World, wx = V0.alloc (.cells z.toArray 22) := ⟨_, rfl⟩
      rw [← hw26]
      have hbs26 : Below V0.heap.size V0 ws26 := by rw [hw26]; exact below_new _ _
      have nbs26 : Blk ws26 V0.heap.size 22 z.toArray := by rw [hw26]; exact Blk.new _ _ _
      have szs26 : V0.heap.size < ws26.heap.size := by rw [hw26]; simp
      clear hw26
      have ges26 : W.heap.size ≤ V0.heap.size := (hHeld).size
      refine hK.out _ _ ?tu26 (fun hs26 => ?_)
      case tu26 => exact keepS _ _ hHeld hbs26
      clear hK K
      refine stepG2 2 6 (by kernel_rfl) ?_ ?_
      · refine StepOf.mk 2 (by simp only [List.getElem?_toArray, List.getElem?_cons_succ, List.getElem?_cons_zero]; rfl) (fun K hK => ?_)
        go_simp
        refine (mulg x y cx cy cp Hcx Hcy Hcp HX.out HY.out _).mono ?_
        rintro e ws27 ⟨rfl, hbs27⟩
        have szs27 := hbs27.size
        refine hK.out _ _ ?tu27 (fun hs27 => ?_)
        case tu27 => exact keepS _ _ hs26 hbs27
        clear hK K
        have nb7_27 := nbs26.below hbs27 nbs26.lt
        refine stepG2 5 6 (by kernel_rfl) ?_ ?_
        · refine StepOf.mk 5 (by simp only [List.getElem?_toArray, List.getElem?_cons_succ, List.getElem?_cons_zero]; rfl) (fun K hK => ?_)
          go_simp
          refine (mulg y x cy cx cp Hcy Hcx Hcp' HY.out HX.out _).mono ?_
          rintro e ws28 ⟨rfl, hbs28⟩
          have szs28 := hbs28.size
          refine hK.out _ _ ?tu28 (fun hs28 => ?_)
          case tu28 => exact keepS _ _ hs27 hbs28
          clear hK K
          have nb7_28 := nb7_27.below hbs28 nb7_27.lt
          refine stepG 6 (by kernel_rfl) (by simp only [List.getElem?_toArray, List.getElem?_cons_succ, List.getElem?_cons_zero]; rfl) (fun K hK => ?_)
          go_simp
          obtain ⟨ws29, hw29⟩ : ∃ wx : World, wx = ws28.alloc (.cells z.toArray 22) := ⟨_, rfl⟩
          rw [← hw29]
          have hbs29 : Below ws28.heap.size ws28 ws29 := by rw [hw29]; exact below_new _ _
          have nbs29 : Blk ws29 ws28.heap.size 22 z.toArray := by rw [hw29]; exact Blk.new _ _ _
          have szs29 : ws28.heap.size < ws29.heap.size := by rw [hw29]; simp
          clear hw29
          have ges29 : W.heap.size ≤ ws28.heap.size := (hs28).size
          refine hK.out _ _ ?tu29 (fun hs29 => ?_)
          case tu29 => exact keepS _ _ hs28 hbs29
          clear hK K
          have nb7_29 := nb7_28.below hbs29 nb7_28.lt
          refine stepG 8 (by kernel_rfl) (by simp only [List.getElem?_toArray, List.getElem?_cons_succ, List.getElem?_cons_zero]; rfl) (fun K hK => ?_)
          refine step_store_blk rfl 22 (.tmp 7) (.tmp 16) rfl rfl rfl nbs29 (by rw [lc.out, lz.out]) (by rw [lc.out]; exact infoA16) onec.out ?_
          intro wa hka hga
          refine hK.out _ _ ?ts24 (fun hHeld => ?_)
          case ts24 => ((try dsimp only); exact (hs29).grown hga (hs29).size (by intro k hk; simp at hk; omega))
          clear hK K
          have hkb := (nb7_29).keep_grown hga (by simp; omega)
          have hSa := hHeld
          refine stepG 9 (by kernel_rfl) (by simp only [List.getElem?_toArray, List.getElem?_cons_succ, List.getElem?_cons_zero]; rfl) (fun K hK => ?_)
          refine step_store_blk rfl 22 (.tmp 8) (.tmp 19) rfl rfl rfl hkb (by rw [lc.out, lz.out]) (by rw [lc.out]; exact infoA16) onec.out ?_
          intro wb hkb2 hgb
          refine hK.out _ _ ?ts25 (fun hHeld => ?_)
          case ts25 => ((try dsimp only); exact hSa.grown hgb hSa.size (by intro k hk; simp at hk; omega))
          clear hK K
          have hka2 := hka.keep_grown hgb (by simp; omega)
          refine doneG (by kernel_rfl) ?_ _
          go_wp2_with fail
          go_meet
          exact ⟨_, _, rfl, rfl, hka2, hkb2, hHeld⟩
        · refine StepOf.mk 6 (by simp only [List.getElem?_toArray, List.getElem?_cons_succ, List.getElem?_cons_zero]; rfl) (fun K hK => ?_)
          go_simp
          obtain ⟨ws30, hw30⟩ : ∃ wx : World, wx = ws27.alloc (.cells z.toArray 22) := ⟨_, rfl⟩
          rw [← hw30]
          have hbs30 : Below ws27.heap.size ws27 ws30 := by rw [hw30]; exact below_new _ _
          have nbs30 : Blk ws30 ws27.heap.size 22 z.toArray := by rw [hw30]; exact Blk.new _ _ _
          have szs30 : ws27.heap.size < ws30.heap.size := by rw [hw30]; simp
          clear hw30
          have ges30 : W.heap.size ≤ ws27.heap.size := (hs27).size
          refine hK.out _ _ ?tu30 (fun hs30 => ?_)
          case tu30 => exact keepS _ _ hs27 hbs30
          clear hK K
          have nb7_30 := nb7_27.below hbs30 nb7_27.lt
          refine stepG 5 (by kernel_rfl) (by simp only [List.getElem?_toArray, List.getElem?_cons_succ, List.getElem?_cons_zero]; rfl) (fun K hK => ?_)
          go_simp
          refine (mulg y x cy cx cp Hcy Hcx Hcp' HY.out HX.out _).mono ?_
          rintro e ws31 ⟨rfl, hbs31⟩
          have szs31 := hbs31.size
          refine hK.out _ _ ?tu31 (fun hs31 => ?_)
          case tu31 => exact keepS _ _ hs30 hbs31
          clear hK K
          have nb7_31 := nb7_30.below hbs31 nb7_30.lt
          have nb6_31 := nbs30.below hbs31 nbs30.lt
          refine stepG 8 (by kernel_rfl) (by simp only [List.getElem?_toArray, List.getElem?_cons_succ, List.getElem?_cons_zero]; rfl) (fun K hK => ?_)
          refine step_store_blk rfl 22 (.tmp 7) (.tmp 16) rfl rfl rfl nb6_31 (by rw [lc.out, lz.out]) (by rw [lc.out]; exact infoA16) onec.out ?_
          intro wa hka hga
          refine hK.out _ _ ?ts26 (fun hHeld => ?_)
          case ts26 => ((try dsimp only); exact (hs31).grown hga (hs31).size (by intro k hk; simp at hk; omega))
          clear hK K
          have hkb := (nb7_31).keep_grown hga (by simp; omega)
          have hSa := hHeld
          refine stepG 9 (by kernel_rfl) (by simp only [List.getElem?_toArray, List.getElem?_cons_succ, List.getElem?_cons_zero]; rfl) (fun K hK => ?_)
          refine step_store_blk rfl 22 (.tmp 8) (.tmp 19) rfl rfl rfl hkb (by rw [lc.out, lz.out]) (by rw [lc.out]; exact infoA16) onec.out ?_
          intro wb hkb2 hgb
          refine hK.out _ _ ?ts27 (fun hHeld => ?_)
          case ts27 => ((try dsimp only); exact hSa.grown hgb hSa.size (by intro k hk; simp at hk; omega))
          clear hK K
          have hka2 := hka.keep_grown hgb (by simp; omega)
          refine doneG (by kernel_rfl) ?_ _
          go_wp2_with fail
          go_meet
          exact ⟨_, _, rfl, rfl, hka2, hkb2, hHeld⟩
      · refine StepOf.mk 6 (by simp only [List.getElem?_toArray, List.getElem?_cons_succ, List.getElem?_cons_zero]; rfl) (fun K hK => ?_)
        go_simp
        obtain ⟨ws32, hw32⟩ : ∃ wx : World, wx = ws26.alloc (.cells z.toArray 22) := ⟨_, rfl⟩
        rw [← hw32]
        have hbs32 : Below ws26.heap.size ws26 ws32 := by rw [hw32]; exact below_new _ _
        have nbs32 : Blk ws32 ws26.heap.size 22 z.toArray := by rw [hw32]; exact Blk.new _ _ _
        have szs32 : ws26.heap.size < ws32.heap.size := by rw [hw32]; simp
        clear hw32
        have ges32 : W.heap.size ≤ ws26.heap.size := (hs26).size
        refine hK.out _ _ ?tu32 (fun hs32 => ?_)
        case tu32 => exact keepS _ _ hs26 hbs32
        clear hK K
        have nb7_32 := nbs26.below hbs32 nbs26.lt
        refine stepG 2 (by kernel_rfl) (by simp only [List.getElem?_toArray, List.getElem?_cons_succ, List.getElem?_cons_zero]; rfl) (fun K hK => ?_)
        go_simp
        refine (mulg x y cx cy cp Hcx Hcy Hcp HX.out HY.out _).mono ?_
        rintro e ws33 ⟨rfl, hbs33⟩
        have szs33 := hbs33.size
        refine hK.out _ _ ?tu33 (fun hs33 => ?_)
        case tu33 => exact keepS _ _ hs32 hbs33
        clear hK K
        have nb7_33 := nb7_32.below hbs33 nb7_32.lt
        have nb6_33 := nbs32.below hbs33 nbs32.lt
        refine stepG 5 (by kernel_rfl) (by simp only [List.getElem?_toArray, List.getElem?_cons_succ, List.getElem?_cons_zero]; rfl) (fun K hK => ?_)
        go_simp
        refine (mulg y x cy cx cp Hcy Hcx Hcp' HY.out HX.out _).mono ?_
        rintro e ws34 ⟨rfl, hbs34⟩
        have szs34 := hbs34.size
        refine hK.out _ _ ?tu34 (fun hs34 => ?_)
        case tu34 => exact keepS _ _ hs33 hbs34
        clear hK K
        have nb7_34 := nb7_33.below hbs34 nb7_33.lt
        have nb6_34 := nb6_33.below hbs34 nb6_33.lt
        refine stepG 8 (by kernel_rfl) (by simp only [List.getElem?_toArray, List.getElem?_cons_succ, List.getElem?_cons_zero]; rfl) (fun K hK => ?_)
        refine step_store_blk rfl 22 (.tmp 7) (.tmp 16) rfl rfl rfl nb6_34 (by rw [lc.out, lz.out]) (by rw [lc.out]; exact infoA16) onec.out ?_
        intro wa hka hga
        refine hK.out _ _ ?ts28 (fun hHeld => ?_)
        case ts28 => ((try dsimp only); exact (hs34).grown hga (hs34).size (by intro k hk; simp at hk; omega))
        clear hK K
        have hkb := (nb7_34).keep_grown hga (by simp; omega)
        have hSa := hHeld
        refine stepG 9 (by kernel_rfl) (by simp only [List.getElem?_toArray, List.getElem?_cons_succ, List.getElem?_cons_zero]; rfl) (fun K hK => ?_)
        refine step_store_blk rfl 22 (.tmp 8) (.tmp 19) rfl rfl rfl hkb (by rw [lc.out, lz.out]) (by rw [lc.out]; exact infoA16) onec.out ?_
        intro wb hkb2 hgb
        refine hK.out _ _ ?ts29 (fun hHeld => ?_)
        case ts29 => ((try dsimp only); exact hSa.grown hgb hSa.size (by intro k hk; simp at hk; omega))
        clear hK K
        have hka2 := hka.keep_grown hgb (by simp; omega)
        refine doneG (by kernel_rfl) ?_ _
        go_wp2_with fail
        go_meet
        exact ⟨_, _, rfl, rfl, hka2, hkb2, hHeld⟩
  case rest =>
    obtain ⟨b7, b8, rfl, rfl, k7, k8, hbw⟩ := hcut
    obtain ⟨w1, rfl⟩ : ∃ w1 : World, w1 = wc := ⟨_, rfl⟩
    have L7 := Lib.hid k7
    have L8 := Lib.hid k8
    have LX := Lib.hid (KX.out.below hbw KX.out.lt)
    have LY := Lib.hid (KY.out.below hbw KY.out.lt)
    have LZ := Lib.hid (KZ.out.below hbw KZ.out.lt)
    have LB := Lib.hid (HB.out.trans (hbw.mono (Nat.le_of_lt KX.out.lt)))
    clear k7 k8 hbw
    obtain ⟨cq, Hcq⟩ : ∃ cs, Hid (cs = (gm (gm x y) z0).map B8) := ⟨_, rfl⟩
    have Hcq' : Hid (cq = (gm x (gm y z0)).map B8) := by rw [← gm_assoc x y z0 HX.out HY.out HZ0.out]; exact Hcq
    obtain ⟨cyz, Hcyz⟩ : ∃ cs, Hid (cs = (gm y z0).map B8) := ⟨_, rfl⟩
    have lq := Lib.hid (len16 Hcq (gm_length _ z0))
    have oneq := Lib.hid (one16 Hcq)
    go_upto_region 2 with fail
    go_cut [9, 10] (fun s9 s10 wx => ∃ b9 b10 : Nat, s9 = .pointer (some ⟨b9, 0, none⟩) ∧ s10 = .pointer (some ⟨b10, 0, none⟩) ∧ Blk wx b9 22 cq.toArray ∧ Blk wx b10 22 cq.toArray ∧ Below w1.heap.size w1 wx)
    case first =>
      have TR : Hid (∀ wx, Below w1.heap.size w1 wx → Blk wx H 22 cx.toArray ∧ Blk wx (H + 1) 22 cy.toArray ∧ Blk wx (H + 1 + 1) 22 cz.toArray ∧ Blk wx b7 22 cp.toArray) := fun wx h => ⟨LX.out.below h LX.out.lt, LY.out.below h LY.out.lt, LZ.out.below h LZ.out.lt, L7.out.below h L7.out.lt⟩
      have KS : Hid (∀ wa wb, Below w1.heap.size w1 wa → Below wa.heap.size wa wb → Below w1.heap.size w1 wb) := fun wa wb h hb => h.trans (hb.mono h.size)
      refine region_gate 12 (fun w' => Below w1.heap.size w1 w') (by kernel_rfl) ?th30 (fun hHeld => ?tk30)
      case th30 => ((try dsimp only); exact (Below.refl _ _).drew)
      obtain ⟨V0, hV0⟩ : ∃ V0, V0 = w1.drew := ⟨_, rfl⟩
      rw [← hV0] at hHeld ⊢
      clear hV0
      have keepS := KS.out
      refine' takeV 0 (oi := _) (d := _) (v := _) ?ti31 ?td31 (by kernel_rfl) (by kernel_rfl) (by kernel_rfl) (by kernel_rfl) (by decide) (fun _ _ _ _ _ h => h) ?tg31 ?ty31 (by assumption) ?tr31
      case ti31 => (simp only [List.getElem?_toArray, List.getElem?_cons_succ, List.getElem?_cons_zero]; rfl)
      case td31 => exact rfl
      case tg31 => exact rfl
      case ty31 => (intro w hSw; (try dsimp only at hSw); rw [exec_load_blk 22 (.tmp 7) rfl rfl (TR.out _ hSw).2.2.2 _ HU.out rfl (by rw [lc.out]; exact infoA16)])
      simp only [List.setIfInBounds_toArray, List.set_cons_zero, List.set_cons_succ]
      refine' takeV 1 (oi := _) (d := _) (v := _) ?ti32 ?td32 (by kernel_rfl) (by kernel_rfl) (by kernel_rfl) (by kernel_rfl) (by decide) (fun _ _ _ _ _ h => h) ?tg32 ?ty32 (by assumption) ?tr32
      case ti32 => (simp only [List.getElem?_toArray, List.getElem?_cons_succ, List.getElem?_cons_zero]; rfl)
      case td32 => exact rfl
      case tg32 => exact rfl
      case ty32 => (intro w hSw; (try dsimp only at hSw); rw [exec_load_blk 22 (.tmp 5) rfl rfl (TR.out _ hSw).2.2.1 _ HU.out rfl (by rw [lzz.out]; exact infoA16)])
      simp only [List.setIfInBounds_toArray, List.set_cons_zero, List.set_cons_succ]
      refine' takeV 3 (oi := _) (d := _) (v := _) ?ti33 ?td33 (by kernel_rfl) (by kernel_rfl) (by kernel_rfl) (by kernel_rfl) (by decide) (fun _ _ _ _ _ h => h) ?tg33 ?ty33 (by assumption) ?tr33
      case ti33 => (simp only [List.getElem?_toArray, List.getElem?_cons_succ, List.getElem?_cons_zero]; rfl)
      case td33 => exact rfl
      case tg33 => exact rfl
      case ty33 => (intro w hSw; (try dsimp only at hSw); rw [exec_load_blk 22 (.tmp 3) rfl rfl (TR.out _ hSw).1 _ HU.out rfl (by rw [lx.out]; exact infoA16)])
      simp only [List.setIfInBounds_toArray, List.set_cons_zero, List.set_cons_succ]
      refine' takeV 4 (oi := _) (d := _) (v := _) ?ti34 ?td34 (by kernel_rfl) (by kernel_rfl) (by kernel_rfl) (by kernel_rfl) (by decide) (fun _ _ _ _ _ h => h) ?tg34 ?ty34 (by assumption) ?tr34
      case ti34 => (simp only [List.getElem?_toArray, List.getElem?_cons_succ, List.getElem?_cons_zero]; rfl)
      case td34 => exact rfl
      case tg34 => exact rfl
      case ty34 => (intro w hSw; (try dsimp only at hSw); rw [exec_load_blk 22 (.tmp 4) rfl rfl (TR.out _ hSw).2.1 _ HU.out rfl (by rw [ly.out]; exact infoA16)])
      simp only [List.setIfInBounds_toArray, List.set_cons_zero, List.set_cons_succ]
      refine' takeV 5 (oi := _) (d := _) (v := _) ?ti35 ?td35 (by kernel_rfl) (by kernel_rfl) (by kernel_rfl) (by kernel_rfl) (by decide) (fun _ _ _ _ _ h => h) ?tg35 ?ty35 (by assumption) ?tr35
      case ti35 => (simp only [List.getElem?_toArray, List.getElem?_cons_succ, List.getElem?_cons_zero]; rfl)
      case td35 => exact rfl
      case tg35 => exact rfl
      case ty35 => (intro w hSw; (try dsimp only at hSw); rw [exec_load_blk 22 (.tmp 5) rfl rfl (TR.out _ hSw).2.2.1 _ HU.out rfl (by rw [lzz.out]; exact infoA16)])
      simp only [List.setIfInBounds_toArray, List.set_cons_zero, List.set_cons_succ]
      refine stepG3 2 8 9 (by kernel_rfl) ?_ ?_ ?_
      · refine StepOf.mk 2 (by simp only [List.getElem?_toArray, List.getElem?_cons_succ, List.getElem?_cons_zero]; rfl) (fun K hK => ?_)
        go_simp
        refine (mulg (gm x y) z0 cp cz cq Hcp Hcz Hcq (gm_length x y) HZ0.out _).mono ?_
        rintro e ws35 ⟨rfl, hbs35⟩
        have szs35 := hbs35.size
        refine hK.out _ _ ?tu35 (fun hs35 => ?_)
        case tu35 => exact keepS _ _ hHeld hbs35
        clear hK K
        refine stepG3 6 8 9 (by kernel_rfl) ?_ ?_ ?_
        · refine StepOf.mk 6 (by simp only [List.getElem?_toArray, List.getElem?_cons_succ, List.getElem?_cons_zero]; rfl) (fun K hK => ?_)
          go_simp
          refine (mulg y z0 cy cz cyz Hcy Hcz Hcyz HY.out HZ0.out _).mono ?_
          rintro e ws36 ⟨rfl, hbs36⟩
          have szs36 := hbs36.size
          refine hK.out _ _ ?tu36 (fun hs36 => ?_)
          case tu36 => exact keepS _ _ hs35 hbs36
          clear hK K
          refine stepG3 7 8 9 (by kernel_rfl) ?_ ?_ ?_
          · refine StepOf.mk 7 (by simp only [List.getElem?_toArray, List.getElem?_cons_succ, List.getElem?_cons_zero]; rfl) (fun K hK => ?_)
            go_simp
            refine (mulg x (gm y z0) cx cyz cq Hcx Hcyz Hcq' HX.out (gm_length y z0) _).mono ?_
            rintro e ws37 ⟨rfl, hbs37⟩
            have szs37 := hbs37.size
            refine hK.out _ _ ?tu37 (fun hs37 => ?_)
            case tu37 => exact keepS _ _ hs36 hbs37
            clear hK K
            refine stepG2 8 9 (by kernel_rfl) ?_ ?_
            · refine StepOf.mk 8 (by simp only [List.getElem?_toArray, List.getElem?_cons_succ, List.getElem?_cons_zero]; rfl) (fun K hK => ?_)
              go_simp
              obtain ⟨ws38, hw38⟩ : ∃ wx : World, wx = ws37.alloc (.cells z.toArray 22) := ⟨_, rfl⟩
              rw [← hw38]
              have hbs38 : Below ws37.heap.size ws37 ws38 := by rw [hw38]; exact below_new _ _
              have nbs38 : Blk ws38 ws37.heap.size 22 z.toArray := by rw [hw38]; exact Blk.new _ _ _
              have szs38 : ws37.heap.size < ws38.heap.size := by rw [hw38]; simp
              clear hw38
              have ges38 : w1.heap.size ≤ ws37.heap.size := (hs37).size
              refine hK.out _ _ ?tu38 (fun hs38 => ?_)
              case tu38 => exact keepS _ _ hs37 hbs38
              clear hK K
              refine stepG 9 (by kernel_rfl) (by simp only [List.getElem?_toArray, List.getElem?_cons_succ, List.getElem?_cons_zero]; rfl) (fun K hK => ?_)
              go_simp
              obtain ⟨ws39, hw39⟩ : ∃ wx : World, wx = ws38.alloc (.cells z.toArray 22) := ⟨_, rfl⟩
              rw [← hw39]
              have hbs39 : Below ws38.heap.size ws38 ws39 := by rw [hw39]; exact below_new _ _
              have nbs39 : Blk ws39 ws38.heap.size 22 z.toArray := by rw [hw39]; exact Blk.new _ _ _
              have szs39 : ws38.heap.size < ws39.heap.size := by rw [hw39]; simp
              clear hw39
              have ges39 : w1.heap.size ≤ ws38.heap.size := (hs38).size
              refine hK.out _ _ ?tu39 (fun hs39 => ?_)
              case tu39 => exact keepS _ _ hs38 hbs39
              clear hK K
              have nb8_39 := nbs38.below hbs39 nbs38.lt
              refine stepG 10 (by kernel_rfl) (by simp only [List.getElem?_toArray, List.getElem?_cons_succ, List.getElem?_cons_zero]; rfl) (fun K hK => ?_)
              refine step_store_blk rfl 22 (.tmp 9) (.tmp 22) rfl rfl rfl nb8_39 (by rw [lq.out, lz.out]) (by rw [lq.out]; exact infoA16) oneq.out ?_
              intro wa hka hga
              refine hK.out _ _ ?ts36 (fun hHeld => ?_)
              case ts36 => ((try dsimp only); exact (hs39).grown hga (hs39).size (by intro k hk; simp at hk; omega))
              clear hK K
              have hkb := (nbs39).keep_grown hga (by simp; omega)
              have hSa := hHeld
              refine stepG 11 (by kernel_rfl) (by simp only [List.getElem?_toArray, List.getElem?_cons_succ, List.getElem?_cons_zero]; rfl) (fun K hK => ?_)
              refine step_store_blk rfl 22 (.tmp 10) (.tmp 27) rfl rfl rfl hkb (by rw [lq.out, lz.out]) (by rw [lq.out]; exact infoA16) oneq.out ?_
              intro wb hkb2 hgb
              refine hK.out _ _ ?ts37 (fun hHeld => ?_)
              case ts37 => ((try dsimp only); exact hSa.grown hgb hSa.size (by intro k hk; simp at hk; omega))
              clear hK K
              have hka2 := hka.keep_grown hgb (by simp; omega)
              refine doneG (by kernel_rfl) ?_ _
              go_wp2_with fail
              go_meet
              exact ⟨_, _, rfl, rfl, hka2, hkb2, hHeld⟩
            · refine StepOf.mk 9 (by simp only [List.getElem?_toArray, List.getElem?_cons_succ, List.getElem?_cons_zero]; rfl) (fun K hK => ?_)
              go_simp
              obtain ⟨ws40, hw40⟩ : ∃ wx : World, wx = ws37.alloc (.cells z.toArray 22) := ⟨_, rfl⟩
              rw [← hw40]
              have hbs40 : Below ws37.heap.size ws37 ws40 := by rw [hw40]; exact below_new _ _
              have nbs40 : Blk ws40 ws37.heap.size 22 z.toArray := by rw [hw40]; exact Blk.new _ _ _
              have szs40 : ws37.heap.size < ws40.heap.size := by rw [hw40]; simp
              clear hw40
              have ges40 : w1.heap.size ≤ ws37.heap.size := (hs37).size
              refine hK.out _ _ ?tu40 (fun hs40 => ?_)
              case tu40 => exact keepS _ _ hs37 hbs40
              clear hK K
              refine stepG 8 (by kernel_rfl) (by simp only [List.getElem?_toArray, List.getElem?_cons_succ, List.getElem?_cons_zero]; rfl) (fun K hK => ?_)
              go_simp
              obtain ⟨ws41, hw41⟩ : ∃ wx : World, wx = ws40.alloc (.cells z.toArray 22) := ⟨_, rfl⟩
              rw [← hw41]
              have hbs41 : Below ws40.heap.size ws40 ws41 := by rw [hw41]; exact below_new _ _
              have nbs41 : Blk ws41 ws40.heap.size 22 z.toArray := by rw [hw41]; exact Blk.new _ _ _
              have szs41 : ws40.heap.size < ws41.heap.size := by rw [hw41]; simp
              clear hw41
              have ges41 : w1.heap.size ≤ ws40.heap.size := (hs40).size
              refine hK.out _ _ ?tu41 (fun hs41 => ?_)
              case tu41 => exact keepS _ _ hs40 hbs41
              clear hK K
              have nb9_41 := nbs40.below hbs41 nbs40.lt
              refine stepG 10 (by kernel_rfl) (by simp only [List.getElem?_toArray, List.getElem?_cons_succ, List.getElem?_cons_zero]; rfl) (fun K hK => ?_)
              refine step_store_blk rfl 22 (.tmp 9) (.tmp 22) rfl rfl rfl nbs41 (by rw [lq.out, lz.out]) (by rw [lq.out]; exact infoA16) oneq.out ?_
              intro wa hka hga
              refine hK.out _ _ ?ts38 (fun hHeld => ?_)
              case ts38 => ((try dsimp only); exact (hs41).grown hga (hs41).size (by intro k hk; simp at hk; omega))
              clear hK K
              have hkb := (nb9_41).keep_grown hga (by simp; omega)
              have hSa := hHeld
              refine stepG 11 (by kernel_rfl) (by simp only [List.getElem?_toArray, List.getElem?_cons_succ, List.getElem?_cons_zero]; rfl) (fun K hK => ?_)
              refine step_store_blk rfl 22 (.tmp 10) (.tmp 27) rfl rfl rfl hkb (by rw [lq.out, lz.out]) (by rw [lq.out]; exact infoA16) oneq.out ?_
              intro wb hkb2 hgb
              refine hK.out _ _ ?ts39 (fun hHeld => ?_)
              case ts39 => ((try dsimp only); exact hSa.grown hgb hSa.size (by intro k hk; simp at hk; omega))
              clear hK K
              have hka2 := hka.keep_grown hgb (by simp; omega)
              refine doneG (by kernel_rfl) ?_ _
              go_wp2_with fail
              go_meet
              exact ⟨_, _, rfl, rfl, hka2, hkb2, hHeld⟩
          · refine StepOf.mk 8 (by simp only [List.getElem?_toArray, List.getElem?_cons_succ, List.getElem?_cons_zero]; rfl) (fun K hK => ?_)
            go_simp
            obtain ⟨ws42, hw42⟩ : ∃ wx : World, wx = ws36.alloc (.cells z.toArray 22) := ⟨_, rfl⟩
            rw [← hw42]
            have hbs42 : Below ws36.heap.size ws36 ws42 := by rw [hw42]; exact below_new _ _
            have nbs42 : Blk ws42 ws36.heap.size 22 z.toArray := by rw [hw42]; exact Blk.new _ _ _
            have szs42 : ws36.heap.size < ws42.heap.size := by rw [hw42]; simp
            clear hw42
            have ges42 : w1.heap.size ≤ ws36.heap.size := (hs36).size
            refine hK.out _ _ ?tu42 (fun hs42 => ?_)
            case tu42 => exact keepS _ _ hs36 hbs42
            clear hK K
            refine stepG2 7 9 (by kernel_rfl) ?_ ?_
            · refine StepOf.mk 7 (by simp only [List.getElem?_toArray, List.getElem?_cons_succ, List.getElem?_cons_zero]; rfl) (fun K hK => ?_)
              go_simp
              refine (mulg x (gm y z0) cx cyz cq Hcx Hcyz Hcq' HX.out (gm_length y z0) _).mono ?_
              rintro e ws43 ⟨rfl, hbs43⟩
              have szs43 := hbs43.size
              refine hK.out _ _ ?tu43 (fun hs43 => ?_)
              case tu43 => exact keepS _ _ hs42 hbs43
              clear hK K
              have nb8_43 := nbs42.below hbs43 nbs42.lt
              refine stepG 9 (by kernel_rfl) (by simp only [List.getElem?_toArray, List.getElem?_cons_succ, List.getElem?_cons_zero]; rfl) (fun K hK => ?_)
              go_simp
              obtain ⟨ws44, hw44⟩ : ∃ wx : World, wx = ws43.alloc (.cells z.toArray 22) := ⟨_, rfl⟩
              rw [← hw44]
              have hbs44 : Below ws43.heap.size ws43 ws44 := by rw [hw44]; exact below_new _ _
              have nbs44 : Blk ws44 ws43.heap.size 22 z.toArray := by rw [hw44]; exact Blk.new _ _ _
              have szs44 : ws43.heap.size < ws44.heap.size := by rw [hw44]; simp
              clear hw44
              have ges44 : w1.heap.size ≤ ws43.heap.size := (hs43).size
              refine hK.out _ _ ?tu44 (fun hs44 => ?_)
              case tu44 => exact keepS _ _ hs43 hbs44
              clear hK K
              have nb8_44 := nb8_43.below hbs44 nb8_43.lt
              refine stepG 10 (by kernel_rfl) (by simp only [List.getElem?_toArray, List.getElem?_cons_succ, List.getElem?_cons_zero]; rfl) (fun K hK => ?_)
              refine step_store_blk rfl 22 (.tmp 9) (.tmp 22) rfl rfl rfl nb8_44 (by rw [lq.out, lz.out]) (by rw [lq.out]; exact infoA16) oneq.out ?_
              intro wa hka hga
              refine hK.out _ _ ?ts40 (fun hHeld => ?_)
              case ts40 => ((try dsimp only); exact (hs44).grown hga (hs44).size (by intro k hk; simp at hk; omega))
              clear hK K
              have hkb := (nbs44).keep_grown hga (by simp; omega)
              have hSa := hHeld
              refine stepG 11 (by kernel_rfl) (by simp only [List.getElem?_toArray, List.getElem?_cons_succ, List.getElem?_cons_zero]; rfl) (fun K hK => ?_)
              refine step_store_blk rfl 22 (.tmp 10) (.tmp 27) rfl rfl rfl hkb (by rw [lq.out, lz.out]) (by rw [lq.out]; exact infoA16) oneq.out ?_
              intro wb hkb2 hgb
              refine hK.out _ _ ?ts41 (fun hHeld => ?_)
              case ts41 => ((try dsimp only); exact hSa.grown hgb hSa.size (by intro k hk; simp at hk; omega))
              clear hK K
              have hka2 := hka.keep_grown hgb (by simp; omega)
              refine doneG (by kernel_rfl) ?_ _
              go_wp2_with fail
              go_meet
              exact ⟨_, _, rfl, rfl, hka2, hkb2, hHeld⟩
            · refine StepOf.mk 9 (by simp only [List.getElem?_toArray, List.getElem?_cons_succ, List.getElem?_cons_zero]; rfl) (fun K hK => ?_)
              go_simp
              obtain ⟨ws45, hw45⟩ : ∃ wx : World, wx = ws42.alloc (.cells z.toArray 22) := ⟨_, rfl⟩
              rw [← hw45]
              have hbs45 : Below ws42.heap.size ws42 ws45 := by rw [hw45]; exact below_new _ _
              have nbs45 : Blk ws45 ws42.heap.size 22 z.toArray := by rw [hw45]; exact Blk.new _ _ _
              have szs45 : ws42.heap.size < ws45.heap.size := by rw [hw45]; simp
              clear hw45
              have ges45 : w1.heap.size ≤ ws42.heap.size := (hs42).size
              refine hK.out _ _ ?tu45 (fun hs45 => ?_)
              case tu45 => exact keepS _ _ hs42 hbs45
              clear hK K
              have nb8_45 := nbs42.below hbs45 nbs42.lt
              refine stepG 7 (by kernel_rfl) (by simp only [List.getElem?_toArray, List.getElem?_cons_succ, List.getElem?_cons_zero]; rfl) (fun K hK => ?_)
              go_simp
              refine (mulg x (gm y z0) cx cyz cq Hcx Hcyz Hcq' HX.out (gm_length y z0) _).mono ?_
              rintro e ws46 ⟨rfl, hbs46⟩
              have szs46 := hbs46.size
              refine hK.out _ _ ?tu46 (fun hs46 => ?_)
              case tu46 => exact keepS _ _ hs45 hbs46
              clear hK K
              have nb8_46 := nb8_45.below hbs46 nb8_45.lt
              have nb9_46 := nbs45.below hbs46 nbs45.lt
              refine stepG 10 (by kernel_rfl) (by simp only [List.getElem?_toArray, List.getElem?_cons_succ, List.getElem?_cons_zero]; rfl) (fun K hK => ?_)
              refine step_store_blk rfl 22 (.tmp 9) (.tmp 22) rfl rfl rfl nb8_46 (by rw [lq.out, lz.out]) (by rw [lq.out]; exact infoA16) oneq.out ?_
              intro wa hka hga
              refine hK.out _ _ ?ts42 (fun hHeld => ?_)
              case ts42 => ((try dsimp only); exact (hs46).grown hga (hs46).size (by intro k hk; simp at hk; omega))
              clear hK K
              have hkb := (nb9_46).keep_grown hga (by simp; omega)
              have hSa := hHeld
              refine stepG 11 (by kernel_rfl) (by simp only [List.getElem?_toArray, List.getElem?_cons_succ, List.getElem?_cons_zero]; rfl) (fun K hK => ?_)
              refine step_store_blk rfl 22 (.tmp 10) (.tmp 27) rfl rfl rfl hkb (by rw [lq.out, lz.out]) (by rw [lq.out]; exact infoA16) oneq.out ?_
              intro wb hkb2 hgb
              refine hK.out _ _ ?ts43 (fun hHeld => ?_)
              case ts43 => ((try dsimp only); exact hSa.grown hgb hSa.size (by intro k hk; simp at hk; omega))
              clear hK K
              have hka2 := hka.keep_grown hgb (by simp; omega)
              refine doneG (by kernel_rfl) ?_ _
              go_wp2_with fail
              go_meet
              exact ⟨_, _, rfl, rfl, hka2, hkb2, hHeld⟩
          · refine StepOf.mk 9 (by simp only [List.getElem?_toArray, List.getElem?_cons_succ, List.getElem?_cons_zero]; rfl) (fun K hK => ?_)
            go_simp
            obtain ⟨ws47, hw47⟩ : ∃ wx : World, wx = ws36.alloc (.cells z.toArray 22) := ⟨_, rfl⟩
            rw [← hw47]
            have hbs47 : Below ws36.heap.size ws36 ws47 := by rw [hw47]; exact below_new _ _
            have nbs47 : Blk ws47 ws36.heap.size 22 z.toArray := by rw [hw47]; exact Blk.new _ _ _
            have szs47 : ws36.heap.size < ws47.heap.size := by rw [hw47]; simp
            clear hw47
            have ges47 : w1.heap.size ≤ ws36.heap.size := (hs36).size
            refine hK.out _ _ ?tu47 (fun hs47 => ?_)
            case tu47 => exact keepS _ _ hs36 hbs47
            clear hK K
            refine stepG2 7 8 (by kernel_rfl) ?_ ?_
            · refine StepOf.mk 7 (by simp only [List.getElem?_toArray, List.getElem?_cons_succ, List.getElem?_cons_zero]; rfl) (fun K hK => ?_)
              go_simp
              refine (mulg x (gm y z0) cx cyz cq Hcx Hcyz Hcq' HX.out (gm_length y z0) _).mono ?_
              rintro e ws48 ⟨rfl, hbs48⟩
              have szs48 := hbs48.size
              refine hK.out _ _ ?tu48 (fun hs48 => ?_)
              case tu48 => exact keepS _ _ hs47 hbs48
              clear hK K
              have nb9_48 := nbs47.below hbs48 nbs47.lt
              refine stepG 8 (by kernel_rfl) (by simp only [List.getElem?_toArray, List.getElem?_cons_succ, List.getElem?_cons_zero]; rfl) (fun K hK => ?_)
              go_simp
              obtain ⟨ws49, hw49⟩ : ∃ wx : World, wx = ws48.alloc (.cells z.toArray 22) := ⟨_, rfl⟩
              rw [← hw49]
              have hbs49 : Below ws48.heap.size ws48 ws49 := by rw [hw49]; exact below_new _ _
              have nbs49 : Blk ws49 ws48.heap.size 22 z.toArray := by rw [hw49]; exact Blk.new _ _ _
              have szs49 : ws48.heap.size < ws49.heap.size := by rw [hw49]; simp
              clear hw49
              have ges49 : w1.heap.size ≤ ws48.heap.size := (hs48).size
              refine hK.out _ _ ?tu49 (fun hs49 => ?_)
              case tu49 => exact keepS _ _ hs48 hbs49
              clear hK K
              have nb9_49 := nb9_48.below hbs49 nb9_48.lt
              refine stepG 10 (by kernel_rfl) (by simp only [List.getElem?_toArray, List.getElem?_cons_succ, List.getElem?_cons_zero]; rfl) (fun K hK => ?_)
              refine step_store_blk rfl 22 (.tmp 9) (.tmp 22) rfl rfl rfl nbs49 (by rw [lq.out, lz.out]) (by rw [lq.out]; exact infoA16) oneq.out ?_
              intro wa hka hga
              refine hK.out _ _ ?ts44 (fun hHeld => ?_)
              case ts44 => ((try dsimp only); exact (hs49).grown hga (hs49).size (by intro k hk; simp at hk; omega))
              clear hK K
              have hkb := (nb9_49).keep_grown hga (by simp; omega)
              have hSa := hHeld
              refine stepG 11 (by kernel_rfl) (by simp only [List.getElem?_toArray, List.getElem?_cons_succ, List.getElem?_cons_zero]; rfl) (fun K hK => ?_)
              refine step_store_blk rfl 22 (.tmp 10) (.tmp 27) rfl rfl rfl hkb (by rw [lq.out, lz.out]) (by rw [lq.out]; exact infoA16) oneq.out ?_
              intro wb hkb2 hgb
              refine hK.out _ _ ?ts45 (fun hHeld => ?_)
              case ts45 => ((try dsimp only); exact hSa.grown hgb hSa.size (by intro k hk; simp at hk; omega))
              clear hK K
              have hka2 := hka.keep_grown hgb (by simp; omega)
              refine doneG (by kernel_rfl) ?_ _
              go_wp2_with fail
              go_meet
              exact ⟨_, _, rfl, rfl, hka2, hkb2, hHeld⟩
            · refine StepOf.mk 8 (by simp only [List.getElem?_toArray, List.getElem?_cons_succ, List.getElem?_cons_zero]; rfl) (fun K hK => ?_)
              go_simp
              obtain ⟨ws50, hw50⟩ : ∃ wx : World, wx = ws47.alloc (.cells z.toArray 22) := ⟨_, rfl⟩
              rw [← hw50]
              have hbs50 : Below ws47.heap.size ws47 ws50 := by rw [hw50]; exact below_new _ _
              have nbs50 : Blk ws50 ws47.heap.size 22 z.toArray := by rw [hw50]; exact Blk.new _ _ _
              have szs50 : ws47.heap.size < ws50.heap.size := by rw [hw50]; simp
              clear hw50
              have ges50 : w1.heap.size ≤ ws47.heap.size := (hs47).size
              refine hK.out _ _ ?tu50 (fun hs50 => ?_)
              case tu50 => exact keepS _ _ hs47 hbs50
              clear hK K
              have nb9_50 := nbs47.below hbs50 nbs47.lt
              refine stepG 7 (by kernel_rfl) (by simp only [List.getElem?_toArray, List.getElem?_cons_succ, List.getElem?_cons_zero]; rfl) (fun K hK => ?_)
              go_simp
              refine (mulg x (gm y z0) cx cyz cq Hcx Hcyz Hcq' HX.out (gm_length y z0) _).mono ?_
              rintro e ws51 ⟨rfl, hbs51⟩
              have szs51 := hbs51.size
              refine hK.out _ _ ?tu51 (fun hs51 => ?_)
              case tu51 => exact keepS _ _ hs50 hbs51
              clear hK K
              have nb9_51 := nb9_50.below hbs51 nb9_50.lt
              have nb8_51 := nbs50.below hbs51 nbs50.lt
              refine stepG 10 (by kernel_rfl) (by simp only [List.getElem?_toArray, List.getElem?_cons_succ, List.getElem?_cons_zero]; rfl) (fun K hK => ?_)
              refine step_store_blk rfl 22 (.tmp 9) (.tmp 22) rfl rfl rfl nb8_51 (by rw [lq.out, lz.out]) (by rw [lq.out]; exact infoA16) oneq.out ?_
              intro wa hka hga
              refine hK.out _ _ ?ts46 (fun hHeld => ?_)
              case ts46 => ((try dsimp only); exact (hs51).grown hga (hs51).size (by intro k hk; simp at hk; omega))
              clear hK K
              have hkb := (nb9_51).keep_grown hga (by simp; omega)
              have hSa := hHeld
              refine stepG 11 (by kernel_rfl) (by simp only [List.getElem?_toArray, List.getElem?_cons_succ, List.getElem?_cons_zero]; rfl) (fun K hK => ?_)
              refine step_store_blk rfl 22 (.tmp 10) (.tmp 27) rfl rfl rfl hkb (by rw [lq.out, lz.out]) (by rw [lq.out]; exact infoA16) oneq.out ?_
              intro wb hkb2 hgb
              refine hK.out _ _ ?ts47 (fun hHeld => ?_)
              case ts47 => ((try dsimp only); exact hSa.grown hgb hSa.size (by intro k hk; simp at hk; omega))
              clear hK K
              have hka2 := hka.keep_grown hgb (by simp; omega)
              refine doneG (by kernel_rfl) ?_ _
              go_wp2_with fail
              go_meet
              exact ⟨_, _, rfl, rfl, hka2, hkb2, hHeld⟩
        · refine StepOf.mk 8 (by simp only [List.getElem?_toArray, List.getElem?_cons_succ, List.getElem?_cons_zero]; rfl) (fun K hK => ?_)
          go_simp
          obtain ⟨ws52, hw52⟩ : ∃ wx : World, wx = ws35.alloc (.cells z.toArray 22) := ⟨_, rfl⟩
          rw [← hw52]
          have hbs52 : Below ws35.heap.size ws35 ws52 := by rw [hw52]; exact below_new _ _
          have nbs52 : Blk ws52 ws35.heap.size 22 z.toArray := by rw [hw52]; exact Blk.new _ _ _
          have szs52 : ws35.heap.size < ws52.heap.size := by rw [hw52]; simp
          clear hw52
          have ges52 : w1.heap.size ≤ ws35.heap.size := (hs35).size
          refine hK.out _ _ ?tu52 (fun hs52 => ?_)
          case tu52 => exact keepS _ _ hs35 hbs52
          clear hK K
          refine stepG2 6 9 (by kernel_rfl) ?_ ?_
          · refine StepOf.mk 6 (by simp only [List.getElem?_toArray, List.getElem?_cons_succ, List.getElem?_cons_zero]; rfl) (fun K hK => ?_)
            go_simp
            refine (mulg y z0 cy cz cyz Hcy Hcz Hcyz HY.out HZ0.out _).mono ?_
            rintro e ws53 ⟨rfl, hbs53⟩
            have szs53 := hbs53.size
            refine hK.out _ _ ?tu53 (fun hs53 => ?_)
            case tu53 => exact keepS _ _ hs52 hbs53
            clear hK K
            have nb8_53 := nbs52.below hbs53 nbs52.lt
            refine stepG2 7 9 (by kernel_rfl) ?_ ?_
            · refine StepOf.mk 7 (by simp only [List.getElem?_toArray, List.getElem?_cons_succ, List.getElem?_cons_zero]; rfl) (fun K hK => ?_)
              go_simp
              refine (mulg x (gm y z0) cx cyz cq Hcx Hcyz Hcq' HX.out (gm_length y z0) _).mono ?_
              rintro e ws54 ⟨rfl, hbs54⟩
              have szs54 := hbs54.size
              refine hK.out _ _ ?tu54 (fun hs54 => ?_)
              case tu54 => exact keepS _ _ hs53 hbs54
              clear hK K
              have nb8_54 := nb8_53.below hbs54 nb8_53.lt
              refine stepG 9 (by kernel_rfl) (by simp only [List.getElem?_toArray, List.getElem?_cons_succ, List.getElem?_cons_zero]; rfl) (fun K hK => ?_)
              go_simp
              obtain ⟨ws55, hw55⟩ : ∃ wx : World, wx = ws54.alloc (.cells z.toArray 22) := ⟨_, rfl⟩
              rw [← hw55]
              have hbs55 : Below ws54.heap.size ws54 ws55 := by rw [hw55]; exact below_new _ _
              have nbs55 : Blk ws55 ws54.heap.size 22 z.toArray := by rw [hw55]; exact Blk.new _ _ _
              have szs55 : ws54.heap.size < ws55.heap.size := by rw [hw55]; simp
              clear hw55
              have ges55 : w1.heap.size ≤ ws54.heap.size := (hs54).size
              refine hK.out _ _ ?tu55 (fun hs55 => ?_)
              case tu55 => exact keepS _ _ hs54 hbs55
              clear hK K
              have nb8_55 := nb8_54.below hbs55 nb8_54.lt
              refine stepG 10 (by kernel_rfl) (by simp only [List.getElem?_toArray, List.getElem?_cons_succ, List.getElem?_cons_zero]; rfl) (fun K hK => ?_)
              refine step_store_blk rfl 22 (.tmp 9) (.tmp 22) rfl rfl rfl nb8_55 (by rw [lq.out, lz.out]) (by rw [lq.out]; exact infoA16) oneq.out ?_
              intro wa hka hga
              refine hK.out _ _ ?ts48 (fun hHeld => ?_)
              case ts48 => ((try dsimp only); exact (hs55).grown hga (hs55).size (by intro k hk; simp at hk; omega))
              clear hK K
              have hkb := (nbs55).keep_grown hga (by simp; omega)
              have hSa := hHeld
              refine stepG 11 (by kernel_rfl) (by simp only [List.getElem?_toArray, List.getElem?_cons_succ, List.getElem?_cons_zero]; rfl) (fun K hK => ?_)
              refine step_store_blk rfl 22 (.tmp 10) (.tmp 27) rfl rfl rfl hkb (by rw [lq.out, lz.out]) (by rw [lq.out]; exact infoA16) oneq.out ?_
              intro wb hkb2 hgb
              refine hK.out _ _ ?ts49 (fun hHeld => ?_)
              case ts49 => ((try dsimp only); exact hSa.grown hgb hSa.size (by intro k hk; simp at hk; omega))
              clear hK K
              have hka2 := hka.keep_grown hgb (by simp; omega)
              refine doneG (by kernel_rfl) ?_ _
              go_wp2_with fail
              go_meet
              exact ⟨_, _, rfl, rfl, hka2, hkb2, hHeld⟩
            · refine StepOf.mk 9 (by simp only [List.getElem?_toArray, List.getElem?_cons_succ, List.getElem?_cons_zero]; rfl) (fun K hK => ?_)
              go_simp
              obtain ⟨ws56, hw56⟩ : ∃ wx : World, wx = ws53.alloc (.cells z.toArray 22) := ⟨_, rfl⟩
              rw [← hw56]
              have hbs56 : Below ws53.heap.size ws53 ws56 := by rw [hw56]; exact below_new _ _
              have nbs56 : Blk ws56 ws53.heap.size 22 z.toArray := by rw [hw56]; exact Blk.new _ _ _
              have szs56 : ws53.heap.size < ws56.heap.size := by rw [hw56]; simp
              clear hw56
              have ges56 : w1.heap.size ≤ ws53.heap.size := (hs53).size
              refine hK.out _ _ ?tu56 (fun hs56 => ?_)
              case tu56 => exact keepS _ _ hs53 hbs56
              clear hK K
              have nb8_56 := nb8_53.below hbs56 nb8_53.lt
              refine stepG 7 (by kernel_rfl) (by simp only [List.getElem?_toArray, List.getElem?_cons_succ, List.getElem?_cons_zero]; rfl) (fun K hK => ?_)
              go_simp
              refine (mulg x (gm y z0) cx cyz cq Hcx Hcyz Hcq' HX.out (gm_length y z0) _).mono ?_
              rintro e ws57 ⟨rfl, hbs57⟩
              have szs57 := hbs57.size
              refine hK.out _ _ ?tu57 (fun hs57 => ?_)
              case tu57 => exact keepS _ _ hs56 hbs57
              clear hK K
              have nb8_57 := nb8_56.below hbs57 nb8_56.lt
              have nb9_57 := nbs56.below hbs57 nbs56.lt
              refine stepG 10 (by kernel_rfl) (by simp only [List.getElem?_toArray, List.getElem?_cons_succ, List.getElem?_cons_zero]; rfl) (fun K hK => ?_)
              refine step_store_blk rfl 22 (.tmp 9) (.tmp 22) rfl rfl rfl nb8_57 (by rw [lq.out, lz.out]) (by rw [lq.out]; exact infoA16) oneq.out ?_
              intro wa hka hga
              refine hK.out _ _ ?ts50 (fun hHeld => ?_)
              case ts50 => ((try dsimp only); exact (hs57).grown hga (hs57).size (by intro k hk; simp at hk; omega))
              clear hK K
              have hkb := (nb9_57).keep_grown hga (by simp; omega)
              have hSa := hHeld
              refine stepG 11 (by kernel_rfl) (by simp only [List.getElem?_toArray, List.getElem?_cons_succ, List.getElem?_cons_zero]; rfl) (fun K hK => ?_)
              refine step_store_blk rfl 22 (.tmp 10) (.tmp 27) rfl rfl rfl hkb (by rw [lq.out, lz.out]) (by rw [lq.out]; exact infoA16) oneq.out ?_
              intro wb hkb2 hgb
              refine hK.out _ _ ?ts51 (fun hHeld => ?_)
              case ts51 => ((try dsimp only); exact hSa.grown hgb hSa.size (by intro k hk; simp at hk; omega))
              clear hK K
              have hka2 := hka.keep_grown hgb (by simp; omega)
              refine doneG (by kernel_rfl) ?_ _
              go_wp2_with fail
              go_meet
              exact ⟨_, _, rfl, rfl, hka2, hkb2, hHeld⟩
          · refine StepOf.mk 9 (by simp only [List.getElem?_toArray, List.getElem?_cons_succ, List.getElem?_cons_zero]; rfl) (fun K hK => ?_)
            go_simp
            obtain ⟨ws58, hw58⟩ : ∃ wx : World, wx = ws52.alloc (.cells z.toArray 22) := ⟨_, rfl⟩
            rw [← hw58]
            have hbs58 : Below ws52.heap.size ws52 ws58 := by rw [hw58]; exact below_new _ _
            have nbs58 : Blk ws58 ws52.heap.size 22 z.toArray := by rw [hw58]; exact Blk.new _ _ _
            have szs58 : ws52.heap.size < ws58.heap.size := by rw [hw58]; simp
            clear hw58
            have ges58 : w1.heap.size ≤ ws52.heap.size := (hs52).size
            refine hK.out _ _ ?tu58 (fun hs58 => ?_)
            case tu58 => exact keepS _ _ hs52 hbs58
            clear hK K
            have nb8_58 := nbs52.below hbs58 nbs52.lt
            refine stepG 6 (by kernel_rfl) (by simp only [List.getElem?_toArray, List.getElem?_cons_succ, List.getElem?_cons_zero]; rfl) (fun K hK => ?_)
            go_simp
            refine (mulg y z0 cy cz cyz Hcy Hcz Hcyz HY.out HZ0.out _).mono ?_
            rintro e ws59 ⟨rfl, hbs59⟩
            have szs59 := hbs59.size
            refine hK.out _ _ ?tu59 (fun hs59 => ?_)
            case tu59 => exact keepS _ _ hs58 hbs59
            clear hK K
            have nb8_59 := nb8_58.below hbs59 nb8_58.lt
            have nb9_59 := nbs58.below hbs59 nbs58.lt
            refine stepG 7 (by kernel_rfl) (by simp only [List.getElem?_toArray, List.getElem?_cons_succ, List.getElem?_cons_zero]; rfl) (fun K hK => ?_)
            go_simp
            refine (mulg x (gm y z0) cx cyz cq Hcx Hcyz Hcq' HX.out (gm_length y z0) _).mono ?_
            rintro e ws60 ⟨rfl, hbs60⟩
            have szs60 := hbs60.size
            refine hK.out _ _ ?tu60 (fun hs60 => ?_)
            case tu60 => exact keepS _ _ hs59 hbs60
            clear hK K
            have nb8_60 := nb8_59.below hbs60 nb8_59.lt
            have nb9_60 := nb9_59.below hbs60 nb9_59.lt
            refine stepG 10 (by kernel_rfl) (by simp only [List.getElem?_toArray, List.getElem?_cons_succ, List.getElem?_cons_zero]; rfl) (fun K hK => ?_)
            refine step_store_blk rfl 22 (.tmp 9) (.tmp 22) rfl rfl rfl nb8_60 (by rw [lq.out, lz.out]) (by rw [lq.out]; exact infoA16) oneq.out ?_
            intro wa hka hga
            refine hK.out _ _ ?ts52 (fun hHeld => ?_)
            case ts52 => ((try dsimp only); exact (hs60).grown hga (hs60).size (by intro k hk; simp at hk; omega))
            clear hK K
            have hkb := (nb9_60).keep_grown hga (by simp; omega)
            have hSa := hHeld
            refine stepG 11 (by kernel_rfl) (by simp only [List.getElem?_toArray, List.getElem?_cons_succ, List.getElem?_cons_zero]; rfl) (fun K hK => ?_)
            refine step_store_blk rfl 22 (.tmp 10) (.tmp 27) rfl rfl rfl hkb (by rw [lq.out, lz.out]) (by rw [lq.out]; exact infoA16) oneq.out ?_
            intro wb hkb2 hgb
            refine hK.out _ _ ?ts53 (fun hHeld => ?_)
            case ts53 => ((try dsimp only); exact hSa.grown hgb hSa.size (by intro k hk; simp at hk; omega))
            clear hK K
            have hka2 := hka.keep_grown hgb (by simp; omega)
            refine doneG (by kernel_rfl) ?_ _
            go_wp2_with fail
            go_meet
            exact ⟨_, _, rfl, rfl, hka2, hkb2, hHeld⟩
        · refine StepOf.mk 9 (by simp only [List.getElem?_toArray, List.getElem?_cons_succ, List.getElem?_cons_zero]; rfl) (fun K hK => ?_)
          go_simp
          obtain ⟨ws61, hw61⟩ : ∃ wx : World, wx = ws35.alloc (.cells z.toArray 22) := ⟨_, rfl⟩
          rw [← hw61]
          have hbs61 : Below ws35.heap.size ws35 ws61 := by rw [hw61]; exact below_new _ _
          have nbs61 : Blk ws61 ws35.heap.size 22 z.toArray := by rw [hw61]; exact Blk.new _ _ _
          have szs61 : ws35.heap.size < ws61.heap.size := by rw [hw61]; simp
          clear hw61
          have ges61 : w1.heap.size ≤ ws35.heap.size := (hs35).size
          refine hK.out _ _ ?tu61 (fun hs61 => ?_)
          case tu61 => exact keepS _ _ hs35 hbs61
          clear hK K
          refine stepG2 6 8 (by kernel_rfl) ?_ ?_
          · refine StepOf.mk 6 (by simp only [List.getElem?_toArray, List.getElem?_cons_succ, List.getElem?_cons_zero]; rfl) (fun K hK => ?_)
            go_simp
            refine (mulg y z0 cy cz cyz Hcy Hcz Hcyz HY.out HZ0.out _).mono ?_
            rintro e ws62 ⟨rfl, hbs62⟩
            have szs62 := hbs62.size
            refine hK.out _ _ ?tu62 (fun hs62 => ?_)
            case tu62 => exact keepS _ _ hs61 hbs62
            clear hK K
            have nb9_62 := nbs61.below hbs62 nbs61.lt
            refine stepG2 7 8 (by kernel_rfl) ?_ ?_
            · refine StepOf.mk 7 (by simp only [List.getElem?_toArray, List.getElem?_cons_succ, List.getElem?_cons_zero]; rfl) (fun K hK => ?_)
              go_simp
              refine (mulg x (gm y z0) cx cyz cq Hcx Hcyz Hcq' HX.out (gm_length y z0) _).mono ?_
              rintro e ws63 ⟨rfl, hbs63⟩
              have szs63 := hbs63.size
              refine hK.out _ _ ?tu63 (fun hs63 => ?_)
              case tu63 => exact keepS _ _ hs62 hbs63
              clear hK K
              have nb9_63 := nb9_62.below hbs63 nb9_62.lt
              refine stepG 8 (by kernel_rfl) (by simp only [List.getElem?_toArray, List.getElem?_cons_succ, List.getElem?_cons_zero]; rfl) (fun K hK => ?_)
              go_simp
              obtain ⟨ws64, hw64⟩ : ∃ wx : World, wx = ws63.alloc (.cells z.toArray 22) := ⟨_, rfl⟩
              rw [← hw64]
              have hbs64 : Below ws63.heap.size ws63 ws64 := by rw [hw64]; exact below_new _ _
              have nbs64 : Blk ws64 ws63.heap.size 22 z.toArray := by rw [hw64]; exact Blk.new _ _ _
              have szs64 : ws63.heap.size < ws64.heap.size := by rw [hw64]; simp
              clear hw64
              have ges64 : w1.heap.size ≤ ws63.heap.size := (hs63).size
              refine hK.out _ _ ?tu64 (fun hs64 => ?_)
              case tu64 => exact keepS _ _ hs63 hbs64
              clear hK K
              have nb9_64 := nb9_63.below hbs64 nb9_63.lt
              refine stepG 10 (by kernel_rfl) (by simp only [List.getElem?_toArray, List.getElem?_cons_succ, List.getElem?_cons_zero]; rfl) (fun K hK => ?_)
              refine step_store_blk rfl 22 (.tmp 9) (.tmp 22) rfl rfl rfl nbs64 (by rw [lq.out, lz.out]) (by rw [lq.out]; exact infoA16) oneq.out ?_
              intro wa hka hga
              refine hK.out _ _ ?ts54 (fun hHeld => ?_)
              case ts54 => ((try dsimp only); exact (hs64).grown hga (hs64).size (by intro k hk; simp at hk; omega))
              clear hK K
              have hkb := (nb9_64).keep_grown hga (by simp; omega)
              have hSa := hHeld
              refine stepG 11 (by kernel_rfl) (by simp only [List.getElem?_toArray, List.getElem?_cons_succ, List.getElem?_cons_zero]; rfl) (fun K hK => ?_)
              refine step_store_blk rfl 22 (.tmp 10) (.tmp 27) rfl rfl rfl hkb (by rw [lq.out, lz.out]) (by rw [lq.out]; exact infoA16) oneq.out ?_
              intro wb hkb2 hgb
              refine hK.out _ _ ?ts55 (fun hHeld => ?_)
              case ts55 => ((try dsimp only); exact hSa.grown hgb hSa.size (by intro k hk; simp at hk; omega))
              clear hK K
              have hka2 := hka.keep_grown hgb (by simp; omega)
              refine doneG (by kernel_rfl) ?_ _
              go_wp2_with fail
              go_meet
              exact ⟨_, _, rfl, rfl, hka2, hkb2, hHeld⟩
            · refine StepOf.mk 8 (by simp only [List.getElem?_toArray, List.getElem?_cons_succ, List.getElem?_cons_zero]; rfl) (fun K hK => ?_)
              go_simp
              obtain ⟨ws65, hw65⟩ : ∃ wx : World, wx = ws62.alloc (.cells z.toArray 22) := ⟨_, rfl⟩
              rw [← hw65]
              have hbs65 : Below ws62.heap.size ws62 ws65 := by rw [hw65]; exact below_new _ _
              have nbs65 : Blk ws65 ws62.heap.size 22 z.toArray := by rw [hw65]; exact Blk.new _ _ _
              have szs65 : ws62.heap.size < ws65.heap.size := by rw [hw65]; simp
              clear hw65
              have ges65 : w1.heap.size ≤ ws62.heap.size := (hs62).size
              refine hK.out _ _ ?tu65 (fun hs65 => ?_)
              case tu65 => exact keepS _ _ hs62 hbs65
              clear hK K
              have nb9_65 := nb9_62.below hbs65 nb9_62.lt
              refine stepG 7 (by kernel_rfl) (by simp only [List.getElem?_toArray, List.getElem?_cons_succ, List.getElem?_cons_zero]; rfl) (fun K hK => ?_)
              go_simp
              refine (mulg x (gm y z0) cx cyz cq Hcx Hcyz Hcq' HX.out (gm_length y z0) _).mono ?_
              rintro e ws66 ⟨rfl, hbs66⟩
              have szs66 := hbs66.size
              refine hK.out _ _ ?tu66 (fun hs66 => ?_)
              case tu66 => exact keepS _ _ hs65 hbs66
              clear hK K
              have nb9_66 := nb9_65.below hbs66 nb9_65.lt
              have nb8_66 := nbs65.below hbs66 nbs65.lt
              refine stepG 10 (by kernel_rfl) (by simp only [List.getElem?_toArray, List.getElem?_cons_succ, List.getElem?_cons_zero]; rfl) (fun K hK => ?_)
              refine step_store_blk rfl 22 (.tmp 9) (.tmp 22) rfl rfl rfl nb8_66 (by rw [lq.out, lz.out]) (by rw [lq.out]; exact infoA16) oneq.out ?_
              intro wa hka hga
              refine hK.out _ _ ?ts56 (fun hHeld => ?_)
              case ts56 => ((try dsimp only); exact (hs66).grown hga (hs66).size (by intro k hk; simp at hk; omega))
              clear hK K
              have hkb := (nb9_66).keep_grown hga (by simp; omega)
              have hSa := hHeld
              refine stepG 11 (by kernel_rfl) (by simp only [List.getElem?_toArray, List.getElem?_cons_succ, List.getElem?_cons_zero]; rfl) (fun K hK => ?_)
              refine step_store_blk rfl 22 (.tmp 10) (.tmp 27) rfl rfl rfl hkb (by rw [lq.out, lz.out]) (by rw [lq.out]; exact infoA16) oneq.out ?_
              intro wb hkb2 hgb
              refine hK.out _ _ ?ts57 (fun hHeld => ?_)
              case ts57 => ((try dsimp only); exact hSa.grown hgb hSa.size (by intro k hk; simp at hk; omega))
              clear hK K
              have hka2 := hka.keep_grown hgb (by simp; omega)
              refine doneG (by kernel_rfl) ?_ _
              go_wp2_with fail
              go_meet
              exact ⟨_, _, rfl, rfl, hka2, hkb2, hHeld⟩
          · refine StepOf.mk 8 (by simp only [List.getElem?_toArray, List.getElem?_cons_succ, List.getElem?_cons_zero]; rfl) (fun K hK => ?_)
            go_simp
            obtain ⟨ws67, hw67⟩ : ∃ wx : World, wx = ws61.alloc (.cells z.toArray 22) := ⟨_, rfl⟩
            rw [← hw67]
            have hbs67 : Below ws61.heap.size ws61 ws67 := by rw [hw67]; exact below_new _ _
            have nbs67 : Blk ws67 ws61.heap.size 22 z.toArray := by rw [hw67]; exact Blk.new _ _ _
            have szs67 : ws61.heap.size < ws67.heap.size := by rw [hw67]; simp
            clear hw67
            have ges67 : w1.heap.size ≤ ws61.heap.size := (hs61).size
            refine hK.out _ _ ?tu67 (fun hs67 => ?_)
            case tu67 => exact keepS _ _ hs61 hbs67
            clear hK K
            have nb9_67 := nbs61.below hbs67 nbs61.lt
            refine stepG 6 (by kernel_rfl) (by simp only [List.getElem?_toArray, List.getElem?_cons_succ, List.getElem?_cons_zero]; rfl) (fun K hK => ?_)
            go_simp
            refine (mulg y z0 cy cz cyz Hcy Hcz Hcyz HY.out HZ0.out _).mono ?_
            rintro e ws68 ⟨rfl, hbs68⟩
            have szs68 := hbs68.size
            refine hK.out _ _ ?tu68 (fun hs68 => ?_)
            case tu68 => exact keepS _ _ hs67 hbs68
            clear hK K
            have nb9_68 := nb9_67.below hbs68 nb9_67.lt
            have nb8_68 := nbs67.below hbs68 nbs67.lt
            refine stepG 7 (by kernel_rfl) (by simp only [List.getElem?_toArray, List.getElem?_cons_succ, List.getElem?_cons_zero]; rfl) (fun K hK => ?_)
            go_simp
            refine (mulg x (gm y z0) cx cyz cq Hcx Hcyz Hcq' HX.out (gm_length y z0) _).mono ?_
            rintro e ws69 ⟨rfl, hbs69⟩
            have szs69 := hbs69.size
            refine hK.out _ _ ?tu69 (fun hs69 => ?_)
            case tu69 => exact keepS _ _ hs68 hbs69
            clear hK K
            have nb9_69 := nb9_68.below hbs69 nb9_68.lt
            have nb8_69 := nb8_68.below hbs69 nb8_68.lt
            refine stepG 10 (by kernel_rfl) (by simp only [List.getElem?_toArray, List.getElem?_cons_succ, List.getElem?_cons_zero]; rfl) (fun K hK => ?_)
            refine step_store_blk rfl 22 (.tmp 9) (.tmp 22) rfl rfl rfl nb8_69 (by rw [lq.out, lz.out]) (by rw [lq.out]; exact infoA16) oneq.out ?_
            intro wa hka hga
            refine hK.out _ _ ?ts58 (fun hHeld => ?_)
            case ts58 => ((try dsimp only); exact (hs69).grown hga (hs69).size (by intro k hk; simp at hk; omega))
            clear hK K
            have hkb := (nb9_69).keep_grown hga (by simp; omega)
            have hSa := hHeld
            refine stepG 11 (by kernel_rfl) (by simp only [List.getElem?_toArray, List.getElem?_cons_succ, List.getElem?_cons_zero]; rfl) (fun K hK => ?_)
            refine step_store_blk rfl 22 (.tmp 10) (.tmp 27) rfl rfl rfl hkb (by rw [lq.out, lz.out]) (by rw [lq.out]; exact infoA16) oneq.out ?_
            intro wb hkb2 hgb
            refine hK.out _ _ ?ts59 (fun hHeld => ?_)
            case ts59 => ((try dsimp only); exact hSa.grown hgb hSa.size (by intro k hk; simp at hk; omega))
            clear hK K
            have hka2 := hka.keep_grown hgb (by simp; omega)
            refine doneG (by kernel_rfl) ?_ _
            go_wp2_with fail
            go_meet
            exact ⟨_, _, rfl, rfl, hka2, hkb2, hHeld⟩
      · refine StepOf.mk 8 (by simp only [List.getElem?_toArray, List.getElem?_cons_succ, List.getElem?_cons_zero]; rfl) (fun K hK => ?_)
        go_simp
        obtain ⟨ws70, hw70⟩ : ∃ wx : World, wx = V0.alloc (.cells z.toArray 22) := ⟨_, rfl⟩
        rw [← hw70]
        have hbs70 : Below V0.heap.size V0 ws70 := by rw [hw70]; exact below_new _ _
        have nbs70 : Blk ws70 V0.heap.size 22 z.toArray := by rw [hw70]; exact Blk.new _ _ _
        have szs70 : V0.heap.size < ws70.heap.size := by rw [hw70]; simp
        clear hw70
        have ges70 : w1.heap.size ≤ V0.heap.size := (hHeld).size
        refine hK.out _ _ ?tu70 (fun hs70 => ?_)
        case tu70 => exact keepS _ _ hHeld hbs70
        clear hK K
        refine stepG2 2 9 (by kernel_rfl) ?_ ?_
        · refine StepOf.mk 2 (by simp only [List.getElem?_toArray, List.getElem?_cons_succ, List.getElem?_cons_zero]; rfl) (fun K hK => ?_)
          go_simp
          refine (mulg (gm x y) z0 cp cz cq Hcp Hcz Hcq (gm_length x y) HZ0.out _).mono ?_
          rintro e ws71 ⟨rfl, hbs71⟩
          have szs71 := hbs71.size
          refine hK.out _ _ ?tu71 (fun hs71 => ?_)
          case tu71 => exact keepS _ _ hs70 hbs71
          clear hK K
          have nb8_71 := nbs70.below hbs71 nbs70.lt
          refine stepG2 6 9 (by kernel_rfl) ?_ ?_
          · refine StepOf.mk 6 (by simp only [List.getElem?_toArray, List.getElem?_cons_succ, List.getElem?_cons_zero]; rfl) (fun K hK => ?_)
            go_simp
            refine (mulg y z0 cy cz cyz Hcy Hcz Hcyz HY.out HZ0.out _).mono ?_
            rintro e ws72 ⟨rfl, hbs72⟩
            have szs72 := hbs72.size
            refine hK.out _ _ ?tu72 (fun hs72 => ?_)
            case tu72 => exact keepS _ _ hs71 hbs72
            clear hK K
            have nb8_72 := nb8_71.below hbs72 nb8_71.lt
            refine stepG2 7 9 (by kernel_rfl) ?_ ?_
            · refine StepOf.mk 7 (by simp only [List.getElem?_toArray, List.getElem?_cons_succ, List.getElem?_cons_zero]; rfl) (fun K hK => ?_)
              go_simp
              refine (mulg x (gm y z0) cx cyz cq Hcx Hcyz Hcq' HX.out (gm_length y z0) _).mono ?_
              rintro e ws73 ⟨rfl, hbs73⟩
              have szs73 := hbs73.size
              refine hK.out _ _ ?tu73 (fun hs73 => ?_)
              case tu73 => exact keepS _ _ hs72 hbs73
              clear hK K
              have nb8_73 := nb8_72.below hbs73 nb8_72.lt
              refine stepG 9 (by kernel_rfl) (by simp only [List.getElem?_toArray, List.getElem?_cons_succ, List.getElem?_cons_zero]; rfl) (fun K hK => ?_)
              go_simp
              obtain ⟨ws74, hw74⟩ : ∃ wx : World, wx = ws73.alloc (.cells z.toArray 22) := ⟨_, rfl⟩
              rw [← hw74]
              have hbs74 : Below ws73.heap.size ws73 ws74 := by rw [hw74]; exact below_new _ _
              have nbs74 : Blk ws74 ws73.heap.size 22 z.toArray := by rw [hw74]; exact Blk.new _ _ _
              have szs74 : ws73.heap.size < ws74.heap.size := by rw [hw74]; simp
              clear hw74
              have ges74 : w1.heap.size ≤ ws73.heap.size := (hs73).size
              refine hK.out _ _ ?tu74 (fun hs74 => ?_)
              case tu74 => exact keepS _ _ hs73 hbs74
              clear hK K
              have nb8_74 := nb8_73.below hbs74 nb8_73.lt
              refine stepG 10 (by kernel_rfl) (by simp only [List.getElem?_toArray, List.getElem?_cons_succ, List.getElem?_cons_zero]; rfl) (fun K hK => ?_)
              refine step_store_blk rfl 22 (.tmp 9) (.tmp 22) rfl rfl rfl nb8_74 (by rw [lq.out, lz.out]) (by rw [lq.out]; exact infoA16) oneq.out ?_
              intro wa hka hga
              refine hK.out _ _ ?ts60 (fun hHeld => ?_)
              case ts60 => ((try dsimp only); exact (hs74).grown hga (hs74).size (by intro k hk; simp at hk; omega))
              clear hK K
              have hkb := (nbs74).keep_grown hga (by simp; omega)
              have hSa := hHeld
              refine stepG 11 (by kernel_rfl) (by simp only [List.getElem?_toArray, List.getElem?_cons_succ, List.getElem?_cons_zero]; rfl) (fun K hK => ?_)
              refine step_store_blk rfl 22 (.tmp 10) (.tmp 27) rfl rfl rfl hkb (by rw [lq.out, lz.out]) (by rw [lq.out]; exact infoA16) oneq.out ?_
              intro wb hkb2 hgb
              refine hK.out _ _ ?ts61 (fun hHeld => ?_)
              case ts61 => ((try dsimp only); exact hSa.grown hgb hSa.size (by intro k hk; simp at hk; omega))
              clear hK K
              have hka2 := hka.keep_grown hgb (by simp; omega)
              refine doneG (by kernel_rfl) ?_ _
              go_wp2_with fail
              go_meet
              exact ⟨_, _, rfl, rfl, hka2, hkb2, hHeld⟩
            · refine StepOf.mk 9 (by simp only [List.getElem?_toArray, List.getElem?_cons_succ, List.getElem?_cons_zero]; rfl) (fun K hK => ?_)
              go_simp
              obtain ⟨ws75, hw75⟩ : ∃ wx : World, wx = ws72.alloc (.cells z.toArray 22) := ⟨_, rfl⟩
              rw [← hw75]
              have hbs75 : Below ws72.heap.size ws72 ws75 := by rw [hw75]; exact below_new _ _
              have nbs75 : Blk ws75 ws72.heap.size 22 z.toArray := by rw [hw75]; exact Blk.new _ _ _
              have szs75 : ws72.heap.size < ws75.heap.size := by rw [hw75]; simp
              clear hw75
              have ges75 : w1.heap.size ≤ ws72.heap.size := (hs72).size
              refine hK.out _ _ ?tu75 (fun hs75 => ?_)
              case tu75 => exact keepS _ _ hs72 hbs75
              clear hK K
              have nb8_75 := nb8_72.below hbs75 nb8_72.lt
              refine stepG 7 (by kernel_rfl) (by simp only [List.getElem?_toArray, List.getElem?_cons_succ, List.getElem?_cons_zero]; rfl) (fun K hK => ?_)
              go_simp
              refine (mulg x (gm y z0) cx cyz cq Hcx Hcyz Hcq' HX.out (gm_length y z0) _).mono ?_
              rintro e ws76 ⟨rfl, hbs76⟩
              have szs76 := hbs76.size
              refine hK.out _ _ ?tu76 (fun hs76 => ?_)
              case tu76 => exact keepS _ _ hs75 hbs76
              clear hK K
              have nb8_76 := nb8_75.below hbs76 nb8_75.lt
              have nb9_76 := nbs75.below hbs76 nbs75.lt
              refine stepG 10 (by kernel_rfl) (by simp only [List.getElem?_toArray, List.getElem?_cons_succ, List.getElem?_cons_zero]; rfl) (fun K hK => ?_)
              refine step_store_blk rfl 22 (.tmp 9) (.tmp 22) rfl rfl rfl nb8_76 (by rw [lq.out, lz.out]) (by rw [lq.out]; exact infoA16) oneq.out ?_
              intro wa hka hga
              refine hK.out _ _ ?ts62 (fun hHeld => ?_)
              case ts62 => ((try dsimp only); exact (hs76).grown hga (hs76).size (by intro k hk; simp at hk; omega))
              clear hK K
              have hkb := (nb9_76).keep_grown hga (by simp; omega)
              have hSa := hHeld
              refine stepG 11 (by kernel_rfl) (by simp only [List.getElem?_toArray, List.getElem?_cons_succ, List.getElem?_cons_zero]; rfl) (fun K hK => ?_)
              refine step_store_blk rfl 22 (.tmp 10) (.tmp 27) rfl rfl rfl hkb (by rw [lq.out, lz.out]) (by rw [lq.out]; exact infoA16) oneq.out ?_
              intro wb hkb2 hgb
              refine hK.out _ _ ?ts63 (fun hHeld => ?_)
              case ts63 => ((try dsimp only); exact hSa.grown hgb hSa.size (by intro k hk; simp at hk; omega))
              clear hK K
              have hka2 := hka.keep_grown hgb (by simp; omega)
              refine doneG (by kernel_rfl) ?_ _
              go_wp2_with fail
              go_meet
              exact ⟨_, _, rfl, rfl, hka2, hkb2, hHeld⟩
          · refine StepOf.mk 9 (by simp only [List.getElem?_toArray, List.getElem?_cons_succ, List.getElem?_cons_zero]; rfl) (fun K hK => ?_)
            go_simp
            obtain ⟨ws77, hw77⟩ : ∃ wx : World, wx = ws71.alloc (.cells z.toArray 22) := ⟨_, rfl⟩
            rw [← hw77]
            have hbs77 : Below ws71.heap.size ws71 ws77 := by rw [hw77]; exact below_new _ _
            have nbs77 : Blk ws77 ws71.heap.size 22 z.toArray := by rw [hw77]; exact Blk.new _ _ _
            have szs77 : ws71.heap.size < ws77.heap.size := by rw [hw77]; simp
            clear hw77
            have ges77 : w1.heap.size ≤ ws71.heap.size := (hs71).size
            refine hK.out _ _ ?tu77 (fun hs77 => ?_)
            case tu77 => exact keepS _ _ hs71 hbs77
            clear hK K
            have nb8_77 := nb8_71.below hbs77 nb8_71.lt
            refine stepG 6 (by kernel_rfl) (by simp only [List.getElem?_toArray, List.getElem?_cons_succ, List.getElem?_cons_zero]; rfl) (fun K hK => ?_)
            go_simp
            refine (mulg y z0 cy cz cyz Hcy Hcz Hcyz HY.out HZ0.out _).mono ?_
            rintro e ws78 ⟨rfl, hbs78⟩
            have szs78 := hbs78.size
            refine hK.out _ _ ?tu78 (fun hs78 => ?_)
            case tu78 => exact keepS _ _ hs77 hbs78
            clear hK K
            have nb8_78 := nb8_77.below hbs78 nb8_77.lt
            have nb9_78 := nbs77.below hbs78 nbs77.lt
            refine stepG 7 (by kernel_rfl) (by simp only [List.getElem?_toArray, List.getElem?_cons_succ, List.getElem?_cons_zero]; rfl) (fun K hK => ?_)
            go_simp
            refine (mulg x (gm y z0) cx cyz cq Hcx Hcyz Hcq' HX.out (gm_length y z0) _).mono ?_
            rintro e ws79 ⟨rfl, hbs79⟩
            have szs79 := hbs79.size
            refine hK.out _ _ ?tu79 (fun hs79 => ?_)
            case tu79 => exact keepS _ _ hs78 hbs79
            clear hK K
            have nb8_79 := nb8_78.below hbs79 nb8_78.lt
            have nb9_79 := nb9_78.below hbs79 nb9_78.lt
            refine stepG 10 (by kernel_rfl) (by simp only [List.getElem?_toArray, List.getElem?_cons_succ, List.getElem?_cons_zero]; rfl) (fun K hK => ?_)
            refine step_store_blk rfl 22 (.tmp 9) (.tmp 22) rfl rfl rfl nb8_79 (by rw [lq.out, lz.out]) (by rw [lq.out]; exact infoA16) oneq.out ?_
            intro wa hka hga
            refine hK.out _ _ ?ts64 (fun hHeld => ?_)
            case ts64 => ((try dsimp only); exact (hs79).grown hga (hs79).size (by intro k hk; simp at hk; omega))
            clear hK K
            have hkb := (nb9_79).keep_grown hga (by simp; omega)
            have hSa := hHeld
            refine stepG 11 (by kernel_rfl) (by simp only [List.getElem?_toArray, List.getElem?_cons_succ, List.getElem?_cons_zero]; rfl) (fun K hK => ?_)
            refine step_store_blk rfl 22 (.tmp 10) (.tmp 27) rfl rfl rfl hkb (by rw [lq.out, lz.out]) (by rw [lq.out]; exact infoA16) oneq.out ?_
            intro wb hkb2 hgb
            refine hK.out _ _ ?ts65 (fun hHeld => ?_)
            case ts65 => ((try dsimp only); exact hSa.grown hgb hSa.size (by intro k hk; simp at hk; omega))
            clear hK K
            have hka2 := hka.keep_grown hgb (by simp; omega)
            refine doneG (by kernel_rfl) ?_ _
            go_wp2_with fail
            go_meet
            exact ⟨_, _, rfl, rfl, hka2, hkb2, hHeld⟩
        · refine StepOf.mk 9 (by simp only [List.getElem?_toArray, List.getElem?_cons_succ, List.getElem?_cons_zero]; rfl) (fun K hK => ?_)
          go_simp
          obtain ⟨ws80, hw80⟩ : ∃ wx : World, wx = ws70.alloc (.cells z.toArray 22) := ⟨_, rfl⟩
          rw [← hw80]
          have hbs80 : Below ws70.heap.size ws70 ws80 := by rw [hw80]; exact below_new _ _
          have nbs80 : Blk ws80 ws70.heap.size 22 z.toArray := by rw [hw80]; exact Blk.new _ _ _
          have szs80 : ws70.heap.size < ws80.heap.size := by rw [hw80]; simp
          clear hw80
          have ges80 : w1.heap.size ≤ ws70.heap.size := (hs70).size
          refine hK.out _ _ ?tu80 (fun hs80 => ?_)
          case tu80 => exact keepS _ _ hs70 hbs80
          clear hK K
          have nb8_80 := nbs70.below hbs80 nbs70.lt
          refine stepG 2 (by kernel_rfl) (by simp only [List.getElem?_toArray, List.getElem?_cons_succ, List.getElem?_cons_zero]; rfl) (fun K hK => ?_)
          go_simp
          refine (mulg (gm x y) z0 cp cz cq Hcp Hcz Hcq (gm_length x y) HZ0.out _).mono ?_
          rintro e ws81 ⟨rfl, hbs81⟩
          have szs81 := hbs81.size
          refine hK.out _ _ ?tu81 (fun hs81 => ?_)
          case tu81 => exact keepS _ _ hs80 hbs81
          clear hK K
          have nb8_81 := nb8_80.below hbs81 nb8_80.lt
          have nb9_81 := nbs80.below hbs81 nbs80.lt
          refine stepG 6 (by kernel_rfl) (by simp only [List.getElem?_toArray, List.getElem?_cons_succ, List.getElem?_cons_zero]; rfl) (fun K hK => ?_)
          go_simp
          refine (mulg y z0 cy cz cyz Hcy Hcz Hcyz HY.out HZ0.out _).mono ?_
          rintro e ws82 ⟨rfl, hbs82⟩
          have szs82 := hbs82.size
          refine hK.out _ _ ?tu82 (fun hs82 => ?_)
          case tu82 => exact keepS _ _ hs81 hbs82
          clear hK K
          have nb8_82 := nb8_81.below hbs82 nb8_81.lt
          have nb9_82 := nb9_81.below hbs82 nb9_81.lt
          refine stepG 7 (by kernel_rfl) (by simp only [List.getElem?_toArray, List.getElem?_cons_succ, List.getElem?_cons_zero]; rfl) (fun K hK => ?_)
          go_simp
          refine (mulg x (gm y z0) cx cyz cq Hcx Hcyz Hcq' HX.out (gm_length y z0) _).mono ?_
          rintro e ws83 ⟨rfl, hbs83⟩
          have szs83 := hbs83.size
          refine hK.out _ _ ?tu83 (fun hs83 => ?_)
          case tu83 => exact keepS _ _ hs82 hbs83
          clear hK K
          have nb8_83 := nb8_82.below hbs83 nb8_82.lt
          have nb9_83 := nb9_82.below hbs83 nb9_82.lt
          refine stepG 10 (by kernel_rfl) (by simp only [List.getElem?_toArray, List.getElem?_cons_succ, List.getElem?_cons_zero]; rfl) (fun K hK => ?_)
          refine step_store_blk rfl 22 (.tmp 9) (.tmp 22) rfl rfl rfl nb8_83 (by rw [lq.out, lz.out]) (by rw [lq.out]; exact infoA16) oneq.out ?_
          intro wa hka hga
          refine hK.out _ _ ?ts66 (fun hHeld => ?_)
          case ts66 => ((try dsimp only); exact (hs83).grown hga (hs83).size (by intro k hk; simp at hk; omega))
          clear hK K
          have hkb := (nb9_83).keep_grown hga (by simp; omega)
          have hSa := hHeld
          refine stepG 11 (by kernel_rfl) (by simp only [List.getElem?_toArray, List.getElem?_cons_succ, List.getElem?_cons_zero]; rfl) (fun K hK => ?_)
          refine step_store_blk rfl 22 (.tmp 10) (.tmp 27) rfl rfl rfl hkb (by rw [lq.out, lz.out]) (by rw [lq.out]; exact infoA16) oneq.out ?_
          intro wb hkb2 hgb
          refine hK.out _ _ ?ts67 (fun hHeld => ?_)
          case ts67 => ((try dsimp only); exact hSa.grown hgb hSa.size (by intro k hk; simp at hk; omega))
          clear hK K
          have hka2 := hka.keep_grown hgb (by simp; omega)
          refine doneG (by kernel_rfl) ?_ _
          go_wp2_with fail
          go_meet
          exact ⟨_, _, rfl, rfl, hka2, hkb2, hHeld⟩
      · refine StepOf.mk 9 (by simp only [List.getElem?_toArray, List.getElem?_cons_succ, List.getElem?_cons_zero]; rfl) (fun K hK => ?_)
        go_simp
        obtain ⟨ws84, hw84⟩ : ∃ wx : World, wx = V0.alloc (.cells z.toArray 22) := ⟨_, rfl⟩
        rw [← hw84]
        have hbs84 : Below V0.heap.size V0 ws84 := by rw [hw84]; exact below_new _ _
        have nbs84 : Blk ws84 V0.heap.size 22 z.toArray := by rw [hw84]; exact Blk.new _ _ _
        have szs84 : V0.heap.size < ws84.heap.size := by rw [hw84]; simp
        clear hw84
        have ges84 : w1.heap.size ≤ V0.heap.size := (hHeld).size
        refine hK.out _ _ ?tu84 (fun hs84 => ?_)
        case tu84 => exact keepS _ _ hHeld hbs84
        clear hK K
        refine stepG2 2 8 (by kernel_rfl) ?_ ?_
        · refine StepOf.mk 2 (by simp only [List.getElem?_toArray, List.getElem?_cons_succ, List.getElem?_cons_zero]; rfl) (fun K hK => ?_)
          go_simp
          refine (mulg (gm x y) z0 cp cz cq Hcp Hcz Hcq (gm_length x y) HZ0.out _).mono ?_
          rintro e ws85 ⟨rfl, hbs85⟩
          have szs85 := hbs85.size
          refine hK.out _ _ ?tu85 (fun hs85 => ?_)
          case tu85 => exact keepS _ _ hs84 hbs85
          clear hK K
          have nb9_85 := nbs84.below hbs85 nbs84.lt
          refine stepG2 6 8 (by kernel_rfl) ?_ ?_
          · refine StepOf.mk 6 (by simp only [List.getElem?_toArray, List.getElem?_cons_succ, List.getElem?_cons_zero]; rfl) (fun K hK => ?_)
            go_simp
            refine (mulg y z0 cy cz cyz Hcy Hcz Hcyz HY.out HZ0.out _).mono ?_
            rintro e ws86 ⟨rfl, hbs86⟩
            have szs86 := hbs86.size
            refine hK.out _ _ ?tu86 (fun hs86 => ?_)
            case tu86 => exact keepS _ _ hs85 hbs86
            clear hK K
            have nb9_86 := nb9_85.below hbs86 nb9_85.lt
            refine stepG2 7 8 (by kernel_rfl) ?_ ?_
            · refine StepOf.mk 7 (by simp only [List.getElem?_toArray, List.getElem?_cons_succ, List.getElem?_cons_zero]; rfl) (fun K hK => ?_)
              go_simp
              refine (mulg x (gm y z0) cx cyz cq Hcx Hcyz Hcq' HX.out (gm_length y z0) _).mono ?_
              rintro e ws87 ⟨rfl, hbs87⟩
              have szs87 := hbs87.size
              refine hK.out _ _ ?tu87 (fun hs87 => ?_)
              case tu87 => exact keepS _ _ hs86 hbs87
              clear hK K
              have nb9_87 := nb9_86.below hbs87 nb9_86.lt
              refine stepG 8 (by kernel_rfl) (by simp only [List.getElem?_toArray, List.getElem?_cons_succ, List.getElem?_cons_zero]; rfl) (fun K hK => ?_)
              go_simp
              obtain ⟨ws88, hw88⟩ : ∃ wx : World, wx = ws87.alloc (.cells z.toArray 22) := ⟨_, rfl⟩
              rw [← hw88]
              have hbs88 : Below ws87.heap.size ws87 ws88 := by rw [hw88]; exact below_new _ _
              have nbs88 : Blk ws88 ws87.heap.size 22 z.toArray := by rw [hw88]; exact Blk.new _ _ _
              have szs88 : ws87.heap.size < ws88.heap.size := by rw [hw88]; simp
              clear hw88
              have ges88 : w1.heap.size ≤ ws87.heap.size := (hs87).size
              refine hK.out _ _ ?tu88 (fun hs88 => ?_)
              case tu88 => exact keepS _ _ hs87 hbs88
              clear hK K
              have nb9_88 := nb9_87.below hbs88 nb9_87.lt
              refine stepG 10 (by kernel_rfl) (by simp only [List.getElem?_toArray, List.getElem?_cons_succ, List.getElem?_cons_zero]; rfl) (fun K hK => ?_)
              refine step_store_blk rfl 22 (.tmp 9) (.tmp 22) rfl rfl rfl nbs88 (by rw [lq.out, lz.out]) (by rw [lq.out]; exact infoA16) oneq.out ?_
              intro wa hka hga
              refine hK.out _ _ ?ts68 (fun hHeld => ?_)
              case ts68 => ((try dsimp only); exact (hs88).grown hga (hs88).size (by intro k hk; simp at hk; omega))
              clear hK K
              have hkb := (nb9_88).keep_grown hga (by simp; omega)
              have hSa := hHeld
              refine stepG 11 (by kernel_rfl) (by simp only [List.getElem?_toArray, List.getElem?_cons_succ, List.getElem?_cons_zero]; rfl) (fun K hK => ?_)
              refine step_store_blk rfl 22 (.tmp 10) (.tmp 27) rfl rfl rfl hkb (by rw [lq.out, lz.out]) (by rw [lq.out]; exact infoA16) oneq.out ?_
              intro wb hkb2 hgb
              refine hK.out _ _ ?ts69 (fun hHeld => ?_)
              case ts69 => ((try dsimp only); exact hSa.grown hgb hSa.size (by intro k hk; simp at hk; omega))
              clear hK K
              have hka2 := hka.keep_grown hgb (by simp; omega)
              refine doneG (by kernel_rfl) ?_ _
              go_wp2_with fail
              go_meet
              exact ⟨_, _, rfl, rfl, hka2, hkb2, hHeld⟩
            · refine StepOf.mk 8 (by simp only [List.getElem?_toArray, List.getElem?_cons_succ, List.getElem?_cons_zero]; rfl) (fun K hK => ?_)
              go_simp
              obtain ⟨ws89, hw89⟩ : ∃ wx : World, wx = ws86.alloc (.cells z.toArray 22) := ⟨_, rfl⟩
              rw [← hw89]
              have hbs89 : Below ws86.heap.size ws86 ws89 := by rw [hw89]; exact below_new _ _
              have nbs89 : Blk ws89 ws86.heap.size 22 z.toArray := by rw [hw89]; exact Blk.new _ _ _
              have szs89 : ws86.heap.size < ws89.heap.size := by rw [hw89]; simp
              clear hw89
              have ges89 : w1.heap.size ≤ ws86.heap.size := (hs86).size
              refine hK.out _ _ ?tu89 (fun hs89 => ?_)
              case tu89 => exact keepS _ _ hs86 hbs89
              clear hK K
              have nb9_89 := nb9_86.below hbs89 nb9_86.lt
              refine stepG 7 (by kernel_rfl) (by simp only [List.getElem?_toArray, List.getElem?_cons_succ, List.getElem?_cons_zero]; rfl) (fun K hK => ?_)
              go_simp
              refine (mulg x (gm y z0) cx cyz cq Hcx Hcyz Hcq' HX.out (gm_length y z0) _).mono ?_
              rintro e ws90 ⟨rfl, hbs90⟩
              have szs90 := hbs90.size
              refine hK.out _ _ ?tu90 (fun hs90 => ?_)
              case tu90 => exact keepS _ _ hs89 hbs90
              clear hK K
              have nb9_90 := nb9_89.below hbs90 nb9_89.lt
              have nb8_90 := nbs89.below hbs90 nbs89.lt
              refine stepG 10 (by kernel_rfl) (by simp only [List.getElem?_toArray, List.getElem?_cons_succ, List.getElem?_cons_zero]; rfl) (fun K hK => ?_)
              refine step_store_blk rfl 22 (.tmp 9) (.tmp 22) rfl rfl rfl nb8_90 (by rw [lq.out, lz.out]) (by rw [lq.out]; exact infoA16) oneq.out ?_
              intro wa hka hga
              refine hK.out _ _ ?ts70 (fun hHeld => ?_)
              case ts70 => ((try dsimp only); exact (hs90).grown hga (hs90).size (by intro k hk; simp at hk; omega))
              clear hK K
              have hkb := (nb9_90).keep_grown hga (by simp; omega)
              have hSa := hHeld
              refine stepG 11 (by kernel_rfl) (by simp only [List.getElem?_toArray, List.getElem?_cons_succ, List.getElem?_cons_zero]; rfl) (fun K hK => ?_)
              refine step_store_blk rfl 22 (.tmp 10) (.tmp 27) rfl rfl rfl hkb (by rw [lq.out, lz.out]) (by rw [lq.out]; exact infoA16) oneq.out ?_
              intro wb hkb2 hgb
              refine hK.out _ _ ?ts71 (fun hHeld => ?_)
              case ts71 => ((try dsimp only); exact hSa.grown hgb hSa.size (by intro k hk; simp at hk; omega))
              clear hK K
              have hka2 := hka.keep_grown hgb (by simp; omega)
              refine doneG (by kernel_rfl) ?_ _
              go_wp2_with fail
              go_meet
              exact ⟨_, _, rfl, rfl, hka2, hkb2, hHeld⟩
          · refine StepOf.mk 8 (by simp only [List.getElem?_toArray, List.getElem?_cons_succ, List.getElem?_cons_zero]; rfl) (fun K hK => ?_)
            go_simp
            obtain ⟨ws91, hw91⟩ : ∃ wx : World, wx = ws85.alloc (.cells z.toArray 22) := ⟨_, rfl⟩
            rw [← hw91]
            have hbs91 : Below ws85.heap.size ws85 ws91 := by rw [hw91]; exact below_new _ _
            have nbs91 : Blk ws91 ws85.heap.size 22 z.toArray := by rw [hw91]; exact Blk.new _ _ _
            have szs91 : ws85.heap.size < ws91.heap.size := by rw [hw91]; simp
            clear hw91
            have ges91 : w1.heap.size ≤ ws85.heap.size := (hs85).size
            refine hK.out _ _ ?tu91 (fun hs91 => ?_)
            case tu91 => exact keepS _ _ hs85 hbs91
            clear hK K
            have nb9_91 := nb9_85.below hbs91 nb9_85.lt
            refine stepG 6 (by kernel_rfl) (by simp only [List.getElem?_toArray, List.getElem?_cons_succ, List.getElem?_cons_zero]; rfl) (fun K hK => ?_)
            go_simp
            refine (mulg y z0 cy cz cyz Hcy Hcz Hcyz HY.out HZ0.out _).mono ?_
            rintro e ws92 ⟨rfl, hbs92⟩
            have szs92 := hbs92.size
            refine hK.out _ _ ?tu92 (fun hs92 => ?_)
            case tu92 => exact keepS _ _ hs91 hbs92
            clear hK K
            have nb9_92 := nb9_91.below hbs92 nb9_91.lt
            have nb8_92 := nbs91.below hbs92 nbs91.lt
            refine stepG 7 (by kernel_rfl) (by simp only [List.getElem?_toArray, List.getElem?_cons_succ, List.getElem?_cons_zero]; rfl) (fun K hK => ?_)
            go_simp
            refine (mulg x (gm y z0) cx cyz cq Hcx Hcyz Hcq' HX.out (gm_length y z0) _).mono ?_
            rintro e ws93 ⟨rfl, hbs93⟩
            have szs93 := hbs93.size
            refine hK.out _ _ ?tu93 (fun hs93 => ?_)
            case tu93 => exact keepS _ _ hs92 hbs93
            clear hK K
            have nb9_93 := nb9_92.below hbs93 nb9_92.lt
            have nb8_93 := nb8_92.below hbs93 nb8_92.lt
            refine stepG 10 (by kernel_rfl) (by simp only [List.getElem?_toArray, List.getElem?_cons_succ, List.getElem?_cons_zero]; rfl) (fun K hK => ?_)
            refine step_store_blk rfl 22 (.tmp 9) (.tmp 22) rfl rfl rfl nb8_93 (by rw [lq.out, lz.out]) (by rw [lq.out]; exact infoA16) oneq.out ?_
            intro wa hka hga
            refine hK.out _ _ ?ts72 (fun hHeld => ?_)
            case ts72 => ((try dsimp only); exact (hs93).grown hga (hs93).size (by intro k hk; simp at hk; omega))
            clear hK K
            have hkb := (nb9_93).keep_grown hga (by simp; omega)
            have hSa := hHeld
            refine stepG 11 (by kernel_rfl) (by simp only [List.getElem?_toArray, List.getElem?_cons_succ, List.getElem?_cons_zero]; rfl) (fun K hK => ?_)
            refine step_store_blk rfl 22 (.tmp 10) (.tmp 27) rfl rfl rfl hkb (by rw [lq.out, lz.out]) (by rw [lq.out]; exact infoA16) oneq.out ?_
            intro wb hkb2 hgb
            refine hK.out _ _ ?ts73 (fun hHeld => ?_)
            case ts73 => ((try dsimp only); exact hSa.grown hgb hSa.size (by intro k hk; simp at hk; omega))
            clear hK K
            have hka2 := hka.keep_grown hgb (by simp; omega)
            refine doneG (by kernel_rfl) ?_ _
            go_wp2_with fail
            go_meet
            exact ⟨_, _, rfl, rfl, hka2, hkb2, hHeld⟩
        · refine StepOf.mk 8 (by simp only [List.getElem?_toArray, List.getElem?_cons_succ, List.getElem?_cons_zero]; rfl) (fun K hK => ?_)
          go_simp
          obtain ⟨ws94, hw94⟩ : ∃ wx : World, wx = ws84.alloc (.cells z.toArray 22) := ⟨_, rfl⟩
          rw [← hw94]
          have hbs94 : Below ws84.heap.size ws84 ws94 := by rw [hw94]; exact below_new _ _
          have nbs94 : Blk ws94 ws84.heap.size 22 z.toArray := by rw [hw94]; exact Blk.new _ _ _
          have szs94 : ws84.heap.size < ws94.heap.size := by rw [hw94]; simp
          clear hw94
          have ges94 : w1.heap.size ≤ ws84.heap.size := (hs84).size
          refine hK.out _ _ ?tu94 (fun hs94 => ?_)
          case tu94 => exact keepS _ _ hs84 hbs94
          clear hK K
          have nb9_94 := nbs84.below hbs94 nbs84.lt
          refine stepG 2 (by kernel_rfl) (by simp only [List.getElem?_toArray, List.getElem?_cons_succ, List.getElem?_cons_zero]; rfl) (fun K hK => ?_)
          go_simp
          refine (mulg (gm x y) z0 cp cz cq Hcp Hcz Hcq (gm_length x y) HZ0.out _).mono ?_
          rintro e ws95 ⟨rfl, hbs95⟩
          have szs95 := hbs95.size
          refine hK.out _ _ ?tu95 (fun hs95 => ?_)
          case tu95 => exact keepS _ _ hs94 hbs95
          clear hK K
          have nb9_95 := nb9_94.below hbs95 nb9_94.lt
          have nb8_95 := nbs94.below hbs95 nbs94.lt
          refine stepG 6 (by kernel_rfl) (by simp only [List.getElem?_toArray, List.getElem?_cons_succ, List.getElem?_cons_zero]; rfl) (fun K hK => ?_)
          go_simp
          refine (mulg y z0 cy cz cyz Hcy Hcz Hcyz HY.out HZ0.out _).mono ?_
          rintro e ws96 ⟨rfl, hbs96⟩
          have szs96 := hbs96.size
          refine hK.out _ _ ?tu96 (fun hs96 => ?_)
          case tu96 => exact keepS _ _ hs95 hbs96
          clear hK K
          have nb9_96 := nb9_95.below hbs96 nb9_95.lt
          have nb8_96 := nb8_95.below hbs96 nb8_95.lt
          refine stepG 7 (by kernel_rfl) (by simp only [List.getElem?_toArray, List.getElem?_cons_succ, List.getElem?_cons_zero]; rfl) (fun K hK => ?_)
          go_simp
          refine (mulg x (gm y z0) cx cyz cq Hcx Hcyz Hcq' HX.out (gm_length y z0) _).mono ?_
          rintro e ws97 ⟨rfl, hbs97⟩
          have szs97 := hbs97.size
          refine hK.out _ _ ?tu97 (fun hs97 => ?_)
          case tu97 => exact keepS _ _ hs96 hbs97
          clear hK K
          have nb9_97 := nb9_96.below hbs97 nb9_96.lt
          have nb8_97 := nb8_96.below hbs97 nb8_96.lt
          refine stepG 10 (by kernel_rfl) (by simp only [List.getElem?_toArray, List.getElem?_cons_succ, List.getElem?_cons_zero]; rfl) (fun K hK => ?_)
          refine step_store_blk rfl 22 (.tmp 9) (.tmp 22) rfl rfl rfl nb8_97 (by rw [lq.out, lz.out]) (by rw [lq.out]; exact infoA16) oneq.out ?_
          intro wa hka hga
          refine hK.out _ _ ?ts74 (fun hHeld => ?_)
          case ts74 => ((try dsimp only); exact (hs97).grown hga (hs97).size (by intro k hk; simp at hk; omega))
          clear hK K
          have hkb := (nb9_97).keep_grown hga (by simp; omega)
          have hSa := hHeld
          refine stepG 11 (by kernel_rfl) (by simp only [List.getElem?_toArray, List.getElem?_cons_succ, List.getElem?_cons_zero]; rfl) (fun K hK => ?_)
          refine step_store_blk rfl 22 (.tmp 10) (.tmp 27) rfl rfl rfl hkb (by rw [lq.out, lz.out]) (by rw [lq.out]; exact infoA16) oneq.out ?_
          intro wb hkb2 hgb
          refine hK.out _ _ ?ts75 (fun hHeld => ?_)
          case ts75 => ((try dsimp only); exact hSa.grown hgb hSa.size (by intro k hk; simp at hk; omega))
          clear hK K
          have hka2 := hka.keep_grown hgb (by simp; omega)
          refine doneG (by kernel_rfl) ?_ _
          go_wp2_with fail
          go_meet
          exact ⟨_, _, rfl, rfl, hka2, hkb2, hHeld⟩
    case rest =>
      obtain ⟨b9, b10, rfl, rfl, k9, k10, hbw⟩ := hcut
      obtain ⟨w2, rfl⟩ : ∃ w2 : World, w2 = wc := ⟨_, rfl⟩
      have M9 := Lib.hid k9
      have M10 := Lib.hid k10
      have M7 := Lib.hid (L7.out.below hbw L7.out.lt)
      have M8 := Lib.hid (L8.out.below hbw L8.out.lt)
      have MX := Lib.hid (LX.out.below hbw LX.out.lt)
      have MY := Lib.hid (LY.out.below hbw LY.out.lt)
      have MZ := Lib.hid (LZ.out.below hbw LZ.out.lt)
      have MB := Lib.hid (LB.out.trans (hbw.mono (Nat.le_of_lt LX.out.lt)))
      clear k9 k10 hbw
      obtain ⟨cs, Hcs⟩ : ∃ cs, Hid (cs = (gm x (gadd y z0)).map B8) := ⟨_, rfl⟩
      have Hcs' : Hid (cs = (gadd (gm x y) (gm x z0)).map B8) := by rw [← gm_gadd x y z0 HX.out HY.out HZ0.out]; exact Hcs
      obtain ⟨cyp, Hcyp⟩ : ∃ cs, Hid (cs = (gadd y z0).map B8) := ⟨_, rfl⟩
      obtain ⟨cxz, Hcxz⟩ : ∃ cs, Hid (cs = (gm x z0).map B8) := ⟨_, rfl⟩
      have ls := Lib.hid (len16 Hcs (gm_length x _))
      have ones := Lib.hid (one16 Hcs)
      go_upto_region 3 with fail
      go_cut [11] (fun s11 wx => ∃ b11 : Nat, s11 = .pointer (some ⟨b11, 0, none⟩) ∧ Blk wx b11 22 cs.toArray ∧ Below w2.heap.size w2 wx)
      case first =>
        have TR : Hid (∀ wx, Below w2.heap.size w2 wx → Blk wx H 22 cx.toArray ∧ Blk wx (H + 1) 22 cy.toArray ∧ Blk wx (H + 1 + 1) 22 cz.toArray) := fun wx h => ⟨MX.out.below h MX.out.lt, MY.out.below h MY.out.lt, MZ.out.below h MZ.out.lt⟩
        have KS : Hid (∀ wa wb, Below w2.heap.size w2 wa → Below wa.heap.size wa wb → Below w2.heap.size w2 wb) := fun wa wb h hb => h.trans (hb.mono h.size)
        refine region_gate 7 (fun w' => Below w2.heap.size w2 w') (by kernel_rfl) ?th76 (fun hHeld => ?tk76)
        case th76 => ((try dsimp only); exact (Below.refl _ _).drew)
        obtain ⟨V0, hV0⟩ : ∃ V0, V0 = w2.drew := ⟨_, rfl⟩
        rw [← hV0] at hHeld ⊢
        clear hV0
        have keepS := KS.out
        refine' takeV 0 (oi := _) (d := _) (v := _) ?ti77 ?td77 (by kernel_rfl) (by kernel_rfl) (by kernel_rfl) (by kernel_rfl) (by decide) (fun _ _ _ _ _ h => h) ?tg77 ?ty77 (by assumption) ?tr77
        case ti77 => (simp only [List.getElem?_toArray, List.getElem?_cons_succ, List.getElem?_cons_zero]; rfl)
        case td77 => exact rfl
        case tg77 => exact rfl
        case ty77 => (intro w hSw; (try dsimp only at hSw); rw [exec_load_blk 22 (.tmp 3) rfl rfl (TR.out _ hSw).1 _ HU.out rfl (by rw [lx.out]; exact infoA16)])
        simp only [List.setIfInBounds_toArray, List.set_cons_zero, List.set_cons_succ]
        refine' takeV 1 (oi := _) (d := _) (v := _) ?ti78 ?td78 (by kernel_rfl) (by kernel_rfl) (by kernel_rfl) (by kernel_rfl) (by decide) (fun _ _ _ _ _ h => h) ?tg78 ?ty78 (by assumption) ?tr78
        case ti78 => (simp only [List.getElem?_toArray, List.getElem?_cons_succ, List.getElem?_cons_zero]; rfl)
        case td78 => exact rfl
        case tg78 => exact rfl
        case ty78 => (intro w hSw; (try dsimp only at hSw); rw [exec_load_blk 22 (.tmp 4) rfl rfl (TR.out _ hSw).2.1 _ HU.out rfl (by rw [ly.out]; exact infoA16)])
        simp only [List.setIfInBounds_toArray, List.set_cons_zero, List.set_cons_succ]
        refine' takeV 2 (oi := _) (d := _) (v := _) ?ti79 ?td79 (by kernel_rfl) (by kernel_rfl) (by kernel_rfl) (by kernel_rfl) (by decide) (fun _ _ _ _ _ h => h) ?tg79 ?ty79 (by assumption) ?tr79
        case ti79 => (simp only [List.getElem?_toArray, List.getElem?_cons_succ, List.getElem?_cons_zero]; rfl)
        case td79 => exact rfl
        case tg79 => exact rfl
        case ty79 => (intro w hSw; (try dsimp only at hSw); rw [exec_load_blk 22 (.tmp 5) rfl rfl (TR.out _ hSw).2.2 _ HU.out rfl (by rw [lzz.out]; exact infoA16)])
        simp only [List.setIfInBounds_toArray, List.set_cons_zero, List.set_cons_succ]
        refine stepG2 3 5 (by kernel_rfl) ?_ ?_
        · refine StepOf.mk 3 (by simp only [List.getElem?_toArray, List.getElem?_cons_succ, List.getElem?_cons_zero]; rfl) (fun K hK => ?_)
          go_simp
          refine (plus_o y z0 cy cz cyp Hcy Hcz Hcyp HY.out HZ0.out _).mono ?_
          rintro e ws98 ⟨rfl, hbs98⟩
          have szs98 := hbs98.size
          refine hK.out _ _ ?tu98 (fun hs98 => ?_)
          case tu98 => exact keepS _ _ hHeld hbs98
          clear hK K
          refine stepG2 4 5 (by kernel_rfl) ?_ ?_
          · refine StepOf.mk 4 (by simp only [List.getElem?_toArray, List.getElem?_cons_succ, List.getElem?_cons_zero]; rfl) (fun K hK => ?_)
            go_simp
            refine (mulg x (gadd y z0) cx cyp cs Hcx Hcyp Hcs HX.out (gadd_length y z0) _).mono ?_
            rintro e ws99 ⟨rfl, hbs99⟩
            have szs99 := hbs99.size
            refine hK.out _ _ ?tu99 (fun hs99 => ?_)
            case tu99 => exact keepS _ _ hs98 hbs99
            clear hK K
            refine stepG 5 (by kernel_rfl) (by simp only [List.getElem?_toArray, List.getElem?_cons_succ, List.getElem?_cons_zero]; rfl) (fun K hK => ?_)
            go_simp
            obtain ⟨ws100, hw100⟩ : ∃ wx : World, wx = ws99.alloc (.cells z.toArray 22) := ⟨_, rfl⟩
            rw [← hw100]
            have hbs100 : Below ws99.heap.size ws99 ws100 := by rw [hw100]; exact below_new _ _
            have nbs100 : Blk ws100 ws99.heap.size 22 z.toArray := by rw [hw100]; exact Blk.new _ _ _
            have szs100 : ws99.heap.size < ws100.heap.size := by rw [hw100]; simp
            clear hw100
            have ges100 : w2.heap.size ≤ ws99.heap.size := (hs99).size
            refine hK.out _ _ ?tu100 (fun hs100 => ?_)
            case tu100 => exact keepS _ _ hs99 hbs100
            clear hK K
            refine stepG 6 (by kernel_rfl) (by simp only [List.getElem?_toArray, List.getElem?_cons_succ, List.getElem?_cons_zero]; rfl) (fun K hK => ?_)
            refine step_store_blk rfl 22 (.tmp 11) (.tmp 32) rfl rfl rfl nbs100 (by rw [ls.out, lz.out]) (by rw [ls.out]; exact infoA16) ones.out ?_
            intro wa hka hga
            refine hK.out _ _ ?ts80 (fun hHeld => ?_)
            case ts80 => ((try dsimp only); exact (hs100).grown hga (hs100).size (by intro k hk; simp at hk; omega))
            clear hK K
            refine doneG (by kernel_rfl) ?_ _
            go_wp2_with fail
            go_meet
            exact ⟨_, rfl, hka, hHeld⟩
          · refine StepOf.mk 5 (by simp only [List.getElem?_toArray, List.getElem?_cons_succ, List.getElem?_cons_zero]; rfl) (fun K hK => ?_)
            go_simp
            obtain ⟨ws101, hw101⟩ : ∃ wx : World, wx = ws98.alloc (.cells z.toArray 22) := ⟨_, rfl⟩
            rw [← hw101]
            have hbs101 : Below ws98.heap.size ws98 ws101 := by rw [hw101]; exact below_new _ _
            have nbs101 : Blk ws101 ws98.heap.size 22 z.toArray := by rw [hw101]; exact Blk.new _ _ _
            have szs101 : ws98.heap.size < ws101.heap.size := by rw [hw101]; simp
            clear hw101
            have ges101 : w2.heap.size ≤ ws98.heap.size := (hs98).size
            refine hK.out _ _ ?tu101 (fun hs101 => ?_)
            case tu101 => exact keepS _ _ hs98 hbs101
            clear hK K
            refine stepG 4 (by kernel_rfl) (by simp only [List.getElem?_toArray, List.getElem?_cons_succ, List.getElem?_cons_zero]; rfl) (fun K hK => ?_)
            go_simp
            refine (mulg x (gadd y z0) cx cyp cs Hcx Hcyp Hcs HX.out (gadd_length y z0) _).mono ?_
            rintro e ws102 ⟨rfl, hbs102⟩
            have szs102 := hbs102.size
            refine hK.out _ _ ?tu102 (fun hs102 => ?_)
            case tu102 => exact keepS _ _ hs101 hbs102
            clear hK K
            have nb5_102 := nbs101.below hbs102 nbs101.lt
            refine stepG 6 (by kernel_rfl) (by simp only [List.getElem?_toArray, List.getElem?_cons_succ, List.getElem?_cons_zero]; rfl) (fun K hK => ?_)
            refine step_store_blk rfl 22 (.tmp 11) (.tmp 32) rfl rfl rfl nb5_102 (by rw [ls.out, lz.out]) (by rw [ls.out]; exact infoA16) ones.out ?_
            intro wa hka hga
            refine hK.out _ _ ?ts81 (fun hHeld => ?_)
            case ts81 => ((try dsimp only); exact (hs102).grown hga (hs102).size (by intro k hk; simp at hk; omega))
            clear hK K
            refine doneG (by kernel_rfl) ?_ _
            go_wp2_with fail
            go_meet
            exact ⟨_, rfl, hka, hHeld⟩
        · refine StepOf.mk 5 (by simp only [List.getElem?_toArray, List.getElem?_cons_succ, List.getElem?_cons_zero]; rfl) (fun K hK => ?_)
          go_simp
          obtain ⟨ws103, hw103⟩ : ∃ wx : World, wx = V0.alloc (.cells z.toArray 22) := ⟨_, rfl⟩
          rw [← hw103]
          have hbs103 : Below V0.heap.size V0 ws103 := by rw [hw103]; exact below_new _ _
          have nbs103 : Blk ws103 V0.heap.size 22 z.toArray := by rw [hw103]; exact Blk.new _ _ _
          have szs103 : V0.heap.size < ws103.heap.size := by rw [hw103]; simp
          clear hw103
          have ges103 : w2.heap.size ≤ V0.heap.size := (hHeld).size
          refine hK.out _ _ ?tu103 (fun hs103 => ?_)
          case tu103 => exact keepS _ _ hHeld hbs103
          clear hK K
          refine stepG 3 (by kernel_rfl) (by simp only [List.getElem?_toArray, List.getElem?_cons_succ, List.getElem?_cons_zero]; rfl) (fun K hK => ?_)
          go_simp
          refine (plus_o y z0 cy cz cyp Hcy Hcz Hcyp HY.out HZ0.out _).mono ?_
          rintro e ws104 ⟨rfl, hbs104⟩
          have szs104 := hbs104.size
          refine hK.out _ _ ?tu104 (fun hs104 => ?_)
          case tu104 => exact keepS _ _ hs103 hbs104
          clear hK K
          have nb5_104 := nbs103.below hbs104 nbs103.lt
          refine stepG 4 (by kernel_rfl) (by simp only [List.getElem?_toArray, List.getElem?_cons_succ, List.getElem?_cons_zero]; rfl) (fun K hK => ?_)
          go_simp
          refine (mulg x (gadd y z0) cx cyp cs Hcx Hcyp Hcs HX.out (gadd_length y z0) _).mono ?_
          rintro e ws105 ⟨rfl, hbs105⟩
          have szs105 := hbs105.size
          refine hK.out _ _ ?tu105 (fun hs105 => ?_)
          case tu105 => exact keepS _ _ hs104 hbs105
          clear hK K
          have nb5_105 := nb5_104.below hbs105 nb5_104.lt
          refine stepG 6 (by kernel_rfl) (by simp only [List.getElem?_toArray, List.getElem?_cons_succ, List.getElem?_cons_zero]; rfl) (fun K hK => ?_)
          refine step_store_blk rfl 22 (.tmp 11) (.tmp 32) rfl rfl rfl nb5_105 (by rw [ls.out, lz.out]) (by rw [ls.out]; exact infoA16) ones.out ?_
          intro wa hka hga
          refine hK.out _ _ ?ts82 (fun hHeld => ?_)
          case ts82 => ((try dsimp only); exact (hs105).grown hga (hs105).size (by intro k hk; simp at hk; omega))
          clear hK K
          refine doneG (by kernel_rfl) ?_ _
          go_wp2_with fail
          go_meet
          exact ⟨_, rfl, hka, hHeld⟩
      case rest =>
        obtain ⟨b11, rfl, k11, hbw⟩ := hcut
        obtain ⟨w3, rfl⟩ : ∃ w3 : World, w3 = wc := ⟨_, rfl⟩
        have N11 := Lib.hid k11
        have N9 := Lib.hid (M9.out.below hbw M9.out.lt)
        have N10 := Lib.hid (M10.out.below hbw M10.out.lt)
        have N7 := Lib.hid (M7.out.below hbw M7.out.lt)
        have N8 := Lib.hid (M8.out.below hbw M8.out.lt)
        have NX := Lib.hid (MX.out.below hbw MX.out.lt)
        have NY := Lib.hid (MY.out.below hbw MY.out.lt)
        have NZ := Lib.hid (MZ.out.below hbw MZ.out.lt)
        have NB := Lib.hid (MB.out.trans (hbw.mono (Nat.le_of_lt MX.out.lt)))
        clear k11 hbw
        go_upto_region 4 with fail
        go_cut [12] (fun s12 wx => ∃ b12 : Nat, s12 = .pointer (some ⟨b12, 0, none⟩) ∧ Blk wx b12 22 cs.toArray ∧ Below w3.heap.size w3 wx)
        case first =>
          have TR : Hid (∀ wx, Below w3.heap.size w3 wx → Blk wx H 22 cx.toArray ∧ Blk wx b7 22 cp.toArray ∧ Blk wx (H + 1 + 1) 22 cz.toArray) := fun wx h => ⟨NX.out.below h NX.out.lt, N7.out.below h N7.out.lt, NZ.out.below h NZ.out.lt⟩
          have KS : Hid (∀ wa wb, Below w3.heap.size w3 wa → Below wa.heap.size wa wb → Below w3.heap.size w3 wb) := fun wa wb h hb => h.trans (hb.mono h.size)
          refine region_gate 7 (fun w' => Below w3.heap.size w3 w') (by kernel_rfl) ?th83 (fun hHeld => ?tk83)
          case th83 => ((try dsimp only); exact (Below.refl _ _).drew)
          obtain ⟨V0, hV0⟩ : ∃ V0, V0 = w3.drew := ⟨_, rfl⟩
          rw [← hV0] at hHeld ⊢
          clear hV0
          have keepS := KS.out
          refine' takeV 0 (oi := _) (d := _) (v := _) ?ti84 ?td84 (by kernel_rfl) (by kernel_rfl) (by kernel_rfl) (by kernel_rfl) (by decide) (fun _ _ _ _ _ h => h) ?tg84 ?ty84 (by assumption) ?tr84
          case ti84 => (simp only [List.getElem?_toArray, List.getElem?_cons_succ, List.getElem?_cons_zero]; rfl)
          case td84 => exact rfl
          case tg84 => exact rfl
          case ty84 => (intro w hSw; (try dsimp only at hSw); rw [exec_load_blk 22 (.tmp 7) rfl rfl (TR.out _ hSw).2.1 _ HU.out rfl (by rw [lc.out]; exact infoA16)])
          simp only [List.setIfInBounds_toArray, List.set_cons_zero, List.set_cons_succ]
          refine' takeV 1 (oi := _) (d := _) (v := _) ?ti85 ?td85 (by kernel_rfl) (by kernel_rfl) (by kernel_rfl) (by kernel_rfl) (by decide) (fun _ _ _ _ _ h => h) ?tg85 ?ty85 (by assumption) ?tr85
          case ti85 => (simp only [List.getElem?_toArray, List.getElem?_cons_succ, List.getElem?_cons_zero]; rfl)
          case td85 => exact rfl
          case tg85 => exact rfl
          case ty85 => (intro w hSw; (try dsimp only at hSw); rw [exec_load_blk 22 (.tmp 3) rfl rfl (TR.out _ hSw).1 _ HU.out rfl (by rw [lx.out]; exact infoA16)])
          simp only [List.setIfInBounds_toArray, List.set_cons_zero, List.set_cons_succ]
          refine' takeV 2 (oi := _) (d := _) (v := _) ?ti86 ?td86 (by kernel_rfl) (by kernel_rfl) (by kernel_rfl) (by kernel_rfl) (by decide) (fun _ _ _ _ _ h => h) ?tg86 ?ty86 (by assumption) ?tr86
          case ti86 => (simp only [List.getElem?_toArray, List.getElem?_cons_succ, List.getElem?_cons_zero]; rfl)
          case td86 => exact rfl
          case tg86 => exact rfl
          case ty86 => (intro w hSw; (try dsimp only at hSw); rw [exec_load_blk 22 (.tmp 5) rfl rfl (TR.out _ hSw).2.2 _ HU.out rfl (by rw [lzz.out]; exact infoA16)])
          simp only [List.setIfInBounds_toArray, List.set_cons_zero, List.set_cons_succ]
          refine stepG2 3 5 (by kernel_rfl) ?_ ?_
          · refine StepOf.mk 3 (by simp only [List.getElem?_toArray, List.getElem?_cons_succ, List.getElem?_cons_zero]; rfl) (fun K hK => ?_)
            go_simp
            refine (mulg x z0 cx cz cxz Hcx Hcz Hcxz HX.out HZ0.out _).mono ?_
            rintro e ws106 ⟨rfl, hbs106⟩
            have szs106 := hbs106.size
            refine hK.out _ _ ?tu106 (fun hs106 => ?_)
            case tu106 => exact keepS _ _ hHeld hbs106
            clear hK K
            refine stepG2 4 5 (by kernel_rfl) ?_ ?_
            · refine StepOf.mk 4 (by simp only [List.getElem?_toArray, List.getElem?_cons_succ, List.getElem?_cons_zero]; rfl) (fun K hK => ?_)
              go_simp
              refine (plus_o (gm x y) (gm x z0) cp cxz cs Hcp Hcxz Hcs' (gm_length x y) (gm_length x z0) _).mono ?_
              rintro e ws107 ⟨rfl, hbs107⟩
              have szs107 := hbs107.size
              refine hK.out _ _ ?tu107 (fun hs107 => ?_)
              case tu107 => exact keepS _ _ hs106 hbs107
              clear hK K
              refine stepG 5 (by kernel_rfl) (by simp only [List.getElem?_toArray, List.getElem?_cons_succ, List.getElem?_cons_zero]; rfl) (fun K hK => ?_)
              go_simp
              obtain ⟨ws108, hw108⟩ : ∃ wx : World, wx = ws107.alloc (.cells z.toArray 22) := ⟨_, rfl⟩
              rw [← hw108]
              have hbs108 : Below ws107.heap.size ws107 ws108 := by rw [hw108]; exact below_new _ _
              have nbs108 : Blk ws108 ws107.heap.size 22 z.toArray := by rw [hw108]; exact Blk.new _ _ _
              have szs108 : ws107.heap.size < ws108.heap.size := by rw [hw108]; simp
              clear hw108
              have ges108 : w3.heap.size ≤ ws107.heap.size := (hs107).size
              refine hK.out _ _ ?tu108 (fun hs108 => ?_)
              case tu108 => exact keepS _ _ hs107 hbs108
              clear hK K
              refine stepG 6 (by kernel_rfl) (by simp only [List.getElem?_toArray, List.getElem?_cons_succ, List.getElem?_cons_zero]; rfl) (fun K hK => ?_)
              refine step_store_blk rfl 22 (.tmp 12) (.tmp 37) rfl rfl rfl nbs108 (by rw [ls.out, lz.out]) (by rw [ls.out]; exact infoA16) ones.out ?_
              intro wa hka hga
              refine hK.out _ _ ?ts87 (fun hHeld => ?_)
              case ts87 => ((try dsimp only); exact (hs108).grown hga (hs108).size (by intro k hk; simp at hk; omega))
              clear hK K
              refine doneG (by kernel_rfl) ?_ _
              go_wp2_with fail
              go_meet
              exact ⟨_, rfl, hka, hHeld⟩
            · refine StepOf.mk 5 (by simp only [List.getElem?_toArray, List.getElem?_cons_succ, List.getElem?_cons_zero]; rfl) (fun K hK => ?_)
              go_simp
              obtain ⟨ws109, hw109⟩ : ∃ wx : World, wx = ws106.alloc (.cells z.toArray 22) := ⟨_, rfl⟩
              rw [← hw109]
              have hbs109 : Below ws106.heap.size ws106 ws109 := by rw [hw109]; exact below_new _ _
              have nbs109 : Blk ws109 ws106.heap.size 22 z.toArray := by rw [hw109]; exact Blk.new _ _ _
              have szs109 : ws106.heap.size < ws109.heap.size := by rw [hw109]; simp
              clear hw109
              have ges109 : w3.heap.size ≤ ws106.heap.size := (hs106).size
              refine hK.out _ _ ?tu109 (fun hs109 => ?_)
              case tu109 => exact keepS _ _ hs106 hbs109
              clear hK K
              refine stepG 4 (by kernel_rfl) (by simp only [List.getElem?_toArray, List.getElem?_cons_succ, List.getElem?_cons_zero]; rfl) (fun K hK => ?_)
              go_simp
              refine (plus_o (gm x y) (gm x z0) cp cxz cs Hcp Hcxz Hcs' (gm_length x y) (gm_length x z0) _).mono ?_
              rintro e ws110 ⟨rfl, hbs110⟩
              have szs110 := hbs110.size
              refine hK.out _ _ ?tu110 (fun hs110 => ?_)
              case tu110 => exact keepS _ _ hs109 hbs110
              clear hK K
              have nb5_110 := nbs109.below hbs110 nbs109.lt
              refine stepG 6 (by kernel_rfl) (by simp only [List.getElem?_toArray, List.getElem?_cons_succ, List.getElem?_cons_zero]; rfl) (fun K hK => ?_)
              refine step_store_blk rfl 22 (.tmp 12) (.tmp 37) rfl rfl rfl nb5_110 (by rw [ls.out, lz.out]) (by rw [ls.out]; exact infoA16) ones.out ?_
              intro wa hka hga
              refine hK.out _ _ ?ts88 (fun hHeld => ?_)
              case ts88 => ((try dsimp only); exact (hs110).grown hga (hs110).size (by intro k hk; simp at hk; omega))
              clear hK K
              refine doneG (by kernel_rfl) ?_ _
              go_wp2_with fail
              go_meet
              exact ⟨_, rfl, hka, hHeld⟩
          · refine StepOf.mk 5 (by simp only [List.getElem?_toArray, List.getElem?_cons_succ, List.getElem?_cons_zero]; rfl) (fun K hK => ?_)
            go_simp
            obtain ⟨ws111, hw111⟩ : ∃ wx : World, wx = V0.alloc (.cells z.toArray 22) := ⟨_, rfl⟩
            rw [← hw111]
            have hbs111 : Below V0.heap.size V0 ws111 := by rw [hw111]; exact below_new _ _
            have nbs111 : Blk ws111 V0.heap.size 22 z.toArray := by rw [hw111]; exact Blk.new _ _ _
            have szs111 : V0.heap.size < ws111.heap.size := by rw [hw111]; simp
            clear hw111
            have ges111 : w3.heap.size ≤ V0.heap.size := (hHeld).size
            refine hK.out _ _ ?tu111 (fun hs111 => ?_)
            case tu111 => exact keepS _ _ hHeld hbs111
            clear hK K
            refine stepG 3 (by kernel_rfl) (by simp only [List.getElem?_toArray, List.getElem?_cons_succ, List.getElem?_cons_zero]; rfl) (fun K hK => ?_)
            go_simp
            refine (mulg x z0 cx cz cxz Hcx Hcz Hcxz HX.out HZ0.out _).mono ?_
            rintro e ws112 ⟨rfl, hbs112⟩
            have szs112 := hbs112.size
            refine hK.out _ _ ?tu112 (fun hs112 => ?_)
            case tu112 => exact keepS _ _ hs111 hbs112
            clear hK K
            have nb5_112 := nbs111.below hbs112 nbs111.lt
            refine stepG 4 (by kernel_rfl) (by simp only [List.getElem?_toArray, List.getElem?_cons_succ, List.getElem?_cons_zero]; rfl) (fun K hK => ?_)
            go_simp
            refine (plus_o (gm x y) (gm x z0) cp cxz cs Hcp Hcxz Hcs' (gm_length x y) (gm_length x z0) _).mono ?_
            rintro e ws113 ⟨rfl, hbs113⟩
            have szs113 := hbs113.size
            refine hK.out _ _ ?tu113 (fun hs113 => ?_)
            case tu113 => exact keepS _ _ hs112 hbs113
            clear hK K
            have nb5_113 := nb5_112.below hbs113 nb5_112.lt
            refine stepG 6 (by kernel_rfl) (by simp only [List.getElem?_toArray, List.getElem?_cons_succ, List.getElem?_cons_zero]; rfl) (fun K hK => ?_)
            refine step_store_blk rfl 22 (.tmp 12) (.tmp 37) rfl rfl rfl nb5_113 (by rw [ls.out, lz.out]) (by rw [ls.out]; exact infoA16) ones.out ?_
            intro wa hka hga
            refine hK.out _ _ ?ts89 (fun hHeld => ?_)
            case ts89 => ((try dsimp only); exact (hs113).grown hga (hs113).size (by intro k hk; simp at hk; omega))
            clear hK K
            refine doneG (by kernel_rfl) ?_ _
            go_wp2_with fail
            go_meet
            exact ⟨_, rfl, hka, hHeld⟩
        case rest =>
          obtain ⟨b12, rfl, k12, hbw⟩ := hcut
          obtain ⟨w4, rfl⟩ : ∃ w4 : World, w4 = wc := ⟨_, rfl⟩
          have P12 := Lib.hid k12
          have P11 := Lib.hid (N11.out.below hbw N11.out.lt)
          have P9 := Lib.hid (N9.out.below hbw N9.out.lt)
          have P10 := Lib.hid (N10.out.below hbw N10.out.lt)
          have P7 := Lib.hid (N7.out.below hbw N7.out.lt)
          have P8 := Lib.hid (N8.out.below hbw N8.out.lt)
          have PX := Lib.hid (NX.out.below hbw NX.out.lt)
          have PY := Lib.hid (NY.out.below hbw NY.out.lt)
          have PB := Lib.hid (NB.out.trans (hbw.mono (Nat.le_of_lt NX.out.lt)))
          clear k12 hbw
          have Hze : Hid (z = el0.map B8) := HZ
          have Hze' : Hid (z = (gm x el0).map B8) := by rw [gm_zero]; exact Hze
          have onez := Lib.hid (one16 Hze)
          obtain ⟨c1, Hc1⟩ : ∃ cs, Hid (cs = el1.map B8) := ⟨_, rfl⟩
          have Hx1 : Hid (cx = (gm x el1).map B8) := by rw [gm_one x HX.out]; exact Hcx
          go_wp2_with (first
            | (with_reducible refine wpList_load_blk rfl 22 (.tmp 3) rfl rfl PX.out _ HU.out rfl (by rw [lx.out]; exact infoA16) ?_)
            | (go_at_call 14; refine (mulg x el0 cx z z Hcx Hze Hze' HX.out rfl _).mono ?_; rintro e w5 ⟨rfl, hb5⟩)
            | (with_reducible refine wpList_store_blk rfl 22 (.tmp 13) (.tmp 40) rfl rfl rfl (Blk.new w5 22 z.toArray) rfl (by rw [lz.out]; exact infoA16) onez.out ?_; intro w6 hk6 hg6))
          have hb6 : Below w4.heap.size w4 w6 := (hb5.trans ((below_new w5 _).mono hb5.size)).grown hg6 (by have := hb5.size; simp; omega) (by intro k hk; simp at hk; have := hb5.size; omega)
          obtain ⟨b13, hb13⟩ : ∃ b, w5.heap.size = b := ⟨_, rfl⟩
          rw [hb13] at hk6 ⊢
          have TR : Hid (∀ wx, Below w6.heap.size w6 wx → Blk wx b7 22 cp.toArray ∧ Blk wx b8 22 cp.toArray ∧ Blk wx b9 22 cq.toArray ∧ Blk wx b10 22 cq.toArray ∧ Blk wx b11 22 cs.toArray ∧ Blk wx b12 22 cs.toArray ∧ Blk wx b13 22 z.toArray ∧ Blk wx H 22 cx.toArray ∧ Blk wx (H + 1) 22 cy.toArray ∧ Below H w wx) := fun wx h => by
            have h4 : Below w4.heap.size w4 wx := hb6.trans (h.mono hb6.size)
            exact ⟨P7.out.below h4 P7.out.lt, P8.out.below h4 P8.out.lt, P9.out.below h4 P9.out.lt, P10.out.below h4 P10.out.lt, P11.out.below h4 P11.out.lt, P12.out.below h4 P12.out.lt, hk6.below h hk6.lt, PX.out.below h4 PX.out.lt, PY.out.below h4 PY.out.lt, PB.out.trans (h4.mono (Nat.le_of_lt PX.out.lt))⟩
          have KS : Hid (∀ wa wb, Below w6.heap.size w6 wa → Below wa.heap.size wa wb → Below w6.heap.size w6 wb) := fun wa wb h hb => h.trans (hb.mono h.size)
          have HR6 : Hid (Below w6.heap.size w6 w6.drew) := (Below.refl _ _).drew
          clear hb5 hk6 hg6 hb6 hb13
          have e1 := eqcs _ cp Hcp (gm_length x y)
          have e2 := eqcs _ cq Hcq (gm_length _ z0)
          have e3 := eqcs _ cs Hcs (gm_length x _)
          have e4 := eqcs _ cx Hcx HX.out
          have e5 := eqcs _ z Hze rfl
          have ep : ∀ W, (Op.equalIn 10000 22 (.agg cp.toArray) (.agg z.toArray)).run Try.prog W = .ok (gm x y == el0) W := fun W => by
            have := eq16 (gm x y) el0 (gm_length x y) rfl W
            rw [A16, A16, ← Hcp.out, ← Hze.out] at this
            exact this
          have ex : ∀ W, (Op.equalIn 10000 22 (.agg cx.toArray) (.agg z.toArray)).run Try.prog W = .ok (x == el0) W := fun W => by
            have := eq16 x el0 HX.out rfl W
            rw [A16, A16, ← Hcx.out, ← Hze.out] at this
            exact this
          have ey : ∀ W, (Op.equalIn 10000 22 (.agg cy.toArray) (.agg z.toArray)).run Try.prog W = .ok (y == el0) W := fun W => by
            have := eq16 y el0 HY.out rfl W
            rw [A16, A16, ← Hcy.out, ← Hze.out] at this
            exact this
          have hcase : ((gm x y == el0) = false) ∨ ((gm x y == el0) = true ∧ (x == el0) = true) ∨ ((gm x y == el0) = true ∧ (x == el0) = false ∧ (y == el0) = true) := by
            cases h1 : (gm x y == el0) with
            | false => exact .inl rfl
            | true =>
              cases h2 : (x == el0) with
              | true => exact .inr (.inl ⟨rfl, rfl⟩)
              | false =>
                refine .inr (.inr ⟨rfl, rfl, ?_⟩)
                rcases gm_none x y HX.out HY.out (by simpa using h1) with h | h
                · rw [h, beq_self_eq_true] at h2; cases h2
                · rw [h, beq_self_eq_true]
          rcases hcase with h1 | ⟨h1, h2⟩ | ⟨h1, h2, h3⟩
          · simp only [h1] at ep
            clear h1 ex ey
            go_wp2_with fail
            refine region_gate 44 (fun w' => Below w6.heap.size w6 w') (by kernel_rfl) ?th90 (fun hHeld => ?tk90)
            case th90 => ((try dsimp only); exact HR6.out)
            refine' takeV 0 (oi := _) (d := _) (v := _) ?ti91 ?td91 (by kernel_rfl) (by kernel_rfl) (by kernel_rfl) (by kernel_rfl) (by decide) (fun _ _ _ _ _ h => h) ?tg91 ?ty91 (by assumption) ?tr91
            case ti91 => (simp only [List.getElem?_toArray, List.getElem?_cons_succ, List.getElem?_cons_zero]; rfl)
            case td91 => exact rfl
            case tg91 => exact rfl
            case ty91 => (intro w hSw; (try dsimp only at hSw); rw [exec_load_blk 22 (.tmp 7) rfl rfl (TR.out _ hSw).1 _ HU.out rfl (by rw [lc.out]; exact infoA16)])
            simp only [List.setIfInBounds_toArray, List.set_cons_zero, List.set_cons_succ]
            refine' takeV 1 (oi := _) (d := _) (v := _) ?ti92 ?td92 (by kernel_rfl) (by kernel_rfl) (by kernel_rfl) (by kernel_rfl) (by decide) (fun _ _ _ _ _ h => h) ?tg92 ?ty92 (by assumption) ?tr92
            case ti92 => (simp only [List.getElem?_toArray, List.getElem?_cons_succ, List.getElem?_cons_zero]; rfl)
            case td92 => exact rfl
            case tg92 => exact rfl
            case ty92 => (intro w hSw; (try dsimp only at hSw); rw [exec_load_blk 22 (.tmp 8) rfl rfl (TR.out _ hSw).2.1 _ HU.out rfl (by rw [lc.out]; exact infoA16)])
            simp only [List.setIfInBounds_toArray, List.set_cons_zero, List.set_cons_succ]
            refine' takeV 2 (oi := _) (d := _) (v := _) ?ti93 ?td93 (by kernel_rfl) (by kernel_rfl) (by kernel_rfl) (by kernel_rfl) (by decide) (fun _ _ _ _ _ h => h) ?tg93 ?ty93 (by assumption) ?tr93
            case ti93 => (simp only [List.getElem?_toArray, List.getElem?_cons_succ, List.getElem?_cons_zero]; rfl)
            case td93 => exact rfl
            case tg93 => exact rfl
            case ty93 => (intro w hSw; (try dsimp only at hSw); go_split_ands; go_simp; try with_reducible rfl)
            simp only [List.setIfInBounds_toArray, List.set_cons_zero, List.set_cons_succ]
            refine' takeV 3 (oi := _) (d := _) (v := _) ?ti94 ?td94 (by kernel_rfl) (by kernel_rfl) (by kernel_rfl) (by kernel_rfl) (by decide) (fun _ _ _ _ _ h => h) ?tg94 ?ty94 (by assumption) ?tr94
            case ti94 => (simp only [List.getElem?_toArray, List.getElem?_cons_succ, List.getElem?_cons_zero]; rfl)
            case td94 => exact rfl
            case tg94 => exact rfl
            case ty94 => (intro w hSw; (try dsimp only at hSw); go_split_ands; go_simp; try with_reducible rfl)
            simp only [List.setIfInBounds_toArray, List.set_cons_zero, List.set_cons_succ]
            refine' takeVg 4 (oi := _) (d := _) (v := _) ?ti95 ?td95 (by kernel_rfl) (by kernel_rfl) (by kernel_rfl) (by kernel_rfl) (by decide) (fun _ _ _ _ _ h => h) ?tg95 ?ty95 (by assumption) ?tr95
            case ti95 => (simp only [List.getElem?_toArray, List.getElem?_cons_succ, List.getElem?_cons_zero]; rfl)
            case td95 => exact rfl
            case tg95 => exact rfl
            case ty95 => (intro w hSw; (try dsimp only at hSw); rw [exec_load_blk 22 (.tmp 9) rfl rfl (TR.out _ hSw).2.2.1 _ HU.out rfl (by rw [lq.out]; exact infoA16)])
            simp only [List.setIfInBounds_toArray, List.set_cons_zero, List.set_cons_succ]
            refine' takeVg 5 (oi := _) (d := _) (v := _) ?ti96 ?td96 (by kernel_rfl) (by kernel_rfl) (by kernel_rfl) (by kernel_rfl) (by decide) (fun _ _ _ _ _ h => h) ?tg96 ?ty96 (by assumption) ?tr96
            case ti96 => (simp only [List.getElem?_toArray, List.getElem?_cons_succ, List.getElem?_cons_zero]; rfl)
            case td96 => exact rfl
            case tg96 => exact rfl
            case ty96 => (intro w hSw; (try dsimp only at hSw); rw [exec_load_blk 22 (.tmp 10) rfl rfl (TR.out _ hSw).2.2.2.1 _ HU.out rfl (by rw [lq.out]; exact infoA16)])
            simp only [List.setIfInBounds_toArray, List.set_cons_zero, List.set_cons_succ]
            refine' takeVg 6 (oi := _) (d := _) (v := _) ?ti97 ?td97 (by kernel_rfl) (by kernel_rfl) (by kernel_rfl) (by kernel_rfl) (by decide) (fun _ _ _ _ _ h => h) ?tg97 ?ty97 (by assumption) ?tr97
            case ti97 => (simp only [List.getElem?_toArray, List.getElem?_cons_succ, List.getElem?_cons_zero]; rfl)
            case td97 => exact rfl
            case tg97 => exact rfl
            case ty97 => (intro w hSw; (try dsimp only at hSw); go_split_ands; go_simp; try with_reducible rfl)
            simp only [List.setIfInBounds_toArray, List.set_cons_zero, List.set_cons_succ]
            refine' takeV 7 (oi := _) (d := _) (v := _) ?ti98 ?td98 (by kernel_rfl) (by kernel_rfl) (by kernel_rfl) (by kernel_rfl) (by decide) (fun _ _ _ _ _ h => h) ?tg98 ?ty98 (by assumption) ?tr98
            case ti98 => (simp only [List.getElem?_toArray, List.getElem?_cons_succ, List.getElem?_cons_zero]; rfl)
            case td98 => exact rfl
            case tg98 => exact rfl
            case ty98 => (intro w hSw; (try dsimp only at hSw); go_split_ands; go_simp; try with_reducible rfl)
            simp only [List.setIfInBounds_toArray, List.set_cons_zero, List.set_cons_succ]
            refine' takeV 8 (oi := _) (d := _) (v := _) ?ti99 ?td99 (by kernel_rfl) (by kernel_rfl) (by kernel_rfl) (by kernel_rfl) (by decide) (fun _ _ _ _ _ h => h) ?tg99 ?ty99 (by assumption) ?tr99
            case ti99 => (simp only [List.getElem?_toArray, List.getElem?_cons_succ, List.getElem?_cons_zero]; rfl)
            case td99 => exact rfl
            case tg99 => exact rfl
            case ty99 => (intro w hSw; (try dsimp only at hSw); go_split_ands; go_simp; try with_reducible rfl)
            simp only [List.setIfInBounds_toArray, List.set_cons_zero, List.set_cons_succ]
            refine' takeVg 9 (oi := _) (d := _) (v := _) ?ti100 ?td100 (by kernel_rfl) (by kernel_rfl) (by kernel_rfl) (by kernel_rfl) (by decide) (fun _ _ _ _ _ h => h) ?tg100 ?ty100 (by assumption) ?tr100
            case ti100 => (simp only [List.getElem?_toArray, List.getElem?_cons_succ, List.getElem?_cons_zero]; rfl)
            case td100 => exact rfl
            case tg100 => exact rfl
            case ty100 => (intro w hSw; (try dsimp only at hSw); rw [exec_load_blk 22 (.tmp 11) rfl rfl (TR.out _ hSw).2.2.2.2.1 _ HU.out rfl (by rw [ls.out]; exact infoA16)])
            simp only [List.setIfInBounds_toArray, List.set_cons_zero, List.set_cons_succ]
            refine' takeVg 10 (oi := _) (d := _) (v := _) ?ti101 ?td101 (by kernel_rfl) (by kernel_rfl) (by kernel_rfl) (by kernel_rfl) (by decide) (fun _ _ _ _ _ h => h) ?tg101 ?ty101 (by assumption) ?tr101
            case ti101 => (simp only [List.getElem?_toArray, List.getElem?_cons_succ, List.getElem?_cons_zero]; rfl)
            case td101 => exact rfl
            case tg101 => exact rfl
            case ty101 => (intro w hSw; (try dsimp only at hSw); rw [exec_load_blk 22 (.tmp 12) rfl rfl (TR.out _ hSw).2.2.2.2.2.1 _ HU.out rfl (by rw [ls.out]; exact infoA16)])
            simp only [List.setIfInBounds_toArray, List.set_cons_zero, List.set_cons_succ]
            refine' takeVg 11 (oi := _) (d := _) (v := _) ?ti102 ?td102 (by kernel_rfl) (by kernel_rfl) (by kernel_rfl) (by kernel_rfl) (by decide) (fun _ _ _ _ _ h => h) ?tg102 ?ty102 (by assumption) ?tr102
            case ti102 => (simp only [List.getElem?_toArray, List.getElem?_cons_succ, List.getElem?_cons_zero]; rfl)
            case td102 => exact rfl
            case tg102 => exact rfl
            case ty102 => (intro w hSw; (try dsimp only at hSw); go_split_ands; go_simp; try with_reducible rfl)
            simp only [List.setIfInBounds_toArray, List.set_cons_zero, List.set_cons_succ]
            refine' takeV 12 (oi := _) (d := _) (v := _) ?ti103 ?td103 (by kernel_rfl) (by kernel_rfl) (by kernel_rfl) (by kernel_rfl) (by decide) (fun _ _ _ _ _ h => h) ?tg103 ?ty103 (by assumption) ?tr103
            case ti103 => (simp only [List.getElem?_toArray, List.getElem?_cons_succ, List.getElem?_cons_zero]; rfl)
            case td103 => exact rfl
            case tg103 => exact rfl
            case ty103 => (intro w hSw; (try dsimp only at hSw); go_split_ands; go_simp; try with_reducible rfl)
            simp only [List.setIfInBounds_toArray, List.set_cons_zero, List.set_cons_succ]
            refine' takeV 13 (oi := _) (d := _) (v := _) ?ti104 ?td104 (by kernel_rfl) (by kernel_rfl) (by kernel_rfl) (by kernel_rfl) (by decide) (fun _ _ _ _ _ h => h) ?tg104 ?ty104 (by assumption) ?tr104
            case ti104 => (simp only [List.getElem?_toArray, List.getElem?_cons_succ, List.getElem?_cons_zero]; rfl)
            case td104 => exact rfl
            case tg104 => exact rfl
            case ty104 => (intro w hSw; (try dsimp only at hSw); go_split_ands; go_simp; try with_reducible rfl)
            simp only [List.setIfInBounds_toArray, List.set_cons_zero, List.set_cons_succ]
            refine' takeVg 14 (oi := _) (d := _) (v := _) ?ti105 ?td105 (by kernel_rfl) (by kernel_rfl) (by kernel_rfl) (by kernel_rfl) (by decide) (fun _ _ _ _ _ h => h) ?tg105 ?ty105 (by assumption) ?tr105
            case ti105 => (simp only [List.getElem?_toArray, List.getElem?_cons_succ, List.getElem?_cons_zero]; rfl)
            case td105 => exact rfl
            case tg105 => exact rfl
            case ty105 => (intro w hSw; (try dsimp only at hSw); rw [exec_load_blk 22 (.tmp 3) rfl rfl (TR.out _ hSw).2.2.2.2.2.2.2.1 _ HU.out rfl (by rw [lx.out]; exact infoA16)])
            simp only [List.setIfInBounds_toArray, List.set_cons_zero, List.set_cons_succ]
            refine' takeVg 17 (oi := _) (d := _) (v := _) ?ti106 ?td106 (by kernel_rfl) (by kernel_rfl) (by kernel_rfl) (by kernel_rfl) (by decide) (fun _ _ _ _ _ h => h) ?tg106 ?ty106 (by assumption) ?tr106
            case ti106 => (simp only [List.getElem?_toArray, List.getElem?_cons_succ, List.getElem?_cons_zero]; rfl)
            case td106 => exact rfl
            case tg106 => exact rfl
            case ty106 => (intro w hSw; (try dsimp only at hSw); rw [exec_load_blk 22 (.tmp 3) rfl rfl (TR.out _ hSw).2.2.2.2.2.2.2.1 _ HU.out rfl (by rw [lx.out]; exact infoA16)])
            simp only [List.setIfInBounds_toArray, List.set_cons_zero, List.set_cons_succ]
            refine stepG 15 (by kernel_rfl) (by simp only [List.getElem?_toArray, List.getElem?_cons_succ, List.getElem?_cons_zero]; rfl) (fun K hK => ?_)
            go_simp
            refine (one_any c1 Hc1 _).mono ?_
            rintro e wq1 ⟨rfl, hq1⟩
            refine hK.out _ _ ?ts107 (fun hHeld => ?_)
            case ts107 => ((try dsimp only); exact KS.out _ _ (by assumption) hq1)
            clear hK K
            refine stepG 16 (by kernel_rfl) (by simp only [List.getElem?_toArray, List.getElem?_cons_succ, List.getElem?_cons_zero]; rfl) (fun K hK => ?_)
            go_simp
            refine (mulg x el1 cx c1 cx Hcx Hc1 Hx1 HX.out rfl _).mono ?_
            rintro e wq2 ⟨rfl, hq2⟩
            refine hK.out _ _ ?ts108 (fun hHeld => ?_)
            case ts108 => ((try dsimp only); exact KS.out _ _ (by assumption) hq2)
            clear hK K
            refine' takeVg 18 (oi := _) (d := _) (v := _) ?ti109 ?td109 (by kernel_rfl) (by kernel_rfl) (by kernel_rfl) (by kernel_rfl) (by decide) (fun _ _ _ _ _ h => h) ?tg109 ?ty109 (by assumption) ?tr109
            case ti109 => (simp only [List.getElem?_toArray, List.getElem?_cons_succ, List.getElem?_cons_zero]; rfl)
            case td109 => exact rfl
            case tg109 => exact rfl
            case ty109 => (intro w hSw; (try dsimp only at hSw); go_split_ands; go_simp; try with_reducible rfl)
            simp only [List.setIfInBounds_toArray, List.set_cons_zero, List.set_cons_succ]
            refine' takeV 19 (oi := _) (d := _) (v := _) ?ti110 ?td110 (by kernel_rfl) (by kernel_rfl) (by kernel_rfl) (by kernel_rfl) (by decide) (fun _ _ _ _ _ h => h) ?tg110 ?ty110 (by assumption) ?tr110
            case ti110 => (simp only [List.getElem?_toArray, List.getElem?_cons_succ, List.getElem?_cons_zero]; rfl)
            case td110 => exact rfl
            case tg110 => exact rfl
            case ty110 => (intro w hSw; (try dsimp only at hSw); go_split_ands; go_simp; try with_reducible rfl)
            simp only [List.setIfInBounds_toArray, List.set_cons_zero, List.set_cons_succ]
            refine' takeV 20 (oi := _) (d := _) (v := _) ?ti111 ?td111 (by kernel_rfl) (by kernel_rfl) (by kernel_rfl) (by kernel_rfl) (by decide) (fun _ _ _ _ _ h => h) ?tg111 ?ty111 (by assumption) ?tr111
            case ti111 => (simp only [List.getElem?_toArray, List.getElem?_cons_succ, List.getElem?_cons_zero]; rfl)
            case td111 => exact rfl
            case tg111 => exact rfl
            case ty111 => (intro w hSw; (try dsimp only at hSw); go_split_ands; go_simp; try with_reducible rfl)
            simp only [List.setIfInBounds_toArray, List.set_cons_zero, List.set_cons_succ]
            refine' takeVg 21 (oi := _) (d := _) (v := _) ?ti112 ?td112 (by kernel_rfl) (by kernel_rfl) (by kernel_rfl) (by kernel_rfl) (by decide) (fun _ _ _ _ _ h => h) ?tg112 ?ty112 (by assumption) ?tr112
            case ti112 => (simp only [List.getElem?_toArray, List.getElem?_cons_succ, List.getElem?_cons_zero]; rfl)
            case td112 => exact rfl
            case tg112 => exact rfl
            case ty112 => (intro w hSw; (try dsimp only at hSw); rw [exec_load_blk 22 (.tmp 13) rfl rfl (TR.out _ hSw).2.2.2.2.2.2.1 _ HU.out rfl (by rw [lz.out]; exact infoA16)])
            simp only [List.setIfInBounds_toArray, List.set_cons_zero, List.set_cons_succ]
            refine' takeVg 22 (oi := _) (d := _) (v := _) ?ti113 ?td113 (by kernel_rfl) (by kernel_rfl) (by kernel_rfl) (by kernel_rfl) (by decide) (fun _ _ _ _ _ h => h) ?tg113 ?ty113 (by assumption) ?tr113
            case ti113 => (simp only [List.getElem?_toArray, List.getElem?_cons_succ, List.getElem?_cons_zero]; rfl)
            case td113 => exact rfl
            case tg113 => exact rfl
            case ty113 => (intro w hSw; (try dsimp only at hSw); go_split_ands; go_simp; try with_reducible rfl)
            simp only [List.setIfInBounds_toArray, List.set_cons_zero, List.set_cons_succ]
            refine' takeVg 23 (oi := _) (d := _) (v := _) ?ti114 ?td114 (by kernel_rfl) (by kernel_rfl) (by kernel_rfl) (by kernel_rfl) (by decide) (fun _ _ _ _ _ h => h) ?tg114 ?ty114 (by assumption) ?tr114
            case ti114 => (simp only [List.getElem?_toArray, List.getElem?_cons_succ, List.getElem?_cons_zero]; rfl)
            case td114 => exact rfl
            case tg114 => exact rfl
            case ty114 => (intro w hSw; (try dsimp only at hSw); go_split_ands; go_simp; try with_reducible rfl)
            simp only [List.setIfInBounds_toArray, List.set_cons_zero, List.set_cons_succ]
            refine' takeV 24 (oi := _) (d := _) (v := _) ?ti115 ?td115 (by kernel_rfl) (by kernel_rfl) (by kernel_rfl) (by kernel_rfl) (by decide) (fun _ _ _ _ _ h => h) ?tg115 ?ty115 (by assumption) ?tr115
            case ti115 => (simp only [List.getElem?_toArray, List.getElem?_cons_succ, List.getElem?_cons_zero]; rfl)
            case td115 => exact rfl
            case tg115 => exact rfl
            case ty115 => (intro w hSw; (try dsimp only at hSw); go_split_ands; go_simp; try with_reducible rfl)
            simp only [List.setIfInBounds_toArray, List.set_cons_zero, List.set_cons_succ]
            refine' takeV 25 (oi := _) (d := _) (v := _) ?ti116 ?td116 (by kernel_rfl) (by kernel_rfl) (by kernel_rfl) (by kernel_rfl) (by decide) (fun _ _ _ _ _ h => h) ?tg116 ?ty116 (by assumption) ?tr116
            case ti116 => (simp only [List.getElem?_toArray, List.getElem?_cons_succ, List.getElem?_cons_zero]; rfl)
            case td116 => exact rfl
            case tg116 => exact rfl
            case ty116 => (intro w hSw; (try dsimp only at hSw); go_split_ands; go_simp; try with_reducible rfl)
            simp only [List.setIfInBounds_toArray, List.set_cons_zero, List.set_cons_succ]
            refine' takeVg 26 (oi := _) (d := _) (v := _) ?ti117 ?td117 (by kernel_rfl) (by kernel_rfl) (by kernel_rfl) (by kernel_rfl) (by decide) (fun _ _ _ _ _ h => h) ?tg117 ?ty117 (by assumption) ?tr117
            case ti117 => (simp only [List.getElem?_toArray, List.getElem?_cons_succ, List.getElem?_cons_zero]; rfl)
            case td117 => exact rfl
            case tg117 => exact rfl
            case ty117 => (intro w hSw; (try dsimp only at hSw); rw [exec_load_blk 22 (.tmp 7) rfl rfl (TR.out _ hSw).1 _ HU.out rfl (by rw [lc.out]; exact infoA16)])
            simp only [List.setIfInBounds_toArray, List.set_cons_zero, List.set_cons_succ]
            refine' takeVg 27 (oi := _) (d := _) (v := _) ?ti118 ?td118 (by kernel_rfl) (by kernel_rfl) (by kernel_rfl) (by kernel_rfl) (by decide) (fun _ _ _ _ _ h => h) ?tg118 ?ty118 (by assumption) ?tr118
            case ti118 => (simp only [List.getElem?_toArray, List.getElem?_cons_succ, List.getElem?_cons_zero]; rfl)
            case td118 => exact rfl
            case tg118 => exact rfl
            case ty118 => (intro w hSw; (try dsimp only at hSw); go_split_ands; go_simp; try with_reducible rfl)
            simp only [List.setIfInBounds_toArray, List.set_cons_zero, List.set_cons_succ]
            refine' takeVg 28 (oi := _) (d := _) (v := _) ?ti119 ?td119 (by kernel_rfl) (by kernel_rfl) (by kernel_rfl) (by kernel_rfl) (by decide) (fun _ _ _ _ _ h => h) ?tg119 ?ty119 (by assumption) ?tr119
            case ti119 => (simp only [List.getElem?_toArray, List.getElem?_cons_succ, List.getElem?_cons_zero]; rfl)
            case td119 => exact rfl
            case tg119 => exact rfl
            case ty119 => (intro w hSw; (try dsimp only at hSw); go_split_ands; go_simp; try with_reducible rfl)
            simp only [List.setIfInBounds_toArray, List.set_cons_zero, List.set_cons_succ]
            refine' takeVg 29 (oi := _) (d := _) (v := _) ?ti120 ?td120 (by kernel_rfl) (by kernel_rfl) (by kernel_rfl) (by kernel_rfl) (by decide) (fun _ _ _ _ _ h => h) ?tg120 ?ty120 (by assumption) ?tr120
            case ti120 => (simp only [List.getElem?_toArray, List.getElem?_cons_succ, List.getElem?_cons_zero]; rfl)
            case td120 => exact rfl
            case tg120 => exact rfl
            case ty120 => (intro w hSw; (try dsimp only at hSw); go_split_ands; go_simp; try with_reducible rfl)
            simp only [List.setIfInBounds_toArray, List.set_cons_zero, List.set_cons_succ]
            refine' takeU 30 (oi := _) (d := _) ?ti121 ?td121 (by kernel_rfl) (by kernel_rfl) (by kernel_rfl) (by decide) (fun _ _ _ _ _ h => h) ?tg121 ?tf121 ?tr121
            case ti121 => (simp only [List.getElem?_toArray, List.getElem?_cons_succ, List.getElem?_cons_zero]; rfl)
            case td121 => exact rfl
            case tg121 => exact rfl
            case tf121 => first | (intro _; assumption) | (intro e; exact absurd e (by decide +kernel))
            simp only [List.setIfInBounds_toArray, List.set_cons_zero, List.set_cons_succ]
            refine' takeU 31 (oi := _) (d := _) ?ti122 ?td122 (by kernel_rfl) (by kernel_rfl) (by kernel_rfl) (by decide) (fun _ _ _ _ _ h => h) ?tg122 ?tf122 ?tr122
            case ti122 => (simp only [List.getElem?_toArray, List.getElem?_cons_succ, List.getElem?_cons_zero]; rfl)
            case td122 => exact rfl
            case tg122 => exact rfl
            case tf122 => first | (intro _; assumption) | (intro e; exact absurd e (by decide +kernel))
            simp only [List.setIfInBounds_toArray, List.set_cons_zero, List.set_cons_succ]
            refine' takeU 32 (oi := _) (d := _) ?ti123 ?td123 (by kernel_rfl) (by kernel_rfl) (by kernel_rfl) (by decide) (fun _ _ _ _ _ h => h) ?tg123 ?tf123 ?tr123
            case ti123 => (simp only [List.getElem?_toArray, List.getElem?_cons_succ, List.getElem?_cons_zero]; rfl)
            case td123 => exact rfl
            case tg123 => exact rfl
            case tf123 => first | (intro _; assumption) | (intro e; exact absurd e (by decide +kernel))
            simp only [List.setIfInBounds_toArray, List.set_cons_zero, List.set_cons_succ]
            refine' takeVg 33 (oi := _) (d := _) (v := _) ?ti124 ?td124 (by kernel_rfl) (by kernel_rfl) (by kernel_rfl) (by kernel_rfl) (by decide) (fun _ _ _ _ _ h => h) ?tg124 ?ty124 (by assumption) ?tr124
            case ti124 => (simp only [List.getElem?_toArray, List.getElem?_cons_succ, List.getElem?_cons_zero]; rfl)
            case td124 => exact rfl
            case tg124 => exact rfl
            case ty124 => (intro w hSw; (try dsimp only at hSw); go_split_ands; go_simp; try with_reducible rfl)
            simp only [List.setIfInBounds_toArray, List.set_cons_zero, List.set_cons_succ]
            refine' takeVg 34 (oi := _) (d := _) (v := _) ?ti125 ?td125 (by kernel_rfl) (by kernel_rfl) (by kernel_rfl) (by kernel_rfl) (by decide) (fun _ _ _ _ _ h => h) ?tg125 ?ty125 (by assumption) ?tr125
            case ti125 => (simp only [List.getElem?_toArray, List.getElem?_cons_succ, List.getElem?_cons_zero]; rfl)
            case td125 => exact rfl
            case tg125 => exact rfl
            case ty125 => (intro w hSw; (try dsimp only at hSw); go_split_ands; go_simp; try with_reducible rfl)
            simp only [List.setIfInBounds_toArray, List.set_cons_zero, List.set_cons_succ]
            refine' takeU 35 (oi := _) (d := _) ?ti126 ?td126 (by kernel_rfl) (by kernel_rfl) (by kernel_rfl) (by decide) (fun _ _ _ _ _ h => h) ?tg126 ?tf126 ?tr126
            case ti126 => (simp only [List.getElem?_toArray, List.getElem?_cons_succ, List.getElem?_cons_zero]; rfl)
            case td126 => exact rfl
            case tg126 => exact rfl
            case tf126 => first | (intro _; assumption) | (intro e; exact absurd e (by decide +kernel))
            simp only [List.setIfInBounds_toArray, List.set_cons_zero, List.set_cons_succ]
            refine' takeU 36 (oi := _) (d := _) ?ti127 ?td127 (by kernel_rfl) (by kernel_rfl) (by kernel_rfl) (by decide) (fun _ _ _ _ _ h => h) ?tg127 ?tf127 ?tr127
            case ti127 => (simp only [List.getElem?_toArray, List.getElem?_cons_succ, List.getElem?_cons_zero]; rfl)
            case td127 => exact rfl
            case tg127 => exact rfl
            case tf127 => first | (intro _; assumption) | (intro e; exact absurd e (by decide +kernel))
            simp only [List.setIfInBounds_toArray, List.set_cons_zero, List.set_cons_succ]
            refine' takeU 37 (oi := _) (d := _) ?ti128 ?td128 (by kernel_rfl) (by kernel_rfl) (by kernel_rfl) (by decide) (fun _ _ _ _ _ h => h) ?tg128 ?tf128 ?tr128
            case ti128 => (simp only [List.getElem?_toArray, List.getElem?_cons_succ, List.getElem?_cons_zero]; rfl)
            case td128 => exact rfl
            case tg128 => exact rfl
            case tf128 => first | (intro _; assumption) | (intro e; exact absurd e (by decide +kernel))
            simp only [List.setIfInBounds_toArray, List.set_cons_zero, List.set_cons_succ]
            refine' takeVg 38 (oi := _) (d := _) (v := _) ?ti129 ?td129 (by kernel_rfl) (by kernel_rfl) (by kernel_rfl) (by kernel_rfl) (by decide) (fun _ _ _ _ _ h => h) ?tg129 ?ty129 (by assumption) ?tr129
            case ti129 => (simp only [List.getElem?_toArray, List.getElem?_cons_succ, List.getElem?_cons_zero]; rfl)
            case td129 => exact rfl
            case tg129 => exact rfl
            case ty129 => (intro w hSw; (try dsimp only at hSw); go_split_ands; go_simp; try with_reducible rfl)
            simp only [List.setIfInBounds_toArray, List.set_cons_zero, List.set_cons_succ]
            refine' takeV 39 (oi := _) (d := _) (v := _) ?ti130 ?td130 (by kernel_rfl) (by kernel_rfl) (by kernel_rfl) (by kernel_rfl) (by decide) (fun _ _ _ _ _ h => h) ?tg130 ?ty130 (by assumption) ?tr130
            case ti130 => (simp only [List.getElem?_toArray, List.getElem?_cons_succ, List.getElem?_cons_zero]; rfl)
            case td130 => exact rfl
            case tg130 => exact rfl
            case ty130 => (intro w hSw; (try dsimp only at hSw); go_split_ands; go_simp; try with_reducible rfl)
            simp only [List.setIfInBounds_toArray, List.set_cons_zero, List.set_cons_succ]
            refine' takeV 40 (oi := _) (d := _) (v := _) ?ti131 ?td131 (by kernel_rfl) (by kernel_rfl) (by kernel_rfl) (by kernel_rfl) (by decide) (fun _ _ _ _ _ h => h) ?tg131 ?ty131 (by assumption) ?tr131
            case ti131 => (simp only [List.getElem?_toArray, List.getElem?_cons_succ, List.getElem?_cons_zero]; rfl)
            case td131 => exact rfl
            case tg131 => exact rfl
            case ty131 => (intro w hSw; (try dsimp only at hSw); go_split_ands; go_simp; try with_reducible rfl)
            simp only [List.setIfInBounds_toArray, List.set_cons_zero, List.set_cons_succ]
            refine stepG 41 (by kernel_rfl) (by simp only [List.getElem?_toArray, List.getElem?_cons_succ, List.getElem?_cons_zero]; rfl) (fun K hK => ?_)
            go_simp
            refine (known_any _).mono ?_
            rintro e wq3 ⟨rfl, hq3⟩
            refine hK.out _ _ ?ts132 (fun hHeld => ?_)
            case ts132 => ((try dsimp only); exact KS.out _ _ (by assumption) hq3)
            clear hK K
            refine stepG 42 (by kernel_rfl) (by simp only [List.getElem?_toArray, List.getElem?_cons_succ, List.getElem?_cons_zero]; rfl) (fun K hK => ?_)
            go_simp
            refine hK.out _ _ ?ts133 (fun hHeld => ?_)
            case ts133 => ((try dsimp only); assumption)
            clear hK K
            refine stepG 43 (by kernel_rfl) (by simp only [List.getElem?_toArray, List.getElem?_cons_succ, List.getElem?_cons_zero]; rfl) (fun K hK => ?_)
            go_simp
            refine hK.out _ _ ?ts134 (fun hHeld => ?_)
            case ts134 => ((try dsimp only); assumption)
            clear hK K
            refine doneG (by kernel_rfl) ?_ _
            have hfin := (TR.out _ hHeld).2.2.2.2.2.2.2.2.2
            go_wp2
            go_ret
            exact ⟨rfl, by rw [HH.out]; exact hfin⟩
          · simp only [h1] at ep
            simp only [h2] at ex
            clear h1 h2 ey
            go_wp2_with fail
            refine region_gate 44 (fun w' => Below w6.heap.size w6 w') (by kernel_rfl) ?th135 (fun hHeld => ?tk135)
            case th135 => ((try dsimp only); exact HR6.out)
            refine' takeV 0 (oi := _) (d := _) (v := _) ?ti136 ?td136 (by kernel_rfl) (by kernel_rfl) (by kernel_rfl) (by kernel_rfl) (by decide) (fun _ _ _ _ _ h => h) ?tg136 ?ty136 (by assumption) ?tr136
            case ti136 => (simp only [List.getElem?_toArray, List.getElem?_cons_succ, List.getElem?_cons_zero]; rfl)
            case td136 => exact rfl
            case tg136 => exact rfl
            case ty136 => (intro w hSw; (try dsimp only at hSw); rw [exec_load_blk 22 (.tmp 7) rfl rfl (TR.out _ hSw).1 _ HU.out rfl (by rw [lc.out]; exact infoA16)])
            simp only [List.setIfInBounds_toArray, List.set_cons_zero, List.set_cons_succ]
            refine' takeV 1 (oi := _) (d := _) (v := _) ?ti137 ?td137 (by kernel_rfl) (by kernel_rfl) (by kernel_rfl) (by kernel_rfl) (by decide) (fun _ _ _ _ _ h => h) ?tg137 ?ty137 (by assumption) ?tr137
            case ti137 => (simp only [List.getElem?_toArray, List.getElem?_cons_succ, List.getElem?_cons_zero]; rfl)
            case td137 => exact rfl
            case tg137 => exact rfl
            case ty137 => (intro w hSw; (try dsimp only at hSw); rw [exec_load_blk 22 (.tmp 8) rfl rfl (TR.out _ hSw).2.1 _ HU.out rfl (by rw [lc.out]; exact infoA16)])
            simp only [List.setIfInBounds_toArray, List.set_cons_zero, List.set_cons_succ]
            refine' takeV 2 (oi := _) (d := _) (v := _) ?ti138 ?td138 (by kernel_rfl) (by kernel_rfl) (by kernel_rfl) (by kernel_rfl) (by decide) (fun _ _ _ _ _ h => h) ?tg138 ?ty138 (by assumption) ?tr138
            case ti138 => (simp only [List.getElem?_toArray, List.getElem?_cons_succ, List.getElem?_cons_zero]; rfl)
            case td138 => exact rfl
            case tg138 => exact rfl
            case ty138 => (intro w hSw; (try dsimp only at hSw); go_split_ands; go_simp; try with_reducible rfl)
            simp only [List.setIfInBounds_toArray, List.set_cons_zero, List.set_cons_succ]
            refine' takeV 3 (oi := _) (d := _) (v := _) ?ti139 ?td139 (by kernel_rfl) (by kernel_rfl) (by kernel_rfl) (by kernel_rfl) (by decide) (fun _ _ _ _ _ h => h) ?tg139 ?ty139 (by assumption) ?tr139
            case ti139 => (simp only [List.getElem?_toArray, List.getElem?_cons_succ, List.getElem?_cons_zero]; rfl)
            case td139 => exact rfl
            case tg139 => exact rfl
            case ty139 => (intro w hSw; (try dsimp only at hSw); go_split_ands; go_simp; try with_reducible rfl)
            simp only [List.setIfInBounds_toArray, List.set_cons_zero, List.set_cons_succ]
            refine' takeVg 4 (oi := _) (d := _) (v := _) ?ti140 ?td140 (by kernel_rfl) (by kernel_rfl) (by kernel_rfl) (by kernel_rfl) (by decide) (fun _ _ _ _ _ h => h) ?tg140 ?ty140 (by assumption) ?tr140
            case ti140 => (simp only [List.getElem?_toArray, List.getElem?_cons_succ, List.getElem?_cons_zero]; rfl)
            case td140 => exact rfl
            case tg140 => exact rfl
            case ty140 => (intro w hSw; (try dsimp only at hSw); rw [exec_load_blk 22 (.tmp 9) rfl rfl (TR.out _ hSw).2.2.1 _ HU.out rfl (by rw [lq.out]; exact infoA16)])
            simp only [List.setIfInBounds_toArray, List.set_cons_zero, List.set_cons_succ]
            refine' takeVg 5 (oi := _) (d := _) (v := _) ?ti141 ?td141 (by kernel_rfl) (by kernel_rfl) (by kernel_rfl) (by kernel_rfl) (by decide) (fun _ _ _ _ _ h => h) ?tg141 ?ty141 (by assumption) ?tr141
            case ti141 => (simp only [List.getElem?_toArray, List.getElem?_cons_succ, List.getElem?_cons_zero]; rfl)
            case td141 => exact rfl
            case tg141 => exact rfl
            case ty141 => (intro w hSw; (try dsimp only at hSw); rw [exec_load_blk 22 (.tmp 10) rfl rfl (TR.out _ hSw).2.2.2.1 _ HU.out rfl (by rw [lq.out]; exact infoA16)])
            simp only [List.setIfInBounds_toArray, List.set_cons_zero, List.set_cons_succ]
            refine' takeVg 6 (oi := _) (d := _) (v := _) ?ti142 ?td142 (by kernel_rfl) (by kernel_rfl) (by kernel_rfl) (by kernel_rfl) (by decide) (fun _ _ _ _ _ h => h) ?tg142 ?ty142 (by assumption) ?tr142
            case ti142 => (simp only [List.getElem?_toArray, List.getElem?_cons_succ, List.getElem?_cons_zero]; rfl)
            case td142 => exact rfl
            case tg142 => exact rfl
            case ty142 => (intro w hSw; (try dsimp only at hSw); go_split_ands; go_simp; try with_reducible rfl)
            simp only [List.setIfInBounds_toArray, List.set_cons_zero, List.set_cons_succ]
            refine' takeV 7 (oi := _) (d := _) (v := _) ?ti143 ?td143 (by kernel_rfl) (by kernel_rfl) (by kernel_rfl) (by kernel_rfl) (by decide) (fun _ _ _ _ _ h => h) ?tg143 ?ty143 (by assumption) ?tr143
            case ti143 => (simp only [List.getElem?_toArray, List.getElem?_cons_succ, List.getElem?_cons_zero]; rfl)
            case td143 => exact rfl
            case tg143 => exact rfl
            case ty143 => (intro w hSw; (try dsimp only at hSw); go_split_ands; go_simp; try with_reducible rfl)
            simp only [List.setIfInBounds_toArray, List.set_cons_zero, List.set_cons_succ]
            refine' takeV 8 (oi := _) (d := _) (v := _) ?ti144 ?td144 (by kernel_rfl) (by kernel_rfl) (by kernel_rfl) (by kernel_rfl) (by decide) (fun _ _ _ _ _ h => h) ?tg144 ?ty144 (by assumption) ?tr144
            case ti144 => (simp only [List.getElem?_toArray, List.getElem?_cons_succ, List.getElem?_cons_zero]; rfl)
            case td144 => exact rfl
            case tg144 => exact rfl
            case ty144 => (intro w hSw; (try dsimp only at hSw); go_split_ands; go_simp; try with_reducible rfl)
            simp only [List.setIfInBounds_toArray, List.set_cons_zero, List.set_cons_succ]
            refine' takeVg 9 (oi := _) (d := _) (v := _) ?ti145 ?td145 (by kernel_rfl) (by kernel_rfl) (by kernel_rfl) (by kernel_rfl) (by decide) (fun _ _ _ _ _ h => h) ?tg145 ?ty145 (by assumption) ?tr145
            case ti145 => (simp only [List.getElem?_toArray, List.getElem?_cons_succ, List.getElem?_cons_zero]; rfl)
            case td145 => exact rfl
            case tg145 => exact rfl
            case ty145 => (intro w hSw; (try dsimp only at hSw); rw [exec_load_blk 22 (.tmp 11) rfl rfl (TR.out _ hSw).2.2.2.2.1 _ HU.out rfl (by rw [ls.out]; exact infoA16)])
            simp only [List.setIfInBounds_toArray, List.set_cons_zero, List.set_cons_succ]
            refine' takeVg 10 (oi := _) (d := _) (v := _) ?ti146 ?td146 (by kernel_rfl) (by kernel_rfl) (by kernel_rfl) (by kernel_rfl) (by decide) (fun _ _ _ _ _ h => h) ?tg146 ?ty146 (by assumption) ?tr146
            case ti146 => (simp only [List.getElem?_toArray, List.getElem?_cons_succ, List.getElem?_cons_zero]; rfl)
            case td146 => exact rfl
            case tg146 => exact rfl
            case ty146 => (intro w hSw; (try dsimp only at hSw); rw [exec_load_blk 22 (.tmp 12) rfl rfl (TR.out _ hSw).2.2.2.2.2.1 _ HU.out rfl (by rw [ls.out]; exact infoA16)])
            simp only [List.setIfInBounds_toArray, List.set_cons_zero, List.set_cons_succ]
            refine' takeVg 11 (oi := _) (d := _) (v := _) ?ti147 ?td147 (by kernel_rfl) (by kernel_rfl) (by kernel_rfl) (by kernel_rfl) (by decide) (fun _ _ _ _ _ h => h) ?tg147 ?ty147 (by assumption) ?tr147
            case ti147 => (simp only [List.getElem?_toArray, List.getElem?_cons_succ, List.getElem?_cons_zero]; rfl)
            case td147 => exact rfl
            case tg147 => exact rfl
            case ty147 => (intro w hSw; (try dsimp only at hSw); go_split_ands; go_simp; try with_reducible rfl)
            simp only [List.setIfInBounds_toArray, List.set_cons_zero, List.set_cons_succ]
            refine' takeV 12 (oi := _) (d := _) (v := _) ?ti148 ?td148 (by kernel_rfl) (by kernel_rfl) (by kernel_rfl) (by kernel_rfl) (by decide) (fun _ _ _ _ _ h => h) ?tg148 ?ty148 (by assumption) ?tr148
            case ti148 => (simp only [List.getElem?_toArray, List.getElem?_cons_succ, List.getElem?_cons_zero]; rfl)
            case td148 => exact rfl
            case tg148 => exact rfl
            case ty148 => (intro w hSw; (try dsimp only at hSw); go_split_ands; go_simp; try with_reducible rfl)
            simp only [List.setIfInBounds_toArray, List.set_cons_zero, List.set_cons_succ]
            refine' takeV 13 (oi := _) (d := _) (v := _) ?ti149 ?td149 (by kernel_rfl) (by kernel_rfl) (by kernel_rfl) (by kernel_rfl) (by decide) (fun _ _ _ _ _ h => h) ?tg149 ?ty149 (by assumption) ?tr149
            case ti149 => (simp only [List.getElem?_toArray, List.getElem?_cons_succ, List.getElem?_cons_zero]; rfl)
            case td149 => exact rfl
            case tg149 => exact rfl
            case ty149 => (intro w hSw; (try dsimp only at hSw); go_split_ands; go_simp; try with_reducible rfl)
            simp only [List.setIfInBounds_toArray, List.set_cons_zero, List.set_cons_succ]
            refine' takeVg 14 (oi := _) (d := _) (v := _) ?ti150 ?td150 (by kernel_rfl) (by kernel_rfl) (by kernel_rfl) (by kernel_rfl) (by decide) (fun _ _ _ _ _ h => h) ?tg150 ?ty150 (by assumption) ?tr150
            case ti150 => (simp only [List.getElem?_toArray, List.getElem?_cons_succ, List.getElem?_cons_zero]; rfl)
            case td150 => exact rfl
            case tg150 => exact rfl
            case ty150 => (intro w hSw; (try dsimp only at hSw); rw [exec_load_blk 22 (.tmp 3) rfl rfl (TR.out _ hSw).2.2.2.2.2.2.2.1 _ HU.out rfl (by rw [lx.out]; exact infoA16)])
            simp only [List.setIfInBounds_toArray, List.set_cons_zero, List.set_cons_succ]
            refine' takeVg 17 (oi := _) (d := _) (v := _) ?ti151 ?td151 (by kernel_rfl) (by kernel_rfl) (by kernel_rfl) (by kernel_rfl) (by decide) (fun _ _ _ _ _ h => h) ?tg151 ?ty151 (by assumption) ?tr151
            case ti151 => (simp only [List.getElem?_toArray, List.getElem?_cons_succ, List.getElem?_cons_zero]; rfl)
            case td151 => exact rfl
            case tg151 => exact rfl
            case ty151 => (intro w hSw; (try dsimp only at hSw); rw [exec_load_blk 22 (.tmp 3) rfl rfl (TR.out _ hSw).2.2.2.2.2.2.2.1 _ HU.out rfl (by rw [lx.out]; exact infoA16)])
            simp only [List.setIfInBounds_toArray, List.set_cons_zero, List.set_cons_succ]
            refine stepG 15 (by kernel_rfl) (by simp only [List.getElem?_toArray, List.getElem?_cons_succ, List.getElem?_cons_zero]; rfl) (fun K hK => ?_)
            go_simp
            refine (one_any c1 Hc1 _).mono ?_
            rintro e wq1 ⟨rfl, hq1⟩
            refine hK.out _ _ ?ts152 (fun hHeld => ?_)
            case ts152 => ((try dsimp only); exact KS.out _ _ (by assumption) hq1)
            clear hK K
            refine stepG 16 (by kernel_rfl) (by simp only [List.getElem?_toArray, List.getElem?_cons_succ, List.getElem?_cons_zero]; rfl) (fun K hK => ?_)
            go_simp
            refine (mulg x el1 cx c1 cx Hcx Hc1 Hx1 HX.out rfl _).mono ?_
            rintro e wq2 ⟨rfl, hq2⟩
            refine hK.out _ _ ?ts153 (fun hHeld => ?_)
            case ts153 => ((try dsimp only); exact KS.out _ _ (by assumption) hq2)
            clear hK K
            refine' takeVg 18 (oi := _) (d := _) (v := _) ?ti154 ?td154 (by kernel_rfl) (by kernel_rfl) (by kernel_rfl) (by kernel_rfl) (by decide) (fun _ _ _ _ _ h => h) ?tg154 ?ty154 (by assumption) ?tr154
            case ti154 => (simp only [List.getElem?_toArray, List.getElem?_cons_succ, List.getElem?_cons_zero]; rfl)
            case td154 => exact rfl
            case tg154 => exact rfl
            case ty154 => (intro w hSw; (try dsimp only at hSw); go_split_ands; go_simp; try with_reducible rfl)
            simp only [List.setIfInBounds_toArray, List.set_cons_zero, List.set_cons_succ]
            refine' takeV 19 (oi := _) (d := _) (v := _) ?ti155 ?td155 (by kernel_rfl) (by kernel_rfl) (by kernel_rfl) (by kernel_rfl) (by decide) (fun _ _ _ _ _ h => h) ?tg155 ?ty155 (by assumption) ?tr155
            case ti155 => (simp only [List.getElem?_toArray, List.getElem?_cons_succ, List.getElem?_cons_zero]; rfl)
            case td155 => exact rfl
            case tg155 => exact rfl
            case ty155 => (intro w hSw; (try dsimp only at hSw); go_split_ands; go_simp; try with_reducible rfl)
            simp only [List.setIfInBounds_toArray, List.set_cons_zero, List.set_cons_succ]
            refine' takeV 20 (oi := _) (d := _) (v := _) ?ti156 ?td156 (by kernel_rfl) (by kernel_rfl) (by kernel_rfl) (by kernel_rfl) (by decide) (fun _ _ _ _ _ h => h) ?tg156 ?ty156 (by assumption) ?tr156
            case ti156 => (simp only [List.getElem?_toArray, List.getElem?_cons_succ, List.getElem?_cons_zero]; rfl)
            case td156 => exact rfl
            case tg156 => exact rfl
            case ty156 => (intro w hSw; (try dsimp only at hSw); go_split_ands; go_simp; try with_reducible rfl)
            simp only [List.setIfInBounds_toArray, List.set_cons_zero, List.set_cons_succ]
            refine' takeVg 21 (oi := _) (d := _) (v := _) ?ti157 ?td157 (by kernel_rfl) (by kernel_rfl) (by kernel_rfl) (by kernel_rfl) (by decide) (fun _ _ _ _ _ h => h) ?tg157 ?ty157 (by assumption) ?tr157
            case ti157 => (simp only [List.getElem?_toArray, List.getElem?_cons_succ, List.getElem?_cons_zero]; rfl)
            case td157 => exact rfl
            case tg157 => exact rfl
            case ty157 => (intro w hSw; (try dsimp only at hSw); rw [exec_load_blk 22 (.tmp 13) rfl rfl (TR.out _ hSw).2.2.2.2.2.2.1 _ HU.out rfl (by rw [lz.out]; exact infoA16)])
            simp only [List.setIfInBounds_toArray, List.set_cons_zero, List.set_cons_succ]
            refine' takeVg 22 (oi := _) (d := _) (v := _) ?ti158 ?td158 (by kernel_rfl) (by kernel_rfl) (by kernel_rfl) (by kernel_rfl) (by decide) (fun _ _ _ _ _ h => h) ?tg158 ?ty158 (by assumption) ?tr158
            case ti158 => (simp only [List.getElem?_toArray, List.getElem?_cons_succ, List.getElem?_cons_zero]; rfl)
            case td158 => exact rfl
            case tg158 => exact rfl
            case ty158 => (intro w hSw; (try dsimp only at hSw); go_split_ands; go_simp; try with_reducible rfl)
            simp only [List.setIfInBounds_toArray, List.set_cons_zero, List.set_cons_succ]
            refine' takeVg 23 (oi := _) (d := _) (v := _) ?ti159 ?td159 (by kernel_rfl) (by kernel_rfl) (by kernel_rfl) (by kernel_rfl) (by decide) (fun _ _ _ _ _ h => h) ?tg159 ?ty159 (by assumption) ?tr159
            case ti159 => (simp only [List.getElem?_toArray, List.getElem?_cons_succ, List.getElem?_cons_zero]; rfl)
            case td159 => exact rfl
            case tg159 => exact rfl
            case ty159 => (intro w hSw; (try dsimp only at hSw); go_split_ands; go_simp; try with_reducible rfl)
            simp only [List.setIfInBounds_toArray, List.set_cons_zero, List.set_cons_succ]
            refine' takeV 24 (oi := _) (d := _) (v := _) ?ti160 ?td160 (by kernel_rfl) (by kernel_rfl) (by kernel_rfl) (by kernel_rfl) (by decide) (fun _ _ _ _ _ h => h) ?tg160 ?ty160 (by assumption) ?tr160
            case ti160 => (simp only [List.getElem?_toArray, List.getElem?_cons_succ, List.getElem?_cons_zero]; rfl)
            case td160 => exact rfl
            case tg160 => exact rfl
            case ty160 => (intro w hSw; (try dsimp only at hSw); go_split_ands; go_simp; try with_reducible rfl)
            simp only [List.setIfInBounds_toArray, List.set_cons_zero, List.set_cons_succ]
            refine' takeV 25 (oi := _) (d := _) (v := _) ?ti161 ?td161 (by kernel_rfl) (by kernel_rfl) (by kernel_rfl) (by kernel_rfl) (by decide) (fun _ _ _ _ _ h => h) ?tg161 ?ty161 (by assumption) ?tr161
            case ti161 => (simp only [List.getElem?_toArray, List.getElem?_cons_succ, List.getElem?_cons_zero]; rfl)
            case td161 => exact rfl
            case tg161 => exact rfl
            case ty161 => (intro w hSw; (try dsimp only at hSw); go_split_ands; go_simp; try with_reducible rfl)
            simp only [List.setIfInBounds_toArray, List.set_cons_zero, List.set_cons_succ]
            refine' takeVg 26 (oi := _) (d := _) (v := _) ?ti162 ?td162 (by kernel_rfl) (by kernel_rfl) (by kernel_rfl) (by kernel_rfl) (by decide) (fun _ _ _ _ _ h => h) ?tg162 ?ty162 (by assumption) ?tr162
            case ti162 => (simp only [List.getElem?_toArray, List.getElem?_cons_succ, List.getElem?_cons_zero]; rfl)
            case td162 => exact rfl
            case tg162 => exact rfl
            case ty162 => (intro w hSw; (try dsimp only at hSw); rw [exec_load_blk 22 (.tmp 7) rfl rfl (TR.out _ hSw).1 _ HU.out rfl (by rw [lc.out]; exact infoA16)])
            simp only [List.setIfInBounds_toArray, List.set_cons_zero, List.set_cons_succ]
            refine' takeVg 27 (oi := _) (d := _) (v := _) ?ti163 ?td163 (by kernel_rfl) (by kernel_rfl) (by kernel_rfl) (by kernel_rfl) (by decide) (fun _ _ _ _ _ h => h) ?tg163 ?ty163 (by assumption) ?tr163
            case ti163 => (simp only [List.getElem?_toArray, List.getElem?_cons_succ, List.getElem?_cons_zero]; rfl)
            case td163 => exact rfl
            case tg163 => exact rfl
            case ty163 => (intro w hSw; (try dsimp only at hSw); go_split_ands; go_simp; try with_reducible rfl)
            simp only [List.setIfInBounds_toArray, List.set_cons_zero, List.set_cons_succ]
            refine' takeVg 28 (oi := _) (d := _) (v := _) ?ti164 ?td164 (by kernel_rfl) (by kernel_rfl) (by kernel_rfl) (by kernel_rfl) (by decide) (fun _ _ _ _ _ h => h) ?tg164 ?ty164 (by assumption) ?tr164
            case ti164 => (simp only [List.getElem?_toArray, List.getElem?_cons_succ, List.getElem?_cons_zero]; rfl)
            case td164 => exact rfl
            case tg164 => exact rfl
            case ty164 => (intro w hSw; (try dsimp only at hSw); go_split_ands; go_simp; try with_reducible rfl)
            simp only [List.setIfInBounds_toArray, List.set_cons_zero, List.set_cons_succ]
            refine' takeVg 29 (oi := _) (d := _) (v := _) ?ti165 ?td165 (by kernel_rfl) (by kernel_rfl) (by kernel_rfl) (by kernel_rfl) (by decide) (fun _ _ _ _ _ h => h) ?tg165 ?ty165 (by assumption) ?tr165
            case ti165 => (simp only [List.getElem?_toArray, List.getElem?_cons_succ, List.getElem?_cons_zero]; rfl)
            case td165 => exact rfl
            case tg165 => exact rfl
            case ty165 => (intro w hSw; (try dsimp only at hSw); go_split_ands; go_simp; try with_reducible rfl)
            simp only [List.setIfInBounds_toArray, List.set_cons_zero, List.set_cons_succ]
            refine' takeVg 30 (oi := _) (d := _) (v := _) ?ti166 ?td166 (by kernel_rfl) (by kernel_rfl) (by kernel_rfl) (by kernel_rfl) (by decide) (fun _ _ _ _ _ h => h) ?tg166 ?ty166 (by assumption) ?tr166
            case ti166 => (simp only [List.getElem?_toArray, List.getElem?_cons_succ, List.getElem?_cons_zero]; rfl)
            case td166 => exact rfl
            case tg166 => exact rfl
            case ty166 => (intro w hSw; (try dsimp only at hSw); rw [exec_load_blk 22 (.tmp 3) rfl rfl (TR.out _ hSw).2.2.2.2.2.2.2.1 _ HU.out rfl (by rw [lx.out]; exact infoA16)])
            simp only [List.setIfInBounds_toArray, List.set_cons_zero, List.set_cons_succ]
            refine' takeVg 31 (oi := _) (d := _) (v := _) ?ti167 ?td167 (by kernel_rfl) (by kernel_rfl) (by kernel_rfl) (by kernel_rfl) (by decide) (fun _ _ _ _ _ h => h) ?tg167 ?ty167 (by assumption) ?tr167
            case ti167 => (simp only [List.getElem?_toArray, List.getElem?_cons_succ, List.getElem?_cons_zero]; rfl)
            case td167 => exact rfl
            case tg167 => exact rfl
            case ty167 => (intro w hSw; (try dsimp only at hSw); go_split_ands; go_simp; try with_reducible rfl)
            simp only [List.setIfInBounds_toArray, List.set_cons_zero, List.set_cons_succ]
            refine' takeVg 32 (oi := _) (d := _) (v := _) ?ti168 ?td168 (by kernel_rfl) (by kernel_rfl) (by kernel_rfl) (by kernel_rfl) (by decide) (fun _ _ _ _ _ h => h) ?tg168 ?ty168 (by assumption) ?tr168
            case ti168 => (simp only [List.getElem?_toArray, List.getElem?_cons_succ, List.getElem?_cons_zero]; rfl)
            case td168 => exact rfl
            case tg168 => exact rfl
            case ty168 => (intro w hSw; (try dsimp only at hSw); go_split_ands; go_simp; try with_reducible rfl)
            simp only [List.setIfInBounds_toArray, List.set_cons_zero, List.set_cons_succ]
            refine' takeVg 33 (oi := _) (d := _) (v := _) ?ti169 ?td169 (by kernel_rfl) (by kernel_rfl) (by kernel_rfl) (by kernel_rfl) (by decide) (fun _ _ _ _ _ h => h) ?tg169 ?ty169 (by assumption) ?tr169
            case ti169 => (simp only [List.getElem?_toArray, List.getElem?_cons_succ, List.getElem?_cons_zero]; rfl)
            case td169 => exact rfl
            case tg169 => exact rfl
            case ty169 => (intro w hSw; (try dsimp only at hSw); go_split_ands; go_simp; try with_reducible rfl)
            simp only [List.setIfInBounds_toArray, List.set_cons_zero, List.set_cons_succ]
            refine' takeVg 34 (oi := _) (d := _) (v := _) ?ti170 ?td170 (by kernel_rfl) (by kernel_rfl) (by kernel_rfl) (by kernel_rfl) (by decide) (fun _ _ _ _ _ h => h) ?tg170 ?ty170 (by assumption) ?tr170
            case ti170 => (simp only [List.getElem?_toArray, List.getElem?_cons_succ, List.getElem?_cons_zero]; rfl)
            case td170 => exact rfl
            case tg170 => exact rfl
            case ty170 => (intro w hSw; (try dsimp only at hSw); go_split_ands; go_simp; try with_reducible rfl)
            simp only [List.setIfInBounds_toArray, List.set_cons_zero, List.set_cons_succ]
            refine' takeU 35 (oi := _) (d := _) ?ti171 ?td171 (by kernel_rfl) (by kernel_rfl) (by kernel_rfl) (by decide) (fun _ _ _ _ _ h => h) ?tg171 ?tf171 ?tr171
            case ti171 => (simp only [List.getElem?_toArray, List.getElem?_cons_succ, List.getElem?_cons_zero]; rfl)
            case td171 => exact rfl
            case tg171 => exact rfl
            case tf171 => first | (intro _; assumption) | (intro e; exact absurd e (by decide +kernel))
            simp only [List.setIfInBounds_toArray, List.set_cons_zero, List.set_cons_succ]
            refine' takeU 36 (oi := _) (d := _) ?ti172 ?td172 (by kernel_rfl) (by kernel_rfl) (by kernel_rfl) (by decide) (fun _ _ _ _ _ h => h) ?tg172 ?tf172 ?tr172
            case ti172 => (simp only [List.getElem?_toArray, List.getElem?_cons_succ, List.getElem?_cons_zero]; rfl)
            case td172 => exact rfl
            case tg172 => exact rfl
            case tf172 => first | (intro _; assumption) | (intro e; exact absurd e (by decide +kernel))
            simp only [List.setIfInBounds_toArray, List.set_cons_zero, List.set_cons_succ]
            refine' takeU 37 (oi := _) (d := _) ?ti173 ?td173 (by kernel_rfl) (by kernel_rfl) (by kernel_rfl) (by decide) (fun _ _ _ _ _ h => h) ?tg173 ?tf173 ?tr173
            case ti173 => (simp only [List.getElem?_toArray, List.getElem?_cons_succ, List.getElem?_cons_zero]; rfl)
            case td173 => exact rfl
            case tg173 => exact rfl
            case tf173 => first | (intro _; assumption) | (intro e; exact absurd e (by decide +kernel))
            simp only [List.setIfInBounds_toArray, List.set_cons_zero, List.set_cons_succ]
            refine' takeVg 38 (oi := _) (d := _) (v := _) ?ti174 ?td174 (by kernel_rfl) (by kernel_rfl) (by kernel_rfl) (by kernel_rfl) (by decide) (fun _ _ _ _ _ h => h) ?tg174 ?ty174 (by assumption) ?tr174
            case ti174 => (simp only [List.getElem?_toArray, List.getElem?_cons_succ, List.getElem?_cons_zero]; rfl)
            case td174 => exact rfl
            case tg174 => exact rfl
            case ty174 => (intro w hSw; (try dsimp only at hSw); go_split_ands; go_simp; try with_reducible rfl)
            simp only [List.setIfInBounds_toArray, List.set_cons_zero, List.set_cons_succ]
            refine' takeV 39 (oi := _) (d := _) (v := _) ?ti175 ?td175 (by kernel_rfl) (by kernel_rfl) (by kernel_rfl) (by kernel_rfl) (by decide) (fun _ _ _ _ _ h => h) ?tg175 ?ty175 (by assumption) ?tr175
            case ti175 => (simp only [List.getElem?_toArray, List.getElem?_cons_succ, List.getElem?_cons_zero]; rfl)
            case td175 => exact rfl
            case tg175 => exact rfl
            case ty175 => (intro w hSw; (try dsimp only at hSw); go_split_ands; go_simp; try with_reducible rfl)
            simp only [List.setIfInBounds_toArray, List.set_cons_zero, List.set_cons_succ]
            refine' takeV 40 (oi := _) (d := _) (v := _) ?ti176 ?td176 (by kernel_rfl) (by kernel_rfl) (by kernel_rfl) (by kernel_rfl) (by decide) (fun _ _ _ _ _ h => h) ?tg176 ?ty176 (by assumption) ?tr176
            case ti176 => (simp only [List.getElem?_toArray, List.getElem?_cons_succ, List.getElem?_cons_zero]; rfl)
            case td176 => exact rfl
            case tg176 => exact rfl
            case ty176 => (intro w hSw; (try dsimp only at hSw); go_split_ands; go_simp; try with_reducible rfl)
            simp only [List.setIfInBounds_toArray, List.set_cons_zero, List.set_cons_succ]
            refine stepG 41 (by kernel_rfl) (by simp only [List.getElem?_toArray, List.getElem?_cons_succ, List.getElem?_cons_zero]; rfl) (fun K hK => ?_)
            go_simp
            refine (known_any _).mono ?_
            rintro e wq3 ⟨rfl, hq3⟩
            refine hK.out _ _ ?ts177 (fun hHeld => ?_)
            case ts177 => ((try dsimp only); exact KS.out _ _ (by assumption) hq3)
            clear hK K
            refine stepG 42 (by kernel_rfl) (by simp only [List.getElem?_toArray, List.getElem?_cons_succ, List.getElem?_cons_zero]; rfl) (fun K hK => ?_)
            go_simp
            refine hK.out _ _ ?ts178 (fun hHeld => ?_)
            case ts178 => ((try dsimp only); assumption)
            clear hK K
            refine stepG 43 (by kernel_rfl) (by simp only [List.getElem?_toArray, List.getElem?_cons_succ, List.getElem?_cons_zero]; rfl) (fun K hK => ?_)
            go_simp
            refine hK.out _ _ ?ts179 (fun hHeld => ?_)
            case ts179 => ((try dsimp only); assumption)
            clear hK K
            refine doneG (by kernel_rfl) ?_ _
            have hfin := (TR.out _ hHeld).2.2.2.2.2.2.2.2.2
            go_wp2
            go_ret
            exact ⟨rfl, by rw [HH.out]; exact hfin⟩
          · simp only [h1] at ep
            simp only [h2] at ex
            simp only [h3] at ey
            clear h1 h2 h3
            go_wp2_with fail
            refine region_gate 44 (fun w' => Below w6.heap.size w6 w') (by kernel_rfl) ?th180 (fun hHeld => ?tk180)
            case th180 => ((try dsimp only); exact HR6.out)
            refine' takeV 0 (oi := _) (d := _) (v := _) ?ti181 ?td181 (by kernel_rfl) (by kernel_rfl) (by kernel_rfl) (by kernel_rfl) (by decide) (fun _ _ _ _ _ h => h) ?tg181 ?ty181 (by assumption) ?tr181
            case ti181 => (simp only [List.getElem?_toArray, List.getElem?_cons_succ, List.getElem?_cons_zero]; rfl)
            case td181 => exact rfl
            case tg181 => exact rfl
            case ty181 => (intro w hSw; (try dsimp only at hSw); rw [exec_load_blk 22 (.tmp 7) rfl rfl (TR.out _ hSw).1 _ HU.out rfl (by rw [lc.out]; exact infoA16)])
            simp only [List.setIfInBounds_toArray, List.set_cons_zero, List.set_cons_succ]
            refine' takeV 1 (oi := _) (d := _) (v := _) ?ti182 ?td182 (by kernel_rfl) (by kernel_rfl) (by kernel_rfl) (by kernel_rfl) (by decide) (fun _ _ _ _ _ h => h) ?tg182 ?ty182 (by assumption) ?tr182
            case ti182 => (simp only [List.getElem?_toArray, List.getElem?_cons_succ, List.getElem?_cons_zero]; rfl)
            case td182 => exact rfl
            case tg182 => exact rfl
            case ty182 => (intro w hSw; (try dsimp only at hSw); rw [exec_load_blk 22 (.tmp 8) rfl rfl (TR.out _ hSw).2.1 _ HU.out rfl (by rw [lc.out]; exact infoA16)])
            simp only [List.setIfInBounds_toArray, List.set_cons_zero, List.set_cons_succ]
            refine' takeV 2 (oi := _) (d := _) (v := _) ?ti183 ?td183 (by kernel_rfl) (by kernel_rfl) (by kernel_rfl) (by kernel_rfl) (by decide) (fun _ _ _ _ _ h => h) ?tg183 ?ty183 (by assumption) ?tr183
            case ti183 => (simp only [List.getElem?_toArray, List.getElem?_cons_succ, List.getElem?_cons_zero]; rfl)
            case td183 => exact rfl
            case tg183 => exact rfl
            case ty183 => (intro w hSw; (try dsimp only at hSw); go_split_ands; go_simp; try with_reducible rfl)
            simp only [List.setIfInBounds_toArray, List.set_cons_zero, List.set_cons_succ]
            refine' takeV 3 (oi := _) (d := _) (v := _) ?ti184 ?td184 (by kernel_rfl) (by kernel_rfl) (by kernel_rfl) (by kernel_rfl) (by decide) (fun _ _ _ _ _ h => h) ?tg184 ?ty184 (by assumption) ?tr184
            case ti184 => (simp only [List.getElem?_toArray, List.getElem?_cons_succ, List.getElem?_cons_zero]; rfl)
            case td184 => exact rfl
            case tg184 => exact rfl
            case ty184 => (intro w hSw; (try dsimp only at hSw); go_split_ands; go_simp; try with_reducible rfl)
            simp only [List.setIfInBounds_toArray, List.set_cons_zero, List.set_cons_succ]
            refine' takeVg 4 (oi := _) (d := _) (v := _) ?ti185 ?td185 (by kernel_rfl) (by kernel_rfl) (by kernel_rfl) (by kernel_rfl) (by decide) (fun _ _ _ _ _ h => h) ?tg185 ?ty185 (by assumption) ?tr185
            case ti185 => (simp only [List.getElem?_toArray, List.getElem?_cons_succ, List.getElem?_cons_zero]; rfl)
            case td185 => exact rfl
            case tg185 => exact rfl
            case ty185 => (intro w hSw; (try dsimp only at hSw); rw [exec_load_blk 22 (.tmp 9) rfl rfl (TR.out _ hSw).2.2.1 _ HU.out rfl (by rw [lq.out]; exact infoA16)])
            simp only [List.setIfInBounds_toArray, List.set_cons_zero, List.set_cons_succ]
            refine' takeVg 5 (oi := _) (d := _) (v := _) ?ti186 ?td186 (by kernel_rfl) (by kernel_rfl) (by kernel_rfl) (by kernel_rfl) (by decide) (fun _ _ _ _ _ h => h) ?tg186 ?ty186 (by assumption) ?tr186
            case ti186 => (simp only [List.getElem?_toArray, List.getElem?_cons_succ, List.getElem?_cons_zero]; rfl)
            case td186 => exact rfl
            case tg186 => exact rfl
            case ty186 => (intro w hSw; (try dsimp only at hSw); rw [exec_load_blk 22 (.tmp 10) rfl rfl (TR.out _ hSw).2.2.2.1 _ HU.out rfl (by rw [lq.out]; exact infoA16)])
            simp only [List.setIfInBounds_toArray, List.set_cons_zero, List.set_cons_succ]
            refine' takeVg 6 (oi := _) (d := _) (v := _) ?ti187 ?td187 (by kernel_rfl) (by kernel_rfl) (by kernel_rfl) (by kernel_rfl) (by decide) (fun _ _ _ _ _ h => h) ?tg187 ?ty187 (by assumption) ?tr187
            case ti187 => (simp only [List.getElem?_toArray, List.getElem?_cons_succ, List.getElem?_cons_zero]; rfl)
            case td187 => exact rfl
            case tg187 => exact rfl
            case ty187 => (intro w hSw; (try dsimp only at hSw); go_split_ands; go_simp; try with_reducible rfl)
            simp only [List.setIfInBounds_toArray, List.set_cons_zero, List.set_cons_succ]
            refine' takeV 7 (oi := _) (d := _) (v := _) ?ti188 ?td188 (by kernel_rfl) (by kernel_rfl) (by kernel_rfl) (by kernel_rfl) (by decide) (fun _ _ _ _ _ h => h) ?tg188 ?ty188 (by assumption) ?tr188
            case ti188 => (simp only [List.getElem?_toArray, List.getElem?_cons_succ, List.getElem?_cons_zero]; rfl)
            case td188 => exact rfl
            case tg188 => exact rfl
            case ty188 => (intro w hSw; (try dsimp only at hSw); go_split_ands; go_simp; try with_reducible rfl)
            simp only [List.setIfInBounds_toArray, List.set_cons_zero, List.set_cons_succ]
            refine' takeV 8 (oi := _) (d := _) (v := _) ?ti189 ?td189 (by kernel_rfl) (by kernel_rfl) (by kernel_rfl) (by kernel_rfl) (by decide) (fun _ _ _ _ _ h => h) ?tg189 ?ty189 (by assumption) ?tr189
            case ti189 => (simp only [List.getElem?_toArray, List.getElem?_cons_succ, List.getElem?_cons_zero]; rfl)
            case td189 => exact rfl
            case tg189 => exact rfl
            case ty189 => (intro w hSw; (try dsimp only at hSw); go_split_ands; go_simp; try with_reducible rfl)
            simp only [List.setIfInBounds_toArray, List.set_cons_zero, List.set_cons_succ]
            refine' takeVg 9 (oi := _) (d := _) (v := _) ?ti190 ?td190 (by kernel_rfl) (by kernel_rfl) (by kernel_rfl) (by kernel_rfl) (by decide) (fun _ _ _ _ _ h => h) ?tg190 ?ty190 (by assumption) ?tr190
            case ti190 => (simp only [List.getElem?_toArray, List.getElem?_cons_succ, List.getElem?_cons_zero]; rfl)
            case td190 => exact rfl
            case tg190 => exact rfl
            case ty190 => (intro w hSw; (try dsimp only at hSw); rw [exec_load_blk 22 (.tmp 11) rfl rfl (TR.out _ hSw).2.2.2.2.1 _ HU.out rfl (by rw [ls.out]; exact infoA16)])
            simp only [List.setIfInBounds_toArray, List.set_cons_zero, List.set_cons_succ]
            refine' takeVg 10 (oi := _) (d := _) (v := _) ?ti191 ?td191 (by kernel_rfl) (by kernel_rfl) (by kernel_rfl) (by kernel_rfl) (by decide) (fun _ _ _ _ _ h => h) ?tg191 ?ty191 (by assumption) ?tr191
            case ti191 => (simp only [List.getElem?_toArray, List.getElem?_cons_succ, List.getElem?_cons_zero]; rfl)
            case td191 => exact rfl
            case tg191 => exact rfl
            case ty191 => (intro w hSw; (try dsimp only at hSw); rw [exec_load_blk 22 (.tmp 12) rfl rfl (TR.out _ hSw).2.2.2.2.2.1 _ HU.out rfl (by rw [ls.out]; exact infoA16)])
            simp only [List.setIfInBounds_toArray, List.set_cons_zero, List.set_cons_succ]
            refine' takeVg 11 (oi := _) (d := _) (v := _) ?ti192 ?td192 (by kernel_rfl) (by kernel_rfl) (by kernel_rfl) (by kernel_rfl) (by decide) (fun _ _ _ _ _ h => h) ?tg192 ?ty192 (by assumption) ?tr192
            case ti192 => (simp only [List.getElem?_toArray, List.getElem?_cons_succ, List.getElem?_cons_zero]; rfl)
            case td192 => exact rfl
            case tg192 => exact rfl
            case ty192 => (intro w hSw; (try dsimp only at hSw); go_split_ands; go_simp; try with_reducible rfl)
            simp only [List.setIfInBounds_toArray, List.set_cons_zero, List.set_cons_succ]
            refine' takeV 12 (oi := _) (d := _) (v := _) ?ti193 ?td193 (by kernel_rfl) (by kernel_rfl) (by kernel_rfl) (by kernel_rfl) (by decide) (fun _ _ _ _ _ h => h) ?tg193 ?ty193 (by assumption) ?tr193
            case ti193 => (simp only [List.getElem?_toArray, List.getElem?_cons_succ, List.getElem?_cons_zero]; rfl)
            case td193 => exact rfl
            case tg193 => exact rfl
            case ty193 => (intro w hSw; (try dsimp only at hSw); go_split_ands; go_simp; try with_reducible rfl)
            simp only [List.setIfInBounds_toArray, List.set_cons_zero, List.set_cons_succ]
            refine' takeV 13 (oi := _) (d := _) (v := _) ?ti194 ?td194 (by kernel_rfl) (by kernel_rfl) (by kernel_rfl) (by kernel_rfl) (by decide) (fun _ _ _ _ _ h => h) ?tg194 ?ty194 (by assumption) ?tr194
            case ti194 => (simp only [List.getElem?_toArray, List.getElem?_cons_succ, List.getElem?_cons_zero]; rfl)
            case td194 => exact rfl
            case tg194 => exact rfl
            case ty194 => (intro w hSw; (try dsimp only at hSw); go_split_ands; go_simp; try with_reducible rfl)
            simp only [List.setIfInBounds_toArray, List.set_cons_zero, List.set_cons_succ]
            refine' takeVg 14 (oi := _) (d := _) (v := _) ?ti195 ?td195 (by kernel_rfl) (by kernel_rfl) (by kernel_rfl) (by kernel_rfl) (by decide) (fun _ _ _ _ _ h => h) ?tg195 ?ty195 (by assumption) ?tr195
            case ti195 => (simp only [List.getElem?_toArray, List.getElem?_cons_succ, List.getElem?_cons_zero]; rfl)
            case td195 => exact rfl
            case tg195 => exact rfl
            case ty195 => (intro w hSw; (try dsimp only at hSw); rw [exec_load_blk 22 (.tmp 3) rfl rfl (TR.out _ hSw).2.2.2.2.2.2.2.1 _ HU.out rfl (by rw [lx.out]; exact infoA16)])
            simp only [List.setIfInBounds_toArray, List.set_cons_zero, List.set_cons_succ]
            refine' takeVg 17 (oi := _) (d := _) (v := _) ?ti196 ?td196 (by kernel_rfl) (by kernel_rfl) (by kernel_rfl) (by kernel_rfl) (by decide) (fun _ _ _ _ _ h => h) ?tg196 ?ty196 (by assumption) ?tr196
            case ti196 => (simp only [List.getElem?_toArray, List.getElem?_cons_succ, List.getElem?_cons_zero]; rfl)
            case td196 => exact rfl
            case tg196 => exact rfl
            case ty196 => (intro w hSw; (try dsimp only at hSw); rw [exec_load_blk 22 (.tmp 3) rfl rfl (TR.out _ hSw).2.2.2.2.2.2.2.1 _ HU.out rfl (by rw [lx.out]; exact infoA16)])
            simp only [List.setIfInBounds_toArray, List.set_cons_zero, List.set_cons_succ]
            refine stepG 15 (by kernel_rfl) (by simp only [List.getElem?_toArray, List.getElem?_cons_succ, List.getElem?_cons_zero]; rfl) (fun K hK => ?_)
            go_simp
            refine (one_any c1 Hc1 _).mono ?_
            rintro e wq1 ⟨rfl, hq1⟩
            refine hK.out _ _ ?ts197 (fun hHeld => ?_)
            case ts197 => ((try dsimp only); exact KS.out _ _ (by assumption) hq1)
            clear hK K
            refine stepG 16 (by kernel_rfl) (by simp only [List.getElem?_toArray, List.getElem?_cons_succ, List.getElem?_cons_zero]; rfl) (fun K hK => ?_)
            go_simp
            refine (mulg x el1 cx c1 cx Hcx Hc1 Hx1 HX.out rfl _).mono ?_
            rintro e wq2 ⟨rfl, hq2⟩
            refine hK.out _ _ ?ts198 (fun hHeld => ?_)
            case ts198 => ((try dsimp only); exact KS.out _ _ (by assumption) hq2)
            clear hK K
            refine' takeVg 18 (oi := _) (d := _) (v := _) ?ti199 ?td199 (by kernel_rfl) (by kernel_rfl) (by kernel_rfl) (by kernel_rfl) (by decide) (fun _ _ _ _ _ h => h) ?tg199 ?ty199 (by assumption) ?tr199
            case ti199 => (simp only [List.getElem?_toArray, List.getElem?_cons_succ, List.getElem?_cons_zero]; rfl)
            case td199 => exact rfl
            case tg199 => exact rfl
            case ty199 => (intro w hSw; (try dsimp only at hSw); go_split_ands; go_simp; try with_reducible rfl)
            simp only [List.setIfInBounds_toArray, List.set_cons_zero, List.set_cons_succ]
            refine' takeV 19 (oi := _) (d := _) (v := _) ?ti200 ?td200 (by kernel_rfl) (by kernel_rfl) (by kernel_rfl) (by kernel_rfl) (by decide) (fun _ _ _ _ _ h => h) ?tg200 ?ty200 (by assumption) ?tr200
            case ti200 => (simp only [List.getElem?_toArray, List.getElem?_cons_succ, List.getElem?_cons_zero]; rfl)
            case td200 => exact rfl
            case tg200 => exact rfl
            case ty200 => (intro w hSw; (try dsimp only at hSw); go_split_ands; go_simp; try with_reducible rfl)
            simp only [List.setIfInBounds_toArray, List.set_cons_zero, List.set_cons_succ]
            refine' takeV 20 (oi := _) (d := _) (v := _) ?ti201 ?td201 (by kernel_rfl) (by kernel_rfl) (by kernel_rfl) (by kernel_rfl) (by decide) (fun _ _ _ _ _ h => h) ?tg201 ?ty201 (by assumption) ?tr201
            case ti201 => (simp only [List.getElem?_toArray, List.getElem?_cons_succ, List.getElem?_cons_zero]; rfl)
            case td201 => exact rfl
            case tg201 => exact rfl
            case ty201 => (intro w hSw; (try dsimp only at hSw); go_split_ands; go_simp; try with_reducible rfl)
            simp only [List.setIfInBounds_toArray, List.set_cons_zero, List.set_cons_succ]
            refine' takeVg 21 (oi := _) (d := _) (v := _) ?ti202 ?td202 (by kernel_rfl) (by kernel_rfl) (by kernel_rfl) (by kernel_rfl) (by decide) (fun _ _ _ _ _ h => h) ?tg202 ?ty202 (by assumption) ?tr202
            case ti202 => (simp only [List.getElem?_toArray, List.getElem?_cons_succ, List.getElem?_cons_zero]; rfl)
            case td202 => exact rfl
            case tg202 => exact rfl
            case ty202 => (intro w hSw; (try dsimp only at hSw); rw [exec_load_blk 22 (.tmp 13) rfl rfl (TR.out _ hSw).2.2.2.2.2.2.1 _ HU.out rfl (by rw [lz.out]; exact infoA16)])
            simp only [List.setIfInBounds_toArray, List.set_cons_zero, List.set_cons_succ]
            refine' takeVg 22 (oi := _) (d := _) (v := _) ?ti203 ?td203 (by kernel_rfl) (by kernel_rfl) (by kernel_rfl) (by kernel_rfl) (by decide) (fun _ _ _ _ _ h => h) ?tg203 ?ty203 (by assumption) ?tr203
            case ti203 => (simp only [List.getElem?_toArray, List.getElem?_cons_succ, List.getElem?_cons_zero]; rfl)
            case td203 => exact rfl
            case tg203 => exact rfl
            case ty203 => (intro w hSw; (try dsimp only at hSw); go_split_ands; go_simp; try with_reducible rfl)
            simp only [List.setIfInBounds_toArray, List.set_cons_zero, List.set_cons_succ]
            refine' takeVg 23 (oi := _) (d := _) (v := _) ?ti204 ?td204 (by kernel_rfl) (by kernel_rfl) (by kernel_rfl) (by kernel_rfl) (by decide) (fun _ _ _ _ _ h => h) ?tg204 ?ty204 (by assumption) ?tr204
            case ti204 => (simp only [List.getElem?_toArray, List.getElem?_cons_succ, List.getElem?_cons_zero]; rfl)
            case td204 => exact rfl
            case tg204 => exact rfl
            case ty204 => (intro w hSw; (try dsimp only at hSw); go_split_ands; go_simp; try with_reducible rfl)
            simp only [List.setIfInBounds_toArray, List.set_cons_zero, List.set_cons_succ]
            refine' takeV 24 (oi := _) (d := _) (v := _) ?ti205 ?td205 (by kernel_rfl) (by kernel_rfl) (by kernel_rfl) (by kernel_rfl) (by decide) (fun _ _ _ _ _ h => h) ?tg205 ?ty205 (by assumption) ?tr205
            case ti205 => (simp only [List.getElem?_toArray, List.getElem?_cons_succ, List.getElem?_cons_zero]; rfl)
            case td205 => exact rfl
            case tg205 => exact rfl
            case ty205 => (intro w hSw; (try dsimp only at hSw); go_split_ands; go_simp; try with_reducible rfl)
            simp only [List.setIfInBounds_toArray, List.set_cons_zero, List.set_cons_succ]
            refine' takeV 25 (oi := _) (d := _) (v := _) ?ti206 ?td206 (by kernel_rfl) (by kernel_rfl) (by kernel_rfl) (by kernel_rfl) (by decide) (fun _ _ _ _ _ h => h) ?tg206 ?ty206 (by assumption) ?tr206
            case ti206 => (simp only [List.getElem?_toArray, List.getElem?_cons_succ, List.getElem?_cons_zero]; rfl)
            case td206 => exact rfl
            case tg206 => exact rfl
            case ty206 => (intro w hSw; (try dsimp only at hSw); go_split_ands; go_simp; try with_reducible rfl)
            simp only [List.setIfInBounds_toArray, List.set_cons_zero, List.set_cons_succ]
            refine' takeVg 26 (oi := _) (d := _) (v := _) ?ti207 ?td207 (by kernel_rfl) (by kernel_rfl) (by kernel_rfl) (by kernel_rfl) (by decide) (fun _ _ _ _ _ h => h) ?tg207 ?ty207 (by assumption) ?tr207
            case ti207 => (simp only [List.getElem?_toArray, List.getElem?_cons_succ, List.getElem?_cons_zero]; rfl)
            case td207 => exact rfl
            case tg207 => exact rfl
            case ty207 => (intro w hSw; (try dsimp only at hSw); rw [exec_load_blk 22 (.tmp 7) rfl rfl (TR.out _ hSw).1 _ HU.out rfl (by rw [lc.out]; exact infoA16)])
            simp only [List.setIfInBounds_toArray, List.set_cons_zero, List.set_cons_succ]
            refine' takeVg 27 (oi := _) (d := _) (v := _) ?ti208 ?td208 (by kernel_rfl) (by kernel_rfl) (by kernel_rfl) (by kernel_rfl) (by decide) (fun _ _ _ _ _ h => h) ?tg208 ?ty208 (by assumption) ?tr208
            case ti208 => (simp only [List.getElem?_toArray, List.getElem?_cons_succ, List.getElem?_cons_zero]; rfl)
            case td208 => exact rfl
            case tg208 => exact rfl
            case ty208 => (intro w hSw; (try dsimp only at hSw); go_split_ands; go_simp; try with_reducible rfl)
            simp only [List.setIfInBounds_toArray, List.set_cons_zero, List.set_cons_succ]
            refine' takeVg 28 (oi := _) (d := _) (v := _) ?ti209 ?td209 (by kernel_rfl) (by kernel_rfl) (by kernel_rfl) (by kernel_rfl) (by decide) (fun _ _ _ _ _ h => h) ?tg209 ?ty209 (by assumption) ?tr209
            case ti209 => (simp only [List.getElem?_toArray, List.getElem?_cons_succ, List.getElem?_cons_zero]; rfl)
            case td209 => exact rfl
            case tg209 => exact rfl
            case ty209 => (intro w hSw; (try dsimp only at hSw); go_split_ands; go_simp; try with_reducible rfl)
            simp only [List.setIfInBounds_toArray, List.set_cons_zero, List.set_cons_succ]
            refine' takeVg 29 (oi := _) (d := _) (v := _) ?ti210 ?td210 (by kernel_rfl) (by kernel_rfl) (by kernel_rfl) (by kernel_rfl) (by decide) (fun _ _ _ _ _ h => h) ?tg210 ?ty210 (by assumption) ?tr210
            case ti210 => (simp only [List.getElem?_toArray, List.getElem?_cons_succ, List.getElem?_cons_zero]; rfl)
            case td210 => exact rfl
            case tg210 => exact rfl
            case ty210 => (intro w hSw; (try dsimp only at hSw); go_split_ands; go_simp; try with_reducible rfl)
            simp only [List.setIfInBounds_toArray, List.set_cons_zero, List.set_cons_succ]
            refine' takeVg 30 (oi := _) (d := _) (v := _) ?ti211 ?td211 (by kernel_rfl) (by kernel_rfl) (by kernel_rfl) (by kernel_rfl) (by decide) (fun _ _ _ _ _ h => h) ?tg211 ?ty211 (by assumption) ?tr211
            case ti211 => (simp only [List.getElem?_toArray, List.getElem?_cons_succ, List.getElem?_cons_zero]; rfl)
            case td211 => exact rfl
            case tg211 => exact rfl
            case ty211 => (intro w hSw; (try dsimp only at hSw); rw [exec_load_blk 22 (.tmp 3) rfl rfl (TR.out _ hSw).2.2.2.2.2.2.2.1 _ HU.out rfl (by rw [lx.out]; exact infoA16)])
            simp only [List.setIfInBounds_toArray, List.set_cons_zero, List.set_cons_succ]
            refine' takeVg 31 (oi := _) (d := _) (v := _) ?ti212 ?td212 (by kernel_rfl) (by kernel_rfl) (by kernel_rfl) (by kernel_rfl) (by decide) (fun _ _ _ _ _ h => h) ?tg212 ?ty212 (by assumption) ?tr212
            case ti212 => (simp only [List.getElem?_toArray, List.getElem?_cons_succ, List.getElem?_cons_zero]; rfl)
            case td212 => exact rfl
            case tg212 => exact rfl
            case ty212 => (intro w hSw; (try dsimp only at hSw); go_split_ands; go_simp; try with_reducible rfl)
            simp only [List.setIfInBounds_toArray, List.set_cons_zero, List.set_cons_succ]
            refine' takeVg 32 (oi := _) (d := _) (v := _) ?ti213 ?td213 (by kernel_rfl) (by kernel_rfl) (by kernel_rfl) (by kernel_rfl) (by decide) (fun _ _ _ _ _ h => h) ?tg213 ?ty213 (by assumption) ?tr213
            case ti213 => (simp only [List.getElem?_toArray, List.getElem?_cons_succ, List.getElem?_cons_zero]; rfl)
            case td213 => exact rfl
            case tg213 => exact rfl
            case ty213 => (intro w hSw; (try dsimp only at hSw); go_split_ands; go_simp; try with_reducible rfl)
            simp only [List.setIfInBounds_toArray, List.set_cons_zero, List.set_cons_succ]
            refine' takeVg 33 (oi := _) (d := _) (v := _) ?ti214 ?td214 (by kernel_rfl) (by kernel_rfl) (by kernel_rfl) (by kernel_rfl) (by decide) (fun _ _ _ _ _ h => h) ?tg214 ?ty214 (by assumption) ?tr214
            case ti214 => (simp only [List.getElem?_toArray, List.getElem?_cons_succ, List.getElem?_cons_zero]; rfl)
            case td214 => exact rfl
            case tg214 => exact rfl
            case ty214 => (intro w hSw; (try dsimp only at hSw); go_split_ands; go_simp; try with_reducible rfl)
            simp only [List.setIfInBounds_toArray, List.set_cons_zero, List.set_cons_succ]
            refine' takeVg 34 (oi := _) (d := _) (v := _) ?ti215 ?td215 (by kernel_rfl) (by kernel_rfl) (by kernel_rfl) (by kernel_rfl) (by decide) (fun _ _ _ _ _ h => h) ?tg215 ?ty215 (by assumption) ?tr215
            case ti215 => (simp only [List.getElem?_toArray, List.getElem?_cons_succ, List.getElem?_cons_zero]; rfl)
            case td215 => exact rfl
            case tg215 => exact rfl
            case ty215 => (intro w hSw; (try dsimp only at hSw); go_split_ands; go_simp; try with_reducible rfl)
            simp only [List.setIfInBounds_toArray, List.set_cons_zero, List.set_cons_succ]
            refine' takeVg 35 (oi := _) (d := _) (v := _) ?ti216 ?td216 (by kernel_rfl) (by kernel_rfl) (by kernel_rfl) (by kernel_rfl) (by decide) (fun _ _ _ _ _ h => h) ?tg216 ?ty216 (by assumption) ?tr216
            case ti216 => (simp only [List.getElem?_toArray, List.getElem?_cons_succ, List.getElem?_cons_zero]; rfl)
            case td216 => exact rfl
            case tg216 => exact rfl
            case ty216 => (intro w hSw; (try dsimp only at hSw); rw [exec_load_blk 22 (.tmp 4) rfl rfl (TR.out _ hSw).2.2.2.2.2.2.2.2.1 _ HU.out rfl (by rw [ly.out]; exact infoA16)])
            simp only [List.setIfInBounds_toArray, List.set_cons_zero, List.set_cons_succ]
            refine' takeVg 36 (oi := _) (d := _) (v := _) ?ti217 ?td217 (by kernel_rfl) (by kernel_rfl) (by kernel_rfl) (by kernel_rfl) (by decide) (fun _ _ _ _ _ h => h) ?tg217 ?ty217 (by assumption) ?tr217
            case ti217 => (simp only [List.getElem?_toArray, List.getElem?_cons_succ, List.getElem?_cons_zero]; rfl)
            case td217 => exact rfl
            case tg217 => exact rfl
            case ty217 => (intro w hSw; (try dsimp only at hSw); go_split_ands; go_simp; try with_reducible rfl)
            simp only [List.setIfInBounds_toArray, List.set_cons_zero, List.set_cons_succ]
            refine' takeVg 37 (oi := _) (d := _) (v := _) ?ti218 ?td218 (by kernel_rfl) (by kernel_rfl) (by kernel_rfl) (by kernel_rfl) (by decide) (fun _ _ _ _ _ h => h) ?tg218 ?ty218 (by assumption) ?tr218
            case ti218 => (simp only [List.getElem?_toArray, List.getElem?_cons_succ, List.getElem?_cons_zero]; rfl)
            case td218 => exact rfl
            case tg218 => exact rfl
            case ty218 => (intro w hSw; (try dsimp only at hSw); go_split_ands; go_simp; try with_reducible rfl)
            simp only [List.setIfInBounds_toArray, List.set_cons_zero, List.set_cons_succ]
            refine' takeVg 38 (oi := _) (d := _) (v := _) ?ti219 ?td219 (by kernel_rfl) (by kernel_rfl) (by kernel_rfl) (by kernel_rfl) (by decide) (fun _ _ _ _ _ h => h) ?tg219 ?ty219 (by assumption) ?tr219
            case ti219 => (simp only [List.getElem?_toArray, List.getElem?_cons_succ, List.getElem?_cons_zero]; rfl)
            case td219 => exact rfl
            case tg219 => exact rfl
            case ty219 => (intro w hSw; (try dsimp only at hSw); go_split_ands; go_simp; try with_reducible rfl)
            simp only [List.setIfInBounds_toArray, List.set_cons_zero, List.set_cons_succ]
            refine' takeV 39 (oi := _) (d := _) (v := _) ?ti220 ?td220 (by kernel_rfl) (by kernel_rfl) (by kernel_rfl) (by kernel_rfl) (by decide) (fun _ _ _ _ _ h => h) ?tg220 ?ty220 (by assumption) ?tr220
            case ti220 => (simp only [List.getElem?_toArray, List.getElem?_cons_succ, List.getElem?_cons_zero]; rfl)
            case td220 => exact rfl
            case tg220 => exact rfl
            case ty220 => (intro w hSw; (try dsimp only at hSw); go_split_ands; go_simp; try with_reducible rfl)
            simp only [List.setIfInBounds_toArray, List.set_cons_zero, List.set_cons_succ]
            refine' takeV 40 (oi := _) (d := _) (v := _) ?ti221 ?td221 (by kernel_rfl) (by kernel_rfl) (by kernel_rfl) (by kernel_rfl) (by decide) (fun _ _ _ _ _ h => h) ?tg221 ?ty221 (by assumption) ?tr221
            case ti221 => (simp only [List.getElem?_toArray, List.getElem?_cons_succ, List.getElem?_cons_zero]; rfl)
            case td221 => exact rfl
            case tg221 => exact rfl
            case ty221 => (intro w hSw; (try dsimp only at hSw); go_split_ands; go_simp; try with_reducible rfl)
            simp only [List.setIfInBounds_toArray, List.set_cons_zero, List.set_cons_succ]
            refine stepG 41 (by kernel_rfl) (by simp only [List.getElem?_toArray, List.getElem?_cons_succ, List.getElem?_cons_zero]; rfl) (fun K hK => ?_)
            go_simp
            refine (known_any _).mono ?_
            rintro e wq3 ⟨rfl, hq3⟩
            refine hK.out _ _ ?ts222 (fun hHeld => ?_)
            case ts222 => ((try dsimp only); exact KS.out _ _ (by assumption) hq3)
            clear hK K
            refine stepG 42 (by kernel_rfl) (by simp only [List.getElem?_toArray, List.getElem?_cons_succ, List.getElem?_cons_zero]; rfl) (fun K hK => ?_)
            go_simp
            refine hK.out _ _ ?ts223 (fun hHeld => ?_)
            case ts223 => ((try dsimp only); assumption)
            clear hK K
            refine stepG 43 (by kernel_rfl) (by simp only [List.getElem?_toArray, List.getElem?_cons_succ, List.getElem?_cons_zero]; rfl) (fun K hK => ?_)
            go_simp
            refine hK.out _ _ ?ts224 (fun hHeld => ?_)
            case ts224 => ((try dsimp only); assumption)
            clear hK K
            refine doneG (by kernel_rfl) ?_ _
            have hfin := (TR.out _ hHeld).2.2.2.2.2.2.2.2.2
            go_wp2
            go_ret
            exact ⟨rfl, by rw [HH.out]; exact hfin⟩
end Go.Proofs.Ytikhnjoobhfgdaa
