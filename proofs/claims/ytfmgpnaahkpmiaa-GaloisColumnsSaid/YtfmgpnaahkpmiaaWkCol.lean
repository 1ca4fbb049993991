/- The walk of the statement GaloisColumns. -/
import Derived.Test.YtfmgpnaahkpmiaaWkMix
import Derived.Test.YtfmgpnaahkpmiaaGalH
import Derived.Test.YtfmgpnaahkpmiaaRegS
import Derived.Test.YtfmgpnaahkpmiaaArr
import Derived.Deep.DeepCutAuto
set_option linter.unusedVariables false
namespace Go.Proofs.Ytfmgpnaahkpmiaa
open Go.RowKit Gal

theorem below_new (w : World) (o : Obj) : Below w.heap.size w (w.alloc o) := (Below.refl _ _).alloc (Nat.le_refl _) _
theorem Blk.keep_grown {w w' : World} {g : Nat} {t : TypeId} {cs : Array Value} {row : Option Nat} (h : Blk w g t cs) (hg : w.grownBy w' row) (hne : some g ≠ row) : Blk w' g t cs :=
  (hg.block g h.lt hne).trans h
/-- A column's cells. -/
def cl (c : Nat → Nat) : List Value := [.int .u8 (c 0), .int .u8 (c 1), .int .u8 (c 2), .int .u8 (c 3)]
theorem cl_one {cs : List Value} {c : Nat → Nat} (h : Hid (cs = cl c)) : ∀ v ∈ cs, v.oneCell' = true := by
  rw [h.out]
  intro v hv
  simp only [cl, List.mem_cons, List.not_mem_nil, or_false] at hv
  rcases hv with rfl | rfl | rfl | rfl <;> rfl
theorem cl_len {cs : List Value} {c : Nat → Nat} (h : Hid (cs = cl c)) : cs.length = 4 := by rw [h.out]; rfl
theorem infoA4 : (Try.prog.info? 33).map (·.size) = some 4 := by kernel_rfl
theorem mixl (c : Nat → Nat) (cx cy : List Value) (hx : Hid (cx = cl c)) (hy : Hid (cy = cl (mix c))) (hc : ∀ k, c k < 256) (w : World) :
    Calls Try.prog 24 #[.agg cx.toArray] w fun e w' => e = .returned (.agg cy.toArray) ∧ Below w.heap.size w w' := by
  rw [hx.out, hy.out]; exact mix_any c hc w
theorem unmixl (c : Nat → Nat) (cx cy : List Value) (hx : Hid (cx = cl c)) (hy : Hid (cy = cl (unmix c))) (hc : ∀ k, c k < 256) (w : World) :
    Calls Try.prog 26 #[.agg cx.toArray] w fun e w' => e = .returned (.agg cy.toArray) ∧ Below w.heap.size w w' := by
  rw [hx.out, hy.out]; exact unmix_any c hc w
theorem eqcl (cs : List Value) (c : Nat → Nat) (h : Hid (cs = cl c)) (W : World) : (Op.equalIn 10000 33 (.agg cs.toArray) (.agg cs.toArray)).run Try.prog W = .ok true W := by
  rw [h.out]; exact eq4 c W
theorem cl_blk {w : World} {g : Nat} {t : TypeId} {cs : List Value} {c : Nat → Nat} (h : Blk w g t cs.toArray) (hc : Hid (cs = cl c)) (i : Nat) (hi : i < 4) : w.cell? ⟨g, i, none⟩ = some (.int .u8 (c i)) := by
  rw [h.cell i, hc.out]
  match i, hi with
  | 0, _ => rfl
  | 1, _ => rfl
  | 2, _ => rfl
  | 3, _ => rfl
theorem bne_self_int (a : Int) : (a != a) = false := by simp

set_option maxRecDepth 100000 in
set_option maxHeartbeats 12800000 in
theorem galoisColumns_walk0 (c d : Nat → Nat) (hc : ∀ k, c k < 256) (hd : ∀ k, d k < 256) (w : World) :
    Calls Try.prog 12 #[.agg (col c), .agg (col d)] w fun e w' => e = .returned (.bool true) ∧ Below w.heap.size w w' := by
  obtain ⟨H, HH⟩ : ∃ H, Hid (w.heap.size = H) := ⟨_, rfl⟩
  obtain ⟨cc, Hcc⟩ : ∃ cs, Hid (cs = cl c) := ⟨_, rfl⟩
  obtain ⟨cd, Hcd⟩ : ∃ cs, Hid (cs = cl d) := ⟨_, rfl⟩
  obtain ⟨cx, Hcx⟩ : ∃ cs, Hid (cs = cl (mix c)) := ⟨_, rfl⟩
  obtain ⟨cy, Hcy⟩ : ∃ cs, Hid (cs = cl (mix d)) := ⟨_, rfl⟩
  obtain ⟨cu, Hcu⟩ : ∃ cs, Hid (cs = cl (unmix c)) := ⟨_, rfl⟩
  obtain ⟨cv, Hcv⟩ : ∃ cs, Hid (cs = cl (unmix d)) := ⟨_, rfl⟩
  obtain ⟨z, HZ⟩ : ∃ z, Hid (z = cl (fun _ => 0)) := ⟨_, rfl⟩
  have hz2 : ∀ W : World, (zeroValue 33).run Try.prog W = .ok (.agg z.toArray) W := fun W => by rw [HZ.out]; kernel_rfl
  have HU : Hid (Try.prog.underlying 33 = some (.array 4 5)) := Try.underlying33
  have HC := Lib.hid hc
  have HD := Lib.hid hd
  have lcc := Lib.hid (cl_len Hcc)
  have lcd := Lib.hid (cl_len Hcd)
  have lcx := Lib.hid (cl_len Hcx)
  have lcy := Lib.hid (cl_len Hcy)
  have lcu := Lib.hid (cl_len Hcu)
  have lcv := Lib.hid (cl_len Hcv)
  have lz := Lib.hid (cl_len HZ)
  clear hc hd
  show Calls Try.prog 12 #[.agg (cl c).toArray, .agg (cl d).toArray] w _
  rw [← Hcc.out, ← Hcd.out]
  go_enter Try.func12, Try.ntmps12
  go_wp2_with fail
  obtain ⟨W, hW⟩ : ∃ W, W = ((w.alloc (.cells cc.toArray 33)).alloc (.cells cd.toArray 33)) := ⟨_, rfl⟩
  have KC : Hid (Blk W H 33 cc.toArray) := by rw [hW]; exact (Blk.new' _ _ _ _ HH.out).alloc _
  have KD : Hid (Blk W (H + 1) 33 cd.toArray) := by rw [hW]; exact Blk.new' _ _ _ _ (by simp [HH.out])
  have HB : Hid (Below H w W) := by
    rw [hW, ← HH.out]
    exact (below_new _ _).alloc (by simp) _
  rw [← hW, HH.out]
  clear hW
  have onecx := Lib.hid (cl_one Hcx)
  have onecy := Lib.hid (cl_one Hcy)
  have onecu := Lib.hid (cl_one Hcu)
  have onecv := Lib.hid (cl_one Hcv)
  go_upto_region 1 with fail
  go_cut [5, 6] (fun s5 s6 wx => ∃ b5 b6 : Nat, s5 = .pointer (some ⟨b5, 0, none⟩) ∧ s6 = .pointer (some ⟨b6, 0, none⟩) ∧ Blk wx b5 33 cx.toArray ∧ Blk wx b6 33 cy.toArray ∧ Below W.heap.size W wx)
  case first =>
    have TR : Hid (∀ wx, Below W.heap.size W wx → Blk wx H 33 cc.toArray ∧ Blk wx (H + 1) 33 cd.toArray) := fun wx h => ⟨KC.out.below h KC.out.lt, KD.out.below h KD.out.lt⟩
    have KS : Hid (∀ wa wb, Below W.heap.size W wa → Below wa.heap.size wa wb → Below W.heap.size W wb) := fun wa wb h hb => h.trans (hb.mono h.size)
    refine region_gate 8 (fun w' => Below W.heap.size W w') (by kernel_rfl) ?th1 (fun hHeld => ?tk1)
    case th1 => ((try dsimp only); exact (Below.refl _ _).drew)
    obtain ⟨V0, hV0⟩ : ∃ V0, V0 = W.drew := ⟨_, rfl⟩
    rw [← hV0] at hHeld ⊢
    clear hV0
    have keepS := KS.out
    refine' takeV 0 (oi := _) (d := _) (v := _) ?ti2 ?td2 (by kernel_rfl) (by kernel_rfl) (by kernel_rfl) (by kernel_rfl) (by decide) (fun _ _ _ _ _ h => h) ?tg2 ?ty2 (by assumption) ?tr2
    case ti2 => (simp only [List.getElem?_toArray, List.getElem?_cons_succ, List.getElem?_cons_zero]; rfl)
    case td2 => exact rfl
    case tg2 => exact rfl
    case ty2 => (intro w hSw; (try dsimp only at hSw); rw [exec_load_blk 33 (.tmp 2) rfl rfl (TR.out _ hSw).1 _ HU.out rfl (by rw [lcc.out]; exact infoA4)])
    simp only [List.setIfInBounds_toArray, List.set_cons_zero, List.set_cons_succ]
    refine' takeV 2 (oi := _) (d := _) (v := _) ?ti3 ?td3 (by kernel_rfl) (by kernel_rfl) (by kernel_rfl) (by kernel_rfl) (by decide) (fun _ _ _ _ _ h => h) ?tg3 ?ty3 (by assumption) ?tr3
    case ti3 => (simp only [List.getElem?_toArray, List.getElem?_cons_succ, List.getElem?_cons_zero]; rfl)
    case td3 => exact rfl
    case tg3 => exact rfl
    case ty3 => (intro w hSw; (try dsimp only at hSw); rw [exec_load_blk 33 (.tmp 3) rfl rfl (TR.out _ hSw).2 _ HU.out rfl (by rw [lcd.out]; exact infoA4)])
    simp only [List.setIfInBounds_toArray, List.set_cons_zero, List.set_cons_succ]
    refine stepG3 1 4 5 (by kernel_rfl) ?_ ?_ ?_
    · refine StepOf.mk 1 (by simp only [List.getElem?_toArray, List.getElem?_cons_succ, List.getElem?_cons_zero]; rfl) (fun K hK => ?_)
      go_simp
      refine (mixl c cc cx Hcc Hcx HC.out _).mono ?_
      rintro e ws1 ⟨rfl, hbs1⟩
      have szs1 := hbs1.size
      refine hK.out _ _ ?tu1 (fun hs1 => ?_)
      case tu1 => exact keepS _ _ hHeld hbs1
      clear hK K
      refine stepG3 3 4 5 (by kernel_rfl) ?_ ?_ ?_
      · refine StepOf.mk 3 (by simp only [List.getElem?_toArray, List.getElem?_cons_succ, List.getElem?_cons_zero]; rfl) (fun K hK => ?_)
        go_simp
        refine (mixl d cd cy Hcd Hcy HD.out _).mono ?_
        rintro e ws2 ⟨rfl, hbs2⟩
        have szs2 := hbs2.size
        refine hK.out _ _ ?tu2 (fun hs2 => ?_)
        case tu2 => exact keepS _ _ hs1 hbs2
        clear hK K
        refine stepG2 4 5 (by kernel_rfl) ?_ ?_
        · refine StepOf.mk 4 (by simp only [List.getElem?_toArray, List.getElem?_cons_succ, List.getElem?_cons_zero]; rfl) (fun K hK => ?_)
          go_simp
          obtain ⟨ws3, hw3⟩ : ∃ wx : World, wx = ws2.alloc (.cells z.toArray 33) := ⟨_, rfl⟩
          rw [← hw3]
          have hbs3 : Below ws2.heap.size ws2 ws3 := by rw [hw3]; exact below_new _ _
          have nbs3 : Blk ws3 ws2.heap.size 33 z.toArray := by rw [hw3]; exact Blk.new _ _ _
          have szs3 : ws2.heap.size < ws3.heap.size := by rw [hw3]; simp
          clear hw3
          have ges3 : W.heap.size ≤ ws2.heap.size := (hs2).size
          refine hK.out _ _ ?tu3 (fun hs3 => ?_)
          case tu3 => exact keepS _ _ hs2 hbs3
          clear hK K
          refine stepG 5 (by kernel_rfl) (by simp only [List.getElem?_toArray, List.getElem?_cons_succ, List.getElem?_cons_zero]; rfl) (fun K hK => ?_)
          go_simp
          obtain ⟨ws4, hw4⟩ : ∃ wx : World, wx = ws3.alloc (.cells z.toArray 33) := ⟨_, rfl⟩
          rw [← hw4]
          have hbs4 : Below ws3.heap.size ws3 ws4 := by rw [hw4]; exact below_new _ _
          have nbs4 : Blk ws4 ws3.heap.size 33 z.toArray := by rw [hw4]; exact Blk.new _ _ _
          have szs4 : ws3.heap.size < ws4.heap.size := by rw [hw4]; simp
          clear hw4
          have ges4 : W.heap.size ≤ ws3.heap.size := (hs3).size
          refine hK.out _ _ ?tu4 (fun hs4 => ?_)
          case tu4 => exact keepS _ _ hs3 hbs4
          clear hK K
          have nb4_4 := nbs3.below hbs4 nbs3.lt
          refine stepG 6 (by kernel_rfl) (by simp only [List.getElem?_toArray, List.getElem?_cons_succ, List.getElem?_cons_zero]; rfl) (fun K hK => ?_)
          refine step_store_blk rfl 33 (.tmp 5) (.tmp 15) rfl rfl rfl nb4_4 (by rw [lcx.out, lz.out]) (by rw [lcx.out]; exact infoA4) onecx.out ?_
          intro wa hka hga
          refine hK.out _ _ ?ts4 (fun hHeld => ?_)
          case ts4 => ((try dsimp only); exact (hs4).grown hga (hs4).size (by intro k hk; simp at hk; omega))
          clear hK K
          have hkb := (nbs4).keep_grown hga (by simp; omega)
          have hSa := hHeld
          refine stepG 7 (by kernel_rfl) (by simp only [List.getElem?_toArray, List.getElem?_cons_succ, List.getElem?_cons_zero]; rfl) (fun K hK => ?_)
          refine step_store_blk rfl 33 (.tmp 6) (.tmp 17) rfl rfl rfl hkb (by rw [lcy.out, lz.out]) (by rw [lcy.out]; exact infoA4) onecy.out ?_
          intro wb hkb2 hgb
          refine hK.out _ _ ?ts5 (fun hHeld => ?_)
          case ts5 => ((try dsimp only); exact hSa.grown hgb hSa.size (by intro k hk; simp at hk; omega))
          clear hK K
          have hka2 := hka.keep_grown hgb (by simp; omega)
          refine doneG (by kernel_rfl) ?_ _
          go_wp2_with fail
          go_meet
          exact ⟨_, _, rfl, rfl, hka2, hkb2, hHeld⟩
        · refine StepOf.mk 5 (by simp only [List.getElem?_toArray, List.getElem?_cons_succ, List.getElem?_cons_zero]; rfl) (fun K hK => ?_)
          go_simp
          obtain ⟨ws5, hw5⟩ : ∃ wx : World, wx = ws2.alloc (.cells z.toArray 33) := ⟨_, rfl⟩
          rw [← hw5]
          have hbs5 : Below ws2.heap.size ws2 ws5 := by rw [hw5]; exact below_new _ _
          have nbs5 : Blk ws5 ws2.heap.size 33 z.toArray := by rw [hw5]; exact Blk.new _ _ _
          have szs5 : ws2.heap.size < ws5.heap.size := by rw [hw5]; simp
          clear hw5
          have ges5 : W.heap.size ≤ ws2.heap.size := (hs2).size
          refine hK.out _ _ ?tu5 (fun hs5 => ?_)
          case tu5 => exact keepS _ _ hs2 hbs5
          clear hK K
          refine stepG 4 (by kernel_rfl) (by simp only [List.getElem?_toArray, List.getElem?_cons_succ, List.getElem?_cons_zero]; rfl) (fun K hK => ?_)
          go_simp
          obtain ⟨ws6, hw6⟩ : ∃ wx : World, wx = ws5.alloc (.cells z.toArray 33) := ⟨_, rfl⟩
          rw [← hw6]
          have hbs6 : Below ws5.heap.size ws5 ws6 := by rw [hw6]; exact below_new _ _
          have nbs6 : Blk ws6 ws5.heap.size 33 z.toArray := by rw [hw6]; exact Blk.new _ _ _
          have szs6 : ws5.heap.size < ws6.heap.size := by rw [hw6]; simp
          clear hw6
          have ges6 : W.heap.size ≤ ws5.heap.size := (hs5).size
          refine hK.out _ _ ?tu6 (fun hs6 => ?_)
          case tu6 => exact keepS _ _ hs5 hbs6
          clear hK K
          have nb5_6 := nbs5.below hbs6 nbs5.lt
          refine stepG 6 (by kernel_rfl) (by simp only [List.getElem?_toArray, List.getElem?_cons_succ, List.getElem?_cons_zero]; rfl) (fun K hK => ?_)
          refine step_store_blk rfl 33 (.tmp 5) (.tmp 15) rfl rfl rfl nbs6 (by rw [lcx.out, lz.out]) (by rw [lcx.out]; exact infoA4) onecx.out ?_
          intro wa hka hga
          refine hK.out _ _ ?ts6 (fun hHeld => ?_)
          case ts6 => ((try dsimp only); exact (hs6).grown hga (hs6).size (by intro k hk; simp at hk; omega))
          clear hK K
          have hkb := (nb5_6).keep_grown hga (by simp; omega)
          have hSa := hHeld
          refine stepG 7 (by kernel_rfl) (by simp only [List.getElem?_toArray, List.getElem?_cons_succ, List.getElem?_cons_zero]; rfl) (fun K hK => ?_)
          refine step_store_blk rfl 33 (.tmp 6) (.tmp 17) rfl rfl rfl hkb (by rw [lcy.out, lz.out]) (by rw [lcy.out]; exact infoA4) onecy.out ?_
          intro wb hkb2 hgb
          refine hK.out _ _ ?ts7 (fun hHeld => ?_)
          case ts7 => ((try dsimp only); exact hSa.grown hgb hSa.size (by intro k hk; simp at hk; omega))
          clear hK K
          have hka2 := hka.keep_grown hgb (by simp; omega)
          refine doneG (by kernel_rfl) ?_ _
          go_wp2_with fail
          go_meet
          exact ⟨_, _, rfl, rfl, hka2, hkb2, hHeld⟩
      · refine StepOf.mk 4 (by simp only [List.getElem?_toArray, List.getElem?_cons_succ, List.getElem?_cons_zero]; rfl) (fun K hK => ?_)
        go_simp
        obtain ⟨ws7, hw7⟩ : ∃ wx : World, wx = ws1.alloc (.cells z.toArray 33) := ⟨_, rfl⟩
        rw [← hw7]
        have hbs7 : Below ws1.heap.size ws1 ws7 := by rw [hw7]; exact below_new _ _
        have nbs7 : Blk ws7 ws1.heap.size 33 z.toArray := by rw [hw7]; exact Blk.new _ _ _
        have szs7 : ws1.heap.size < ws7.heap.size := by rw [hw7]; simp
        clear hw7
        have ges7 : W.heap.size ≤ ws1.heap.size := (hs1).size
        refine hK.out _ _ ?tu7 (fun hs7 => ?_)
        case tu7 => exact keepS _ _ hs1 hbs7
        clear hK K
        refine stepG2 3 5 (by kernel_rfl) ?_ ?_
        · refine StepOf.mk 3 (by simp only [List.getElem?_toArray, List.getElem?_cons_succ, List.getElem?_cons_zero]; rfl) (fun K hK => ?_)
          go_simp
          refine (mixl d cd cy Hcd Hcy HD.out _).mono ?_
          rintro e ws8 ⟨rfl, hbs8⟩
          have szs8 := hbs8.size
          refine hK.out _ _ ?tu8 (fun hs8 => ?_)
          case tu8 => exact keepS _ _ hs7 hbs8
          clear hK K
          have nb4_8 := nbs7.below hbs8 nbs7.lt
          refine stepG 5 (by kernel_rfl) (by simp only [List.getElem?_toArray, List.getElem?_cons_succ, List.getElem?_cons_zero]; rfl) (fun K hK => ?_)
          go_simp
          obtain ⟨ws9, hw9⟩ : ∃ wx : World, wx = ws8.alloc (.cells z.toArray 33) := ⟨_, rfl⟩
          rw [← hw9]
          have hbs9 : Below ws8.heap.size ws8 ws9 := by rw [hw9]; exact below_new _ _
          have nbs9 : Blk ws9 ws8.heap.size 33 z.toArray := by rw [hw9]; exact Blk.new _ _ _
          have szs9 : ws8.heap.size < ws9.heap.size := by rw [hw9]; simp
          clear hw9
          have ges9 : W.heap.size ≤ ws8.heap.size := (hs8).size
          refine hK.out _ _ ?tu9 (fun hs9 => ?_)
          case tu9 => exact keepS _ _ hs8 hbs9
          clear hK K
          have nb4_9 := nb4_8.below hbs9 nb4_8.lt
          refine stepG 6 (by kernel_rfl) (by simp only [List.getElem?_toArray, List.getElem?_cons_succ, List.getElem?_cons_zero]; rfl) (fun K hK => ?_)
          refine step_store_blk rfl 33 (.tmp 5) (.tmp 15) rfl rfl rfl nb4_9 (by rw [lcx.out, lz.out]) (by rw [lcx.out]; exact infoA4) onecx.out ?_
          intro wa hka hga
          refine hK.out _ _ ?ts8 (fun hHeld => ?_)
          case ts8 => ((try dsimp only); exact (hs9).grown hga (hs9).size (by intro k hk; simp at hk; omega))
          clear hK K
          have hkb := (nbs9).keep_grown hga (by simp; omega)
          have hSa := hHeld
          refine stepG 7 (by kernel_rfl) (by simp only [List.getElem?_toArray, List.getElem?_cons_succ, List.getElem?_cons_zero]; rfl) (fun K hK => ?_)
          refine step_store_blk rfl 33 (.tmp 6) (.tmp 17) rfl rfl rfl hkb (by rw [lcy.out, lz.out]) (by rw [lcy.out]; exact infoA4) onecy.out ?_
          intro wb hkb2 hgb
          refine hK.out _ _ ?ts9 (fun hHeld => ?_)
          case ts9 => ((try dsimp only); exact hSa.grown hgb hSa.size (by intro k hk; simp at hk; omega))
          clear hK K
          have hka2 := hka.keep_grown hgb (by simp; omega)
          refine doneG (by kernel_rfl) ?_ _
          go_wp2_with fail
          go_meet
          exact ⟨_, _, rfl, rfl, hka2, hkb2, hHeld⟩
        · refine StepOf.mk 5 (by simp only [List.getElem?_toArray, List.getElem?_cons_succ, List.getElem?_cons_zero]; rfl) (fun K hK => ?_)
          go_simp
          obtain ⟨ws10, hw10⟩ : ∃ wx : World, wx = ws7.alloc (.cells z.toArray 33) := ⟨_, rfl⟩
          rw [← hw10]
          have hbs10 : Below ws7.heap.size ws7 ws10 := by rw [hw10]; exact below_new _ _
          have nbs10 : Blk ws10 ws7.heap.size 33 z.toArray := by rw [hw10]; exact Blk.new _ _ _
          have szs10 : ws7.heap.size < ws10.heap.size := by rw [hw10]; simp
          clear hw10
          have ges10 : W.heap.size ≤ ws7.heap.size := (hs7).size
          refine hK.out _ _ ?tu10 (fun hs10 => ?_)
          case tu10 => exact keepS _ _ hs7 hbs10
          clear hK K
          have nb4_10 := nbs7.below hbs10 nbs7.lt
          refine stepG 3 (by kernel_rfl) (by simp only [List.getElem?_toArray, List.getElem?_cons_succ, List.getElem?_cons_zero]; rfl) (fun K hK => ?_)
          go_simp
          refine (mixl d cd cy Hcd Hcy HD.out _).mono ?_
          rintro e ws11 ⟨rfl, hbs11⟩
          have szs11 := hbs11.size
          refine hK.out _ _ ?tu11 (fun hs11 => ?_)
          case tu11 => exact keepS _ _ hs10 hbs11
          clear hK K
          have nb4_11 := nb4_10.below hbs11 nb4_10.lt
          have nb5_11 := nbs10.below hbs11 nbs10.lt
          refine stepG 6 (by kernel_rfl) (by simp only [List.getElem?_toArray, List.getElem?_cons_succ, List.getElem?_cons_zero]; rfl) (fun K hK => ?_)
          refine step_store_blk rfl 33 (.tmp 5) (.tmp 15) rfl rfl rfl nb4_11 (by rw [lcx.out, lz.out]) (by rw [lcx.out]; exact infoA4) onecx.out ?_
          intro wa hka hga
          refine hK.out _ _ ?ts10 (fun hHeld => ?_)
          case ts10 => ((try dsimp only); exact (hs11).grown hga (hs11).size (by intro k hk; simp at hk; omega))
          clear hK K
          have hkb := (nb5_11).keep_grown hga (by simp; omega)
          have hSa := hHeld
          refine stepG 7 (by kernel_rfl) (by simp only [List.getElem?_toArray, List.getElem?_cons_succ, List.getElem?_cons_zero]; rfl) (fun K hK => ?_)
          refine step_store_blk rfl 33 (.tmp 6) (.tmp 17) rfl rfl rfl hkb (by rw [lcy.out, lz.out]) (by rw [lcy.out]; exact infoA4) onecy.out ?_
          intro wb hkb2 hgb
          refine hK.out _ _ ?ts11 (fun hHeld => ?_)
          case ts11 => ((try dsimp only); exact hSa.grown hgb hSa.size (by intro k hk; simp at hk; omega))
          clear hK K
          have hka2 := hka.keep_grown hgb (by simp; omega)
          refine doneG (by kernel_rfl) ?_ _
          go_wp2_with fail
          go_meet
          exact ⟨_, _, rfl, rfl, hka2, hkb2, hHeld⟩
      · refine StepOf.mk 5 (by simp only [List.getElem?_toArray, List.getElem?_cons_succ, List.getElem?_cons_zero]; rfl) (fun K hK => ?_)
        go_simp
        obtain ⟨ws12, hw12⟩ : ∃ wx : World, wx = ws1.alloc (.cells z.toArray 33) := ⟨_, rfl⟩
        rw [← hw12]
        have hbs12 : Below ws1.heap.size ws1 ws12 := by rw [hw12]; exact below_new _ _
        have nbs12 : Blk ws12 ws1.heap.size 33 z.toArray := by rw [hw12]; exact Blk.new _ _ _
        have szs12 : ws1.heap.size < ws12.heap.size := by rw [hw12]; simp
        clear hw12
        have ges12 : W.heap.size ≤ ws1.heap.size := (hs1).size
        refine hK.out _ _ ?tu12 (fun hs12 => ?_)
        case tu12 => exact keepS _ _ hs1 hbs12
        clear hK K
        refine stepG2 3 4 (by kernel_rfl) ?_ ?_
        · refine StepOf.mk 3 (by simp only [List.getElem?_toArray, List.getElem?_cons_succ, List.getElem?_cons_zero]; rfl) (fun K hK => ?_)
          go_simp
          refine (mixl d cd cy Hcd Hcy HD.out _).mono ?_
          rintro e ws13 ⟨rfl, hbs13⟩
          have szs13 := hbs13.size
          refine hK.out _ _ ?tu13 (fun hs13 => ?_)
          case tu13 => exact keepS _ _ hs12 hbs13
          clear hK K
          have nb5_13 := nbs12.below hbs13 nbs12.lt
          refine stepG 4 (by kernel_rfl) (by simp only [List.getElem?_toArray, List.getElem?_cons_succ, List.getElem?_cons_zero]; rfl) (fun K hK => ?_)
          go_simp
          obtain ⟨ws14, hw14⟩ : ∃ wx : World, wx = ws13.alloc (.cells z.toArray 33) := ⟨_, rfl⟩
          rw [← hw14]
          have hbs14 : Below ws13.heap.size ws13 ws14 := by rw [hw14]; exact below_new _ _
          have nbs14 : Blk ws14 ws13.heap.size 33 z.toArray := by rw [hw14]; exact Blk.new _ _ _
          have szs14 : ws13.heap.size < ws14.heap.size := by rw [hw14]; simp
          clear hw14
          have ges14 : W.heap.size ≤ ws13.heap.size := (hs13).size
          refine hK.out _ _ ?tu14 (fun hs14 => ?_)
          case tu14 => exact keepS _ _ hs13 hbs14
          clear hK K
          have nb5_14 := nb5_13.below hbs14 nb5_13.lt
          refine stepG 6 (by kernel_rfl) (by simp only [List.getElem?_toArray, List.getElem?_cons_succ, List.getElem?_cons_zero]; rfl) (fun K hK => ?_)
          refine step_store_blk rfl 33 (.tmp 5) (.tmp 15) rfl rfl rfl nbs14 (by rw [lcx.out, lz.out]) (by rw [lcx.out]; exact infoA4) onecx.out ?_
          intro wa hka hga
          refine hK.out _ _ ?ts12 (fun hHeld => ?_)
          case ts12 => ((try dsimp only); exact (hs14).grown hga (hs14).size (by intro k hk; simp at hk; omega))
          clear hK K
          have hkb := (nb5_14).keep_grown hga (by simp; omega)
          have hSa := hHeld
          refine stepG 7 (by kernel_rfl) (by simp only [List.getElem?_toArray, List.getElem?_cons_succ, List.getElem?_cons_zero]; rfl) (fun K hK => ?_)
          refine step_store_blk rfl 33 (.tmp 6) (.tmp 17) rfl rfl rfl hkb (by rw [lcy.out, lz.out]) (by rw [lcy.out]; exact infoA4) onecy.out ?_
          intro wb hkb2 hgb
          refine hK.out _ _ ?ts13 (fun hHeld => ?_)
          case ts13 => ((try dsimp only); exact hSa.grown hgb hSa.size (by intro k hk; simp at hk; omega))
          clear hK K
          have hka2 := hka.keep_grown hgb (by simp; omega)
          refine doneG (by kernel_rfl) ?_ _
          go_wp2_with fail
          go_meet
          exact ⟨_, _, rfl, rfl, hka2, hkb2, hHeld⟩
        · refine StepOf.mk 4 (by simp only [List.getElem?_toArray, List.getElem?_cons_succ, List.getElem?_cons_zero]; rfl) (fun K hK => ?_)
          go_simp
          obtain ⟨ws15, hw15⟩ : ∃ wx : World, wx = ws12.alloc (.cells z.toArray 33) := ⟨_, rfl⟩
          rw [← hw15]
          have hbs15 : Below ws12.heap.size ws12 ws15 := by rw [hw15]; exact below_new _ _
          have nbs15 : Blk ws15 ws12.heap.size 33 z.toArray := by rw [hw15]; exact Blk.new _ _ _
          have szs15 : ws12.heap.size < ws15.heap.size := by rw [hw15]; simp
          clear hw15
          have ges15 : W.heap.size ≤ ws12.heap.size := (hs12).size
          refine hK.out _ _ ?tu15 (fun hs15 => ?_)
          case tu15 => exact keepS _ _ hs12 hbs15
          clear hK K
          have nb5_15 := nbs12.below hbs15 nbs12.lt
          refine stepG 3 (by kernel_rfl) (by simp only [List.getElem?_toArray, List.getElem?_cons_succ, List.getElem?_cons_zero]; rfl) (fun K hK => ?_)
          go_simp
          refine (mixl d cd cy Hcd Hcy HD.out _).mono ?_
          rintro e ws16 ⟨rfl, hbs16⟩
          have szs16 := hbs16.size
          refine hK.out _ _ ?tu16 (fun hs16 => ?_)
          case tu16 => exact keepS _ _ hs15 hbs16
          clear hK K
          have nb5_16 := nb5_15.below hbs16 nb5_15.lt
          have nb4_16 := nbs15.below hbs16 nbs15.lt
          refine stepG 6 (by kernel_rfl) (by simp only [List.getElem?_toArray, List.getElem?_cons_succ, List.getElem?_cons_zero]; rfl) (fun K hK => ?_)
          refine step_store_blk rfl 33 (.tmp 5) (.tmp 15) rfl rfl rfl nb4_16 (by rw [lcx.out, lz.out]) (by rw [lcx.out]; exact infoA4) onecx.out ?_
          intro wa hka hga
          refine hK.out _ _ ?ts14 (fun hHeld => ?_)
          case ts14 => ((try dsimp only); exact (hs16).grown hga (hs16).size (by intro k hk; simp at hk; omega))
          clear hK K
          have hkb := (nb5_16).keep_grown hga (by simp; omega)
          have hSa := hHeld
          refine stepG 7 (by kernel_rfl) (by simp only [List.getElem?_toArray, List.getElem?_cons_succ, List.getElem?_cons_zero]; rfl) (fun K hK => ?_)
          refine step_store_blk rfl 33 (.tmp 6) (.tmp 17) rfl rfl rfl hkb (by rw [lcy.out, lz.out]) (by rw [lcy.out]; exact infoA4) onecy.out ?_
          intro wb hkb2 hgb
          refine hK.out _ _ ?ts15 (fun hHeld => ?_)
          case ts15 => ((try dsimp only); exact hSa.grown hgb hSa.size (by intro k hk; simp at hk; omega))
          clear hK K
          have hka2 := hka.keep_grown hgb (by simp; omega)
          refine doneG (by kernel_rfl) ?_ _
          go_wp2_with fail
          go_meet
          exact ⟨_, _, rfl, rfl, hka2, hkb2, hHeld⟩
    · refine StepOf.mk 4 (by simp only [List.getElem?_toArray, List.getElem?_cons_succ, List.getElem?_cons_zero]; rfl) (fun K hK => ?_)
      go_simp
      obtain ⟨ws17, hw17⟩ : ∃ wx : World, wx = V0.alloc (.cells z.toArray 33) := ⟨_, rfl⟩
      rw [← hw17]
      have hbs17 : Below V0.heap.size V0 ws17 := by rw [hw17]; exact below_new _ _
      have nbs17 : Blk ws17 V0.heap.size 33 z.toArray := by rw [hw17]; exact Blk.new _ _ _
      have szs17 : V0.heap.size < ws17.heap.size := by rw [hw17]; simp
      clear hw17
      have ges17 : W.heap.size ≤ V0.heap.size := (hHeld).size
      refine hK.out _ _ ?tu17 (fun hs17 => ?_)
      case tu17 => exact keepS _ _ hHeld hbs17
      clear hK K
      refine stepG2 1 5 (by kernel_rfl) ?_ ?_
      · refine StepOf.mk 1 (by simp only [List.getElem?_toArray, List.getElem?_cons_succ, List.getElem?_cons_zero]; rfl) (fun K hK => ?_)
        go_simp
        refine (mixl c cc cx Hcc Hcx HC.out _).mono ?_
        rintro e ws18 ⟨rfl, hbs18⟩
        have szs18 := hbs18.size
        refine hK.out _ _ ?tu18 (fun hs18 => ?_)
        case tu18 => exact keepS _ _ hs17 hbs18
        clear hK K
        have nb4_18 := nbs17.below hbs18 nbs17.lt
        refine stepG2 3 5 (by kernel_rfl) ?_ ?_
        · refine StepOf.mk 3 (by simp only [List.getElem?_toArray, List.getElem?_cons_succ, List.getElem?_cons_zero]; rfl) (fun K hK => ?_)
          go_simp
          refine (mixl d cd cy Hcd Hcy HD.out _).mono ?_
          rintro e ws19 ⟨rfl, hbs19⟩
          have szs19 := hbs19.size
          refine hK.out _ _ ?tu19 (fun hs19 => ?_)
          case tu19 => exact keepS _ _ hs18 hbs19
          clear hK K
          have nb4_19 := nb4_18.below hbs19 nb4_18.lt
          refine stepG 5 (by kernel_rfl) (by simp only [List.getElem?_toArray, List.getElem?_cons_succ, List.getElem?_cons_zero]; rfl) (fun K hK => ?_)
          go_simp
          obtain ⟨ws20, hw20⟩ : ∃ wx : World, wx = ws19.alloc (.cells z.toArray 33) := ⟨_, rfl⟩
          rw [← hw20]
          have hbs20 : Below ws19.heap.size ws19 ws20 := by rw [hw20]; exact below_new _ _
          have nbs20 : Blk ws20 ws19.heap.size 33 z.toArray := by rw [hw20]; exact Blk.new _ _ _
          have szs20 : ws19.heap.size < ws20.heap.size := by rw [hw20]; simp
          clear hw20
          have ges20 : W.heap.size ≤ ws19.heap.size := (hs19).size
          refine hK.out _ _ ?tu20 (fun hs20 => ?_)
          case tu20 => exact keepS _ _ hs19 hbs20
          clear hK K
          have nb4_20 := nb4_19.below hbs20 nb4_19.lt
          refine stepG 6 (by kernel_rfl) (by simp only [List.getElem?_toArray, List.getElem?_cons_succ, List.getElem?_cons_zero]; rfl) (fun K hK => ?_)
          refine step_store_blk rfl 33 (.tmp 5) (.tmp 15) rfl rfl rfl nb4_20 (by rw [lcx.out, lz.out]) (by rw [lcx.out]; exact infoA4) onecx.out ?_
          intro wa hka hga
          refine hK.out _ _ ?ts16 (fun hHeld => ?_)
          case ts16 => ((try dsimp only); exact (hs20).grown hga (hs20).size (by intro k hk; simp at hk; omega))
          clear hK K
          have hkb := (nbs20).keep_grown hga (by simp; omega)
          have hSa := hHeld
          refine stepG 7 (by kernel_rfl) (by simp only [List.getElem?_toArray, List.getElem?_cons_succ, List.getElem?_cons_zero]; rfl) (fun K hK => ?_)
          refine step_store_blk rfl 33 (.tmp 6) (.tmp 17) rfl rfl rfl hkb (by rw [lcy.out, lz.out]) (by rw [lcy.out]; exact infoA4) onecy.out ?_
          intro wb hkb2 hgb
          refine hK.out _ _ ?ts17 (fun hHeld => ?_)
          case ts17 => ((try dsimp only); exact hSa.grown hgb hSa.size (by intro k hk; simp at hk; omega))
          clear hK K
          have hka2 := hka.keep_grown hgb (by simp; omega)
          refine doneG (by kernel_rfl) ?_ _
          go_wp2_with fail
          go_meet
          exact ⟨_, _, rfl, rfl, hka2, hkb2, hHeld⟩
        · refine StepOf.mk 5 (by simp only [List.getElem?_toArray, List.getElem?_cons_succ, List.getElem?_cons_zero]; rfl) (fun K hK => ?_)
          go_simp
          obtain ⟨ws21, hw21⟩ : ∃ wx : World, wx = ws18.alloc (.cells z.toArray 33) := ⟨_, rfl⟩
          rw [← hw21]
          have hbs21 : Below ws18.heap.size ws18 ws21 := by rw [hw21]; exact below_new _ _
          have nbs21 : Blk ws21 ws18.heap.size 33 z.toArray := by rw [hw21]; exact Blk.new _ _ _
          have szs21 : ws18.heap.size < ws21.heap.size := by rw [hw21]; simp
          clear hw21
          have ges21 : W.heap.size ≤ ws18.heap.size := (hs18).size
          refine hK.out _ _ ?tu21 (fun hs21 => ?_)
          case tu21 => exact keepS _ _ hs18 hbs21
          clear hK K
          have nb4_21 := nb4_18.below hbs21 nb4_18.lt
          refine stepG 3 (by kernel_rfl) (by simp only [List.getElem?_toArray, List.getElem?_cons_succ, List.getElem?_cons_zero]; rfl) (fun K hK => ?_)
          go_simp
          refine (mixl d cd cy Hcd Hcy HD.out _).mono ?_
          rintro e ws22 ⟨rfl, hbs22⟩
          have szs22 := hbs22.size
          refine hK.out _ _ ?tu22 (fun hs22 => ?_)
          case tu22 => exact keepS _ _ hs21 hbs22
          clear hK K
          have nb4_22 := nb4_21.below hbs22 nb4_21.lt
          have nb5_22 := nbs21.below hbs22 nbs21.lt
          refine stepG 6 (by kernel_rfl) (by simp only [List.getElem?_toArray, List.getElem?_cons_succ, List.getElem?_cons_zero]; rfl) (fun K hK => ?_)
          refine step_store_blk rfl 33 (.tmp 5) (.tmp 15) rfl rfl rfl nb4_22 (by rw [lcx.out, lz.out]) (by rw [lcx.out]; exact infoA4) onecx.out ?_
          intro wa hka hga
          refine hK.out _ _ ?ts18 (fun hHeld => ?_)
          case ts18 => ((try dsimp only); exact (hs22).grown hga (hs22).size (by intro k hk; simp at hk; omega))
          clear hK K
          have hkb := (nb5_22).keep_grown hga (by simp; omega)
          have hSa := hHeld
          refine stepG 7 (by kernel_rfl) (by simp only [List.getElem?_toArray, List.getElem?_cons_succ, List.getElem?_cons_zero]; rfl) (fun K hK => ?_)
          refine step_store_blk rfl 33 (.tmp 6) (.tmp 17) rfl rfl rfl hkb (by rw [lcy.out, lz.out]) (by rw [lcy.out]; exact infoA4) onecy.out ?_
          intro wb hkb2 hgb
          refine hK.out _ _ ?ts19 (fun hHeld => ?_)
          case ts19 => ((try dsimp only); exact hSa.grown hgb hSa.size (by intro k hk; simp at hk; omega))
          clear hK K
          have hka2 := hka.keep_grown hgb (by simp; omega)
          refine doneG (by kernel_rfl) ?_ _
          go_wp2_with fail
          go_meet
          exact ⟨_, _, rfl, rfl, hka2, hkb2, hHeld⟩
      · refine StepOf.mk 5 (by simp only [List.getElem?_toArray, List.getElem?_cons_succ, List.getElem?_cons_zero]; rfl) (fun K hK => ?_)
        go_simp
        obtain ⟨ws23, hw23⟩ : ∃ wx : World, wx = ws17.alloc (.cells z.toArray 33) := ⟨_, rfl⟩
        rw [← hw23]
        have hbs23 : Below ws17.heap.size ws17 ws23 := by rw [hw23]; exact below_new _ _
        have nbs23 : Blk ws23 ws17.heap.size 33 z.toArray := by rw [hw23]; exact Blk.new _ _ _
        have szs23 : ws17.heap.size < ws23.heap.size := by rw [hw23]; simp
        clear hw23
        have ges23 : W.heap.size ≤ ws17.heap.size := (hs17).size
        refine hK.out _ _ ?tu23 (fun hs23 => ?_)
        case tu23 => exact keepS _ _ hs17 hbs23
        clear hK K
        have nb4_23 := nbs17.below hbs23 nbs17.lt
        refine stepG 1 (by kernel_rfl) (by simp only [List.getElem?_toArray, List.getElem?_cons_succ, List.getElem?_cons_zero]; rfl) (fun K hK => ?_)
        go_simp
        refine (mixl c cc cx Hcc Hcx HC.out _).mono ?_
        rintro e ws24 ⟨rfl, hbs24⟩
        have szs24 := hbs24.size
        refine hK.out _ _ ?tu24 (fun hs24 => ?_)
        case tu24 => exact keepS _ _ hs23 hbs24
        clear hK K
        have nb4_24 := nb4_23.below hbs24 nb4_23.lt
        have nb5_24 := nbs23.below hbs24 nbs23.lt
        refine stepG 3 (by kernel_rfl) (by simp only [List.getElem?_toArray, List.getElem?_cons_succ, List.getElem?_cons_zero]; rfl) (fun K hK => ?_)
        go_simp
        refine (mixl d cd cy Hcd Hcy HD.out _).mono ?_
        rintro e ws25 ⟨rfl, hbs25⟩
        have szs25 := hbs25.size
        refine hK.out _ _ ?tu25 (fun hs25 => ?_)
        case tu25 => exact keepS _ _ hs24 hbs25
        clear hK K
        have nb4_25 := nb4_24.below hbs25 nb4_24.lt
        have nb5_25 := nb5_24.below hbs25 nb5_24.lt
        refine stepG 6 (by kernel_rfl) (by simp only [List.getElem?_toArray, List.getElem?_cons_succ, List.getElem?_cons_zero]; rfl) (fun K hK => ?_)
        refine step_store_blk rfl 33 (.tmp 5) (.tmp 15) rfl rfl rfl nb4_25 (by rw [lcx.out, lz.out]) (by rw [lcx.out]; exact infoA4) onecx.out ?_
        intro wa hka hga
        refine hK.out _ _ ?ts20 (fun hHeld => ?_)
        case ts20 => ((try dsimp only); exact (hs25).grown hga (hs25).size (by intro k hk; simp at hk; omega))
        clear hK K
        have hkb := (nb5_25).keep_grown hga (by simp; omega)
        have hSa := hHeld
        refine stepG 7 (by kernel_rfl) (by simp only [List.getElem?_toArray, List.getElem?_cons_succ, List.getElem?_cons_zero]; rfl) (fun K hK => ?_)
        refine step_store_blk rfl 33 (.tmp 6) (.tmp 17) rfl rfl rfl hkb (by rw [lcy.out, lz.out]) (by rw [lcy.out]; exact infoA4) onecy.out ?_
        intro wb hkb2 hgb
        refine hK.out _ _ ?ts21 (fun hHeld => ?_)
        case ts21 => ((try dsimp only); exact hSa.grown hgb hSa.size (by intro k hk; simp at hk; omega))
        clear hK K
        have hka2 := hka.keep_grown hgb (by simp; omega)
        refine doneG (by kernel_rfl) ?_ _
        go_wp2_with fail
        go_meet
        exact ⟨_, _, rfl, rfl, hka2, hkb2, hHeld⟩
    · refine StepOf.mk 5 (by simp only [List.getElem?_toArray, List.getElem?_cons_succ, List.getElem?_cons_zero]; rfl) (fun K hK => ?_)
      go_simp
      obtain ⟨ws26, hw26⟩ : ∃ wx : World, wx = V0.alloc (.cells z.toArray 33) := ⟨_, rfl⟩
      rw [← hw26]
      have hbs26 : Below V0.heap.size V0 ws26 := by rw [hw26]; exact below_new _ _
      have nbs26 : Blk ws26 V0.heap.size 33 z.toArray := by rw [hw26]; exact Blk.new _ _ _
      have szs26 : V0.heap.size < ws26.heap.size := by rw [hw26]; simp
      clear hw26
      have ges26 : W.heap.size ≤ V0.heap.size := (hHeld).size
      refine hK.out _ _ ?tu26 (fun hs26 => ?_)
      case tu26 => exact keepS _ _ hHeld hbs26
      clear hK K
      refine stepG2 1 4 (by kernel_rfl) ?_ ?_
      · refine StepOf.mk 1 (by simp only [List.getElem?_toArray, List.getElem?_cons_succ, List.getElem?_cons_zero]; rfl) (fun K hK => ?_)
        go_simp
        refine (mixl c cc cx Hcc Hcx HC.out _).mono ?_
        rintro e ws27 ⟨rfl, hbs27⟩
        have szs27 := hbs27.size
        refine hK.out _ _ ?tu27 (fun hs27 => ?_)
        case tu27 => exact keepS _ _ hs26 hbs27
        clear hK K
        have nb5_27 := nbs26.below hbs27 nbs26.lt
        refine stepG2 3 4 (by kernel_rfl) ?_ ?_
        · refine StepOf.mk 3 (by simp only [List.getElem?_toArray, List.getElem?_cons_succ, List.getElem?_cons_zero]; rfl) (fun K hK => ?_)
          go_simp
          refine (mixl d cd cy Hcd Hcy HD.out _).mono ?_
          rintro e ws28 ⟨rfl, hbs28⟩
          have szs28 := hbs28.size
          refine hK.out _ _ ?tu28 (fun hs28 => ?_)
          case tu28 => exact keepS _ _ hs27 hbs28
          clear hK K
          have nb5_28 := nb5_27.below hbs28 nb5_27.lt
          refine stepG 4 (by kernel_rfl) (by simp only [List.getElem?_toArray, List.getElem?_cons_succ, List.getElem?_cons_zero]; rfl) (fun K hK => ?_)
          go_simp
          obtain ⟨ws29, hw29⟩ : ∃ wx : World, wx = ws28.alloc (.cells z.toArray 33) := ⟨_, rfl⟩
          rw [← hw29]
          have hbs29 : Below ws28.heap.size ws28 ws29 := by rw [hw29]; exact below_new _ _
          have nbs29 : Blk ws29 ws28.heap.size 33 z.toArray := by rw [hw29]; exact Blk.new _ _ _
          have szs29 : ws28.heap.size < ws29.heap.size := by rw [hw29]; simp
          clear hw29
          have ges29 : W.heap.size ≤ ws28.heap.size := (hs28).size
          refine hK.out _ _ ?tu29 (fun hs29 => ?_)
          case tu29 => exact keepS _ _ hs28 hbs29
          clear hK K
          have nb5_29 := nb5_28.below hbs29 nb5_28.lt
          refine stepG 6 (by kernel_rfl) (by simp only [List.getElem?_toArray, List.getElem?_cons_succ, List.getElem?_cons_zero]; rfl) (fun K hK => ?_)
          refine step_store_blk rfl 33 (.tmp 5) (.tmp 15) rfl rfl rfl nbs29 (by rw [lcx.out, lz.out]) (by rw [lcx.out]; exact infoA4) onecx.out ?_
          intro wa hka hga
          refine hK.out _ _ ?ts22 (fun hHeld => ?_)
          case ts22 => ((try dsimp only); exact (hs29).grown hga (hs29).size (by intro k hk; simp at hk; omega))
          clear hK K
          have hkb := (nb5_29).keep_grown hga (by simp; omega)
          have hSa := hHeld
          refine stepG 7 (by kernel_rfl) (by simp only [List.getElem?_toArray, List.getElem?_cons_succ, List.getElem?_cons_zero]; rfl) (fun K hK => ?_)
          refine step_store_blk rfl 33 (.tmp 6) (.tmp 17) rfl rfl rfl hkb (by rw [lcy.out, lz.out]) (by rw [lcy.out]; exact infoA4) onecy.out ?_
          intro wb hkb2 hgb
          refine hK.out _ _ ?ts23 (fun hHeld => ?_)
          case ts23 => ((try dsimp only); exact hSa.grown hgb hSa.size (by intro k hk; simp at hk; omega))
          clear hK K
          have hka2 := hka.keep_grown hgb (by simp; omega)
          refine doneG (by kernel_rfl) ?_ _
          go_wp2_with fail
          go_meet
          exact ⟨_, _, rfl, rfl, hka2, hkb2, hHeld⟩
        · refine StepOf.mk 4 (by simp only [List.getElem?_toArray, List.getElem?_cons_succ, List.getElem?_cons_zero]; rfl) (fun K hK => ?_)
          go_simp
          obtain ⟨ws30, hw30⟩ : ∃ wx : World, wx = ws27.alloc (.cells z.toArray 33) := ⟨_, rfl⟩
          rw [← hw30]
          have hbs30 : Below ws27.heap.size ws27 ws30 := by rw [hw30]; exact below_new _ _
          have nbs30 : Blk ws30 ws27.heap.size 33 z.toArray := by rw [hw30]; exact Blk.new _ _ _
          have szs30 : ws27.heap.size < ws30.heap.size := by rw [hw30]; simp
          clear hw30
          have ges30 : W.heap.size ≤ ws27.heap.size := (hs27).size
          refine hK.out _ _ ?tu30 (fun hs30 => ?_)
          case tu30 => exact keepS _ _ hs27 hbs30
          clear hK K
          have nb5_30 := nb5_27.below hbs30 nb5_27.lt
          refine stepG 3 (by kernel_rfl) (by simp only [List.getElem?_toArray, List.getElem?_cons_succ, List.getElem?_cons_zero]; rfl) (fun K hK => ?_)
          go_simp
          refine (mixl d cd cy Hcd Hcy HD.out _).mono ?_
          rintro e ws31 ⟨rfl, hbs31⟩
          have szs31 := hbs31.size
          refine hK.out _ _ ?tu31 (fun hs31 => ?_)
          case tu31 => exact keepS _ _ hs30 hbs31
          clear hK K
          have nb5_31 := nb5_30.below hbs31 nb5_30.lt
          have nb4_31 := nbs30.below hbs31 nbs30.lt
          refine stepG 6 (by kernel_rfl) (by simp only [List.getElem?_toArray, List.getElem?_cons_succ, List.getElem?_cons_zero]; rfl) (fun K hK => ?_)
          refine step_store_blk rfl 33 (.tmp 5) (.tmp 15) rfl rfl rfl nb4_31 (by rw [lcx.out, lz.out]) (by rw [lcx.out]; exact infoA4) onecx.out ?_
          intro wa hka hga
          refine hK.out _ _ ?ts24 (fun hHeld => ?_)
          case ts24 => ((try dsimp only); exact (hs31).grown hga (hs31).size (by intro k hk; simp at hk; omega))
          clear hK K
          have hkb := (nb5_31).keep_grown hga (by simp; omega)
          have hSa := hHeld
          refine stepG 7 (by kernel_rfl) (by simp only [List.getElem?_toArray, List.getElem?_cons_succ, List.getElem?_cons_zero]; rfl) (fun K hK => ?_)
          refine step_store_blk rfl 33 (.tmp 6) (.tmp 17) rfl rfl rfl hkb (by rw [lcy.out, lz.out]) (by rw [lcy.out]; exact infoA4) onecy.out ?_
          intro wb hkb2 hgb
          refine hK.out _ _ ?ts25 (fun hHeld => ?_)
          case ts25 => ((try dsimp only); exact hSa.grown hgb hSa.size (by intro k hk; simp at hk; omega))
          clear hK K
          have hka2 := hka.keep_grown hgb (by simp; omega)
          refine doneG (by kernel_rfl) ?_ _
          go_wp2_with fail
          go_meet
          exact ⟨_, _, rfl, rfl, hka2, hkb2, hHeld⟩
      · refine StepOf.mk 4 (by simp only [List.getElem?_toArray, List.getElem?_cons_succ, List.getElem?_cons_zero]; rfl) (fun K hK => ?_)
        go_simp
        obtain ⟨ws32, hw32⟩ : ∃ wx : World, wx = ws26.alloc (.cells z.toArray 33) := ⟨_, rfl⟩
        rw [← hw32]
        have hbs32 : Below ws26.heap.size ws26 ws32 := by rw [hw32]; exact below_new _ _
        have nbs32 : Blk ws32 ws26.heap.size 33 z.toArray := by rw [hw32]; exact Blk.new _ _ _
        have szs32 : ws26.heap.size < ws32.heap.size := by rw [hw32]; simp
        clear hw32
        have ges32 : W.heap.size ≤ ws26.heap.size := (hs26).size
        refine hK.out _ _ ?tu32 (fun hs32 => ?_)
        case tu32 => exact keepS _ _ hs26 hbs32
        clear hK K
        have nb5_32 := nbs26.below hbs32 nbs26.lt
        refine stepG 1 (by kernel_rfl) (by simp only [List.getElem?_toArray, List.getElem?_cons_succ, List.getElem?_cons_zero]; rfl) (fun K hK => ?_)
        go_simp
        refine (mixl c cc cx Hcc Hcx HC.out _).mono ?_
        rintro e ws33 ⟨rfl, hbs33⟩
        have szs33 := hbs33.size
        refine hK.out _ _ ?tu33 (fun hs33 => ?_)
        case tu33 => exact keepS _ _ hs32 hbs33
        clear hK K
        have nb5_33 := nb5_32.below hbs33 nb5_32.lt
        have nb4_33 := nbs32.below hbs33 nbs32.lt
        refine stepG 3 (by kernel_rfl) (by simp only [List.getElem?_toArray, List.getElem?_cons_succ, List.getElem?_cons_zero]; rfl) (fun K hK => ?_)
        go_simp
        refine (mixl d cd cy Hcd Hcy HD.out _).mono ?_
        rintro e ws34 ⟨rfl, hbs34⟩
        have szs34 := hbs34.size
        refine hK.out _ _ ?tu34 (fun hs34 => ?_)
        case tu34 => exact keepS _ _ hs33 hbs34
        clear hK K
        have nb5_34 := nb5_33.below hbs34 nb5_33.lt
        have nb4_34 := nb4_33.below hbs34 nb4_33.lt
        refine stepG 6 (by kernel_rfl) (by simp only [List.getElem?_toArray, List.getElem?_cons_succ, List.getElem?_cons_zero]; rfl) (fun K hK => ?_)
        refine step_store_blk rfl 33 (.tmp 5) (.tmp 15) rfl rfl rfl nb4_34 (by rw [lcx.out, lz.out]) (by rw [lcx.out]; exact infoA4) onecx.out ?_
        intro wa hka hga
        refine hK.out _ _ ?ts26 (fun hHeld => ?_)
        case ts26 => ((try dsimp only); exact (hs34).grown hga (hs34).size (by intro k hk; simp at hk; omega))
        clear hK K
        have hkb := (nb5_34).keep_grown hga (by simp; omega)
        have hSa := hHeld
        refine stepG 7 (by kernel_rfl) (by simp only [List.getElem?_toArray, List.getElem?_cons_succ, List.getElem?_cons_zero]; rfl) (fun K hK => ?_)
        refine step_store_blk rfl 33 (.tmp 6) (.tmp 17) rfl rfl rfl hkb (by rw [lcy.out, lz.out]) (by rw [lcy.out]; exact infoA4) onecy.out ?_
        intro wb hkb2 hgb
        refine hK.out _ _ ?ts27 (fun hHeld => ?_)
        case ts27 => ((try dsimp only); exact hSa.grown hgb hSa.size (by intro k hk; simp at hk; omega))
        clear hK K
        have hka2 := hka.keep_grown hgb (by simp; omega)
        refine doneG (by kernel_rfl) ?_ _
        go_wp2_with fail
        go_meet
        exact ⟨_, _, rfl, rfl, hka2, hkb2, hHeld⟩
  case rest =>
    obtain ⟨b5, b6, rfl, rfl, k5, k6, hbw⟩ := hcut
    obtain ⟨w1, rfl⟩ : ∃ w1 : World, w1 = wc := ⟨_, rfl⟩
    have LC := Lib.hid (KC.out.below hbw KC.out.lt)
    have LD := Lib.hid (KD.out.below hbw KD.out.lt)
    have L5 := Lib.hid k5
    have L6 := Lib.hid k6
    have LB := Lib.hid (HB.out.trans (hbw.mono (Nat.le_of_lt KC.out.lt)))
    clear k5 k6 hbw
    go_upto_region 2 with fail
    go_cut [7, 8] (fun s7 s8 wx => ∃ b7 b8 : Nat, s7 = .pointer (some ⟨b7, 0, none⟩) ∧ s8 = .pointer (some ⟨b8, 0, none⟩) ∧ Blk wx b7 33 cu.toArray ∧ Blk wx b8 33 cv.toArray ∧ Below w1.heap.size w1 wx)
    case first =>
      have TR : Hid (∀ wx, Below w1.heap.size w1 wx → Blk wx H 33 cc.toArray ∧ Blk wx (H + 1) 33 cd.toArray) := fun wx h => ⟨LC.out.below h LC.out.lt, LD.out.below h LD.out.lt⟩
      have KS : Hid (∀ wa wb, Below w1.heap.size w1 wa → Below wa.heap.size wa wb → Below w1.heap.size w1 wb) := fun wa wb h hb => h.trans (hb.mono h.size)
      refine region_gate 8 (fun w' => Below w1.heap.size w1 w') (by kernel_rfl) ?th28 (fun hHeld => ?tk28)
      case th28 => ((try dsimp only); exact (Below.refl _ _).drew)
      obtain ⟨V0, hV0⟩ : ∃ V0, V0 = w1.drew := ⟨_, rfl⟩
      rw [← hV0] at hHeld ⊢
      clear hV0
      have keepS := KS.out
      refine' takeV 0 (oi := _) (d := _) (v := _) ?ti29 ?td29 (by kernel_rfl) (by kernel_rfl) (by kernel_rfl) (by kernel_rfl) (by decide) (fun _ _ _ _ _ h => h) ?tg29 ?ty29 (by assumption) ?tr29
      case ti29 => (simp only [List.getElem?_toArray, List.getElem?_cons_succ, List.getElem?_cons_zero]; rfl)
      case td29 => exact rfl
      case tg29 => exact rfl
      case ty29 => (intro w hSw; (try dsimp only at hSw); rw [exec_load_blk 33 (.tmp 2) rfl rfl (TR.out _ hSw).1 _ HU.out rfl (by rw [lcc.out]; exact infoA4)])
      simp only [List.setIfInBounds_toArray, List.set_cons_zero, List.set_cons_succ]
      refine' takeV 2 (oi := _) (d := _) (v := _) ?ti30 ?td30 (by kernel_rfl) (by kernel_rfl) (by kernel_rfl) (by kernel_rfl) (by decide) (fun _ _ _ _ _ h => h) ?tg30 ?ty30 (by assumption) ?tr30
      case ti30 => (simp only [List.getElem?_toArray, List.getElem?_cons_succ, List.getElem?_cons_zero]; rfl)
      case td30 => exact rfl
      case tg30 => exact rfl
      case ty30 => (intro w hSw; (try dsimp only at hSw); rw [exec_load_blk 33 (.tmp 3) rfl rfl (TR.out _ hSw).2 _ HU.out rfl (by rw [lcd.out]; exact infoA4)])
      simp only [List.setIfInBounds_toArray, List.set_cons_zero, List.set_cons_succ]
      refine stepG3 1 4 5 (by kernel_rfl) ?_ ?_ ?_
      · refine StepOf.mk 1 (by simp only [List.getElem?_toArray, List.getElem?_cons_succ, List.getElem?_cons_zero]; rfl) (fun K hK => ?_)
        go_simp
        refine (unmixl c cc cu Hcc Hcu HC.out _).mono ?_
        rintro e ws35 ⟨rfl, hbs35⟩
        have szs35 := hbs35.size
        refine hK.out _ _ ?tu35 (fun hs35 => ?_)
        case tu35 => exact keepS _ _ hHeld hbs35
        clear hK K
        refine stepG3 3 4 5 (by kernel_rfl) ?_ ?_ ?_
        · refine StepOf.mk 3 (by simp only [List.getElem?_toArray, List.getElem?_cons_succ, List.getElem?_cons_zero]; rfl) (fun K hK => ?_)
          go_simp
          refine (unmixl d cd cv Hcd Hcv HD.out _).mono ?_
          rintro e ws36 ⟨rfl, hbs36⟩
          have szs36 := hbs36.size
          refine hK.out _ _ ?tu36 (fun hs36 => ?_)
          case tu36 => exact keepS _ _ hs35 hbs36
          clear hK K
          refine stepG2 4 5 (by kernel_rfl) ?_ ?_
          · refine StepOf.mk 4 (by simp only [List.getElem?_toArray, List.getElem?_cons_succ, List.getElem?_cons_zero]; rfl) (fun K hK => ?_)
            go_simp
            obtain ⟨ws37, hw37⟩ : ∃ wx : World, wx = ws36.alloc (.cells z.toArray 33) := ⟨_, rfl⟩
            rw [← hw37]
            have hbs37 : Below ws36.heap.size ws36 ws37 := by rw [hw37]; exact below_new _ _
            have nbs37 : Blk ws37 ws36.heap.size 33 z.toArray := by rw [hw37]; exact Blk.new _ _ _
            have szs37 : ws36.heap.size < ws37.heap.size := by rw [hw37]; simp
            clear hw37
            have ges37 : w1.heap.size ≤ ws36.heap.size := (hs36).size
            refine hK.out _ _ ?tu37 (fun hs37 => ?_)
            case tu37 => exact keepS _ _ hs36 hbs37
            clear hK K
            refine stepG 5 (by kernel_rfl) (by simp only [List.getElem?_toArray, List.getElem?_cons_succ, List.getElem?_cons_zero]; rfl) (fun K hK => ?_)
            go_simp
            obtain ⟨ws38, hw38⟩ : ∃ wx : World, wx = ws37.alloc (.cells z.toArray 33) := ⟨_, rfl⟩
            rw [← hw38]
            have hbs38 : Below ws37.heap.size ws37 ws38 := by rw [hw38]; exact below_new _ _
            have nbs38 : Blk ws38 ws37.heap.size 33 z.toArray := by rw [hw38]; exact Blk.new _ _ _
            have szs38 : ws37.heap.size < ws38.heap.size := by rw [hw38]; simp
            clear hw38
            have ges38 : w1.heap.size ≤ ws37.heap.size := (hs37).size
            refine hK.out _ _ ?tu38 (fun hs38 => ?_)
            case tu38 => exact keepS _ _ hs37 hbs38
            clear hK K
            have nb4_38 := nbs37.below hbs38 nbs37.lt
            refine stepG 6 (by kernel_rfl) (by simp only [List.getElem?_toArray, List.getElem?_cons_succ, List.getElem?_cons_zero]; rfl) (fun K hK => ?_)
            refine step_store_blk rfl 33 (.tmp 7) (.tmp 19) rfl rfl rfl nb4_38 (by rw [lcu.out, lz.out]) (by rw [lcu.out]; exact infoA4) onecu.out ?_
            intro wa hka hga
            refine hK.out _ _ ?ts31 (fun hHeld => ?_)
            case ts31 => ((try dsimp only); exact (hs38).grown hga (hs38).size (by intro k hk; simp at hk; omega))
            clear hK K
            have hkb := (nbs38).keep_grown hga (by simp; omega)
            have hSa := hHeld
            refine stepG 7 (by kernel_rfl) (by simp only [List.getElem?_toArray, List.getElem?_cons_succ, List.getElem?_cons_zero]; rfl) (fun K hK => ?_)
            refine step_store_blk rfl 33 (.tmp 8) (.tmp 21) rfl rfl rfl hkb (by rw [lcv.out, lz.out]) (by rw [lcv.out]; exact infoA4) onecv.out ?_
            intro wb hkb2 hgb
            refine hK.out _ _ ?ts32 (fun hHeld => ?_)
            case ts32 => ((try dsimp only); exact hSa.grown hgb hSa.size (by intro k hk; simp at hk; omega))
            clear hK K
            have hka2 := hka.keep_grown hgb (by simp; omega)
            refine doneG (by kernel_rfl) ?_ _
            go_wp2_with fail
            go_meet
            exact ⟨_, _, rfl, rfl, hka2, hkb2, hHeld⟩
          · refine StepOf.mk 5 (by simp only [List.getElem?_toArray, List.getElem?_cons_succ, List.getElem?_cons_zero]; rfl) (fun K hK => ?_)
            go_simp
            obtain ⟨ws39, hw39⟩ : ∃ wx : World, wx = ws36.alloc (.cells z.toArray 33) := ⟨_, rfl⟩
            rw [← hw39]
            have hbs39 : Below ws36.heap.size ws36 ws39 := by rw [hw39]; exact below_new _ _
            have nbs39 : Blk ws39 ws36.heap.size 33 z.toArray := by rw [hw39]; exact Blk.new _ _ _
            have szs39 : ws36.heap.size < ws39.heap.size := by rw [hw39]; simp
            clear hw39
            have ges39 : w1.heap.size ≤ ws36.heap.size := (hs36).size
            refine hK.out _ _ ?tu39 (fun hs39 => ?_)
            case tu39 => exact keepS _ _ hs36 hbs39
            clear hK K
            refine stepG 4 (by kernel_rfl) (by simp only [List.getElem?_toArray, List.getElem?_cons_succ, List.getElem?_cons_zero]; rfl) (fun K hK => ?_)
            go_simp
            obtain ⟨ws40, hw40⟩ : ∃ wx : World, wx = ws39.alloc (.cells z.toArray 33) := ⟨_, rfl⟩
            rw [← hw40]
            have hbs40 : Below ws39.heap.size ws39 ws40 := by rw [hw40]; exact below_new _ _
            have nbs40 : Blk ws40 ws39.heap.size 33 z.toArray := by rw [hw40]; exact Blk.new _ _ _
            have szs40 : ws39.heap.size < ws40.heap.size := by rw [hw40]; simp
            clear hw40
            have ges40 : w1.heap.size ≤ ws39.heap.size := (hs39).size
            refine hK.out _ _ ?tu40 (fun hs40 => ?_)
            case tu40 => exact keepS _ _ hs39 hbs40
            clear hK K
            have nb5_40 := nbs39.below hbs40 nbs39.lt
            refine stepG 6 (by kernel_rfl) (by simp only [List.getElem?_toArray, List.getElem?_cons_succ, List.getElem?_cons_zero]; rfl) (fun K hK => ?_)
            refine step_store_blk rfl 33 (.tmp 7) (.tmp 19) rfl rfl rfl nbs40 (by rw [lcu.out, lz.out]) (by rw [lcu.out]; exact infoA4) onecu.out ?_
            intro wa hka hga
            refine hK.out _ _ ?ts33 (fun hHeld => ?_)
            case ts33 => ((try dsimp only); exact (hs40).grown hga (hs40).size (by intro k hk; simp at hk; omega))
            clear hK K
            have hkb := (nb5_40).keep_grown hga (by simp; omega)
            have hSa := hHeld
            refine stepG 7 (by kernel_rfl) (by simp only [List.getElem?_toArray, List.getElem?_cons_succ, List.getElem?_cons_zero]; rfl) (fun K hK => ?_)
            refine step_store_blk rfl 33 (.tmp 8) (.tmp 21) rfl rfl rfl hkb (by rw [lcv.out, lz.out]) (by rw [lcv.out]; exact infoA4) onecv.out ?_
            intro wb hkb2 hgb
            refine hK.out _ _ ?ts34 (fun hHeld => ?_)
            case ts34 => ((try dsimp only); exact hSa.grown hgb hSa.size (by intro k hk; simp at hk; omega))
            clear hK K
            have hka2 := hka.keep_grown hgb (by simp; omega)
            refine doneG (by kernel_rfl) ?_ _
            go_wp2_with fail
            go_meet
            exact ⟨_, _, rfl, rfl, hka2, hkb2, hHeld⟩
        · refine StepOf.mk 4 (by simp only [List.getElem?_toArray, List.getElem?_cons_succ, List.getElem?_cons_zero]; rfl) (fun K hK => ?_)
          go_simp
          obtain ⟨ws41, hw41⟩ : ∃ wx : World, wx = ws35.alloc (.cells z.toArray 33) := ⟨_, rfl⟩
          rw [← hw41]
          have hbs41 : Below ws35.heap.size ws35 ws41 := by rw [hw41]; exact below_new _ _
          have nbs41 : Blk ws41 ws35.heap.size 33 z.toArray := by rw [hw41]; exact Blk.new _ _ _
          have szs41 : ws35.heap.size < ws41.heap.size := by rw [hw41]; simp
          clear hw41
          have ges41 : w1.heap.size ≤ ws35.heap.size := (hs35).size
          refine hK.out _ _ ?tu41 (fun hs41 => ?_)
          case tu41 => exact keepS _ _ hs35 hbs41
          clear hK K
          refine stepG2 3 5 (by kernel_rfl) ?_ ?_
          · refine StepOf.mk 3 (by simp only [List.getElem?_toArray, List.getElem?_cons_succ, List.getElem?_cons_zero]; rfl) (fun K hK => ?_)
            go_simp
            refine (unmixl d cd cv Hcd Hcv HD.out _).mono ?_
            rintro e ws42 ⟨rfl, hbs42⟩
            have szs42 := hbs42.size
            refine hK.out _ _ ?tu42 (fun hs42 => ?_)
            case tu42 => exact keepS _ _ hs41 hbs42
            clear hK K
            have nb4_42 := nbs41.below hbs42 nbs41.lt
            refine stepG 5 (by kernel_rfl) (by simp only [List.getElem?_toArray, List.getElem?_cons_succ, List.getElem?_cons_zero]; rfl) (fun K hK => ?_)
            go_simp
            obtain ⟨ws43, hw43⟩ : ∃ wx : World, wx = ws42.alloc (.cells z.toArray 33) := ⟨_, rfl⟩
            rw [← hw43]
            have hbs43 : Below ws42.heap.size ws42 ws43 := by rw [hw43]; exact below_new _ _
            have nbs43 : Blk ws43 ws42.heap.size 33 z.toArray := by rw [hw43]; exact Blk.new _ _ _
            have szs43 : ws42.heap.size < ws43.heap.size := by rw [hw43]; simp
            clear hw43
            have ges43 : w1.heap.size ≤ ws42.heap.size := (hs42).size
            refine hK.out _ _ ?tu43 (fun hs43 => ?_)
            case tu43 => exact keepS _ _ hs42 hbs43
            clear hK K
            have nb4_43 := nb4_42.below hbs43 nb4_42.lt
            refine stepG 6 (by kernel_rfl) (by simp only [List.getElem?_toArray, List.getElem?_cons_succ, List.getElem?_cons_zero]; rfl) (fun K hK => ?_)
            refine step_store_blk rfl 33 (.tmp 7) (.tmp 19) rfl rfl rfl nb4_43 (by rw [lcu.out, lz.out]) (by rw [lcu.out]; exact infoA4) onecu.out ?_
            intro wa hka hga
            refine hK.out _ _ ?ts35 (fun hHeld => ?_)
            case ts35 => ((try dsimp only); exact (hs43).grown hga (hs43).size (by intro k hk; simp at hk; omega))
            clear hK K
            have hkb := (nbs43).keep_grown hga (by simp; omega)
            have hSa := hHeld
            refine stepG 7 (by kernel_rfl) (by simp only [List.getElem?_toArray, List.getElem?_cons_succ, List.getElem?_cons_zero]; rfl) (fun K hK => ?_)
            refine step_store_blk rfl 33 (.tmp 8) (.tmp 21) rfl rfl rfl hkb (by rw [lcv.out, lz.out]) (by rw [lcv.out]; exact infoA4) onecv.out ?_
            intro wb hkb2 hgb
            refine hK.out _ _ ?ts36 (fun hHeld => ?_)
            case ts36 => ((try dsimp only); exact hSa.grown hgb hSa.size (by intro k hk; simp at hk; omega))
            clear hK K
            have hka2 := hka.keep_grown hgb (by simp; omega)
            refine doneG (by kernel_rfl) ?_ _
            go_wp2_with fail
            go_meet
            exact ⟨_, _, rfl, rfl, hka2, hkb2, hHeld⟩
          · refine StepOf.mk 5 (by simp only [List.getElem?_toArray, List.getElem?_cons_succ, List.getElem?_cons_zero]; rfl) (fun K hK => ?_)
            go_simp
            obtain ⟨ws44, hw44⟩ : ∃ wx : World, wx = ws41.alloc (.cells z.toArray 33) := ⟨_, rfl⟩
            rw [← hw44]
            have hbs44 : Below ws41.heap.size ws41 ws44 := by rw [hw44]; exact below_new _ _
            have nbs44 : Blk ws44 ws41.heap.size 33 z.toArray := by rw [hw44]; exact Blk.new _ _ _
            have szs44 : ws41.heap.size < ws44.heap.size := by rw [hw44]; simp
            clear hw44
            have ges44 : w1.heap.size ≤ ws41.heap.size := (hs41).size
            refine hK.out _ _ ?tu44 (fun hs44 => ?_)
            case tu44 => exact keepS _ _ hs41 hbs44
            clear hK K
            have nb4_44 := nbs41.below hbs44 nbs41.lt
            refine stepG 3 (by kernel_rfl) (by simp only [List.getElem?_toArray, List.getElem?_cons_succ, List.getElem?_cons_zero]; rfl) (fun K hK => ?_)
            go_simp
            refine (unmixl d cd cv Hcd Hcv HD.out _).mono ?_
            rintro e ws45 ⟨rfl, hbs45⟩
            have szs45 := hbs45.size
            refine hK.out _ _ ?tu45 (fun hs45 => ?_)
            case tu45 => exact keepS _ _ hs44 hbs45
            clear hK K
            have nb4_45 := nb4_44.below hbs45 nb4_44.lt
            have nb5_45 := nbs44.below hbs45 nbs44.lt
            refine stepG 6 (by kernel_rfl) (by simp only [List.getElem?_toArray, List.getElem?_cons_succ, List.getElem?_cons_zero]; rfl) (fun K hK => ?_)
            refine step_store_blk rfl 33 (.tmp 7) (.tmp 19) rfl rfl rfl nb4_45 (by rw [lcu.out, lz.out]) (by rw [lcu.out]; exact infoA4) onecu.out ?_
            intro wa hka hga
            refine hK.out _ _ ?ts37 (fun hHeld => ?_)
            case ts37 => ((try dsimp only); exact (hs45).grown hga (hs45).size (by intro k hk; simp at hk; omega))
            clear hK K
            have hkb := (nb5_45).keep_grown hga (by simp; omega)
            have hSa := hHeld
            refine stepG 7 (by kernel_rfl) (by simp only [List.getElem?_toArray, List.getElem?_cons_succ, List.getElem?_cons_zero]; rfl) (fun K hK => ?_)
            refine step_store_blk rfl 33 (.tmp 8) (.tmp 21) rfl rfl rfl hkb (by rw [lcv.out, lz.out]) (by rw [lcv.out]; exact infoA4) onecv.out ?_
            intro wb hkb2 hgb
            refine hK.out _ _ ?ts38 (fun hHeld => ?_)
            case ts38 => ((try dsimp only); exact hSa.grown hgb hSa.size (by intro k hk; simp at hk; omega))
            clear hK K
            have hka2 := hka.keep_grown hgb (by simp; omega)
            refine doneG (by kernel_rfl) ?_ _
            go_wp2_with fail
            go_meet
            exact ⟨_, _, rfl, rfl, hka2, hkb2, hHeld⟩
        · refine StepOf.mk 5 (by simp only [List.getElem?_toArray, List.getElem?_cons_succ, List.getElem?_cons_zero]; rfl) (fun K hK => ?_)
          go_simp
          obtain ⟨ws46, hw46⟩ : ∃ wx : World, wx = ws35.alloc (.cells z.toArray 33) := ⟨_, rfl⟩
          rw [← hw46]
          have hbs46 : Below ws35.heap.size ws35 ws46 := by rw [hw46]; exact below_new _ _
          have nbs46 : Blk ws46 ws35.heap.size 33 z.toArray := by rw [hw46]; exact Blk.new _ _ _
          have szs46 : ws35.heap.size < ws46.heap.size := by rw [hw46]; simp
          clear hw46
          have ges46 : w1.heap.size ≤ ws35.heap.size := (hs35).size
          refine hK.out _ _ ?tu46 (fun hs46 => ?_)
          case tu46 => exact keepS _ _ hs35 hbs46
          clear hK K
          refine stepG2 3 4 (by kernel_rfl) ?_ ?_
          · refine StepOf.mk 3 (by simp only [List.getElem?_toArray, List.getElem?_cons_succ, List.getElem?_cons_zero]; rfl) (fun K hK => ?_)
            go_simp
            refine (unmixl d cd cv Hcd Hcv HD.out _).mono ?_
            rintro e ws47 ⟨rfl, hbs47⟩
            have szs47 := hbs47.size
            refine hK.out _ _ ?tu47 (fun hs47 => ?_)
            case tu47 => exact keepS _ _ hs46 hbs47
            clear hK K
            have nb5_47 := nbs46.below hbs47 nbs46.lt
            refine stepG 4 (by kernel_rfl) (by simp only [List.getElem?_toArray, List.getElem?_cons_succ, List.getElem?_cons_zero]; rfl) (fun K hK => ?_)
            go_simp
            obtain ⟨ws48, hw48⟩ : ∃ wx : World, wx = ws47.alloc (.cells z.toArray 33) := ⟨_, rfl⟩
            rw [← hw48]
            have hbs48 : Below ws47.heap.size ws47 ws48 := by rw [hw48]; exact below_new _ _
            have nbs48 : Blk ws48 ws47.heap.size 33 z.toArray := by rw [hw48]; exact Blk.new _ _ _
            have szs48 : ws47.heap.size < ws48.heap.size := by rw [hw48]; simp
            clear hw48
            have ges48 : w1.heap.size ≤ ws47.heap.size := (hs47).size
            refine hK.out _ _ ?tu48 (fun hs48 => ?_)
            case tu48 => exact keepS _ _ hs47 hbs48
            clear hK K
            have nb5_48 := nb5_47.below hbs48 nb5_47.lt
            refine stepG 6 (by kernel_rfl) (by simp only [List.getElem?_toArray, List.getElem?_cons_succ, List.getElem?_cons_zero]; rfl) (fun K hK => ?_)
            refine step_store_blk rfl 33 (.tmp 7) (.tmp 19) rfl rfl rfl nbs48 (by rw [lcu.out, lz.out]) (by rw [lcu.out]; exact infoA4) onecu.out ?_
            intro wa hka hga
            refine hK.out _ _ ?ts39 (fun hHeld => ?_)
            case ts39 => ((try dsimp only); exact (hs48).grown hga (hs48).size (by intro k hk; simp at hk; omega))
            clear hK K
            have hkb := (nb5_48).keep_grown hga (by simp; omega)
            have hSa := hHeld
            refine stepG 7 (by kernel_rfl) (by simp only [List.getElem?_toArray, List.getElem?_cons_succ, List.getElem?_cons_zero]; rfl) (fun K hK => ?_)
            refine step_store_blk rfl 33 (.tmp 8) (.tmp 21) rfl rfl rfl hkb (by rw [lcv.out, lz.out]) (by rw [lcv.out]; exact infoA4) onecv.out ?_
            intro wb hkb2 hgb
            refine hK.out _ _ ?ts40 (fun hHeld => ?_)
            case ts40 => ((try dsimp only); exact hSa.grown hgb hSa.size (by intro k hk; simp at hk; omega))
            clear hK K
            have hka2 := hka.keep_grown hgb (by simp; omega)
            refine doneG (by kernel_rfl) ?_ _
            go_wp2_with fail
            go_meet
            exact ⟨_, _, rfl, rfl, hka2, hkb2, hHeld⟩
          · refine StepOf.mk 4 (by simp only [List.getElem?_toArray, List.getElem?_cons_succ, List.getElem?_cons_zero]; rfl) (fun K hK => ?_)
            go_simp
            obtain ⟨ws49, hw49⟩ : ∃ wx : World, wx = ws46.alloc (.cells z.toArray 33) := ⟨_, rfl⟩
            rw [← hw49]
            have hbs49 : Below ws46.heap.size ws46 ws49 := by rw [hw49]; exact below_new _ _
            have nbs49 : Blk ws49 ws46.heap.size 33 z.toArray := by rw [hw49]; exact Blk.new _ _ _
            have szs49 : ws46.heap.size < ws49.heap.size := by rw [hw49]; simp
            clear hw49
            have ges49 : w1.heap.size ≤ ws46.heap.size := (hs46).size
            refine hK.out _ _ ?tu49 (fun hs49 => ?_)
            case tu49 => exact keepS _ _ hs46 hbs49
            clear hK K
            have nb5_49 := nbs46.below hbs49 nbs46.lt
            refine stepG 3 (by kernel_rfl) (by simp only [List.getElem?_toArray, List.getElem?_cons_succ, List.getElem?_cons_zero]; rfl) (fun K hK => ?_)
            go_simp
            refine (unmixl d cd cv Hcd Hcv HD.out _).mono ?_
            rintro e ws50 ⟨rfl, hbs50⟩
            have szs50 := hbs50.size
            refine hK.out _ _ ?tu50 (fun hs50 => ?_)
            case tu50 => exact keepS _ _ hs49 hbs50
            clear hK K
            have nb5_50 := nb5_49.below hbs50 nb5_49.lt
            have nb4_50 := nbs49.below hbs50 nbs49.lt
            refine stepG 6 (by kernel_rfl) (by simp only [List.getElem?_toArray, List.getElem?_cons_succ, List.getElem?_cons_zero]; rfl) (fun K hK => ?_)
            refine step_store_blk rfl 33 (.tmp 7) (.tmp 19) rfl rfl rfl nb4_50 (by rw [lcu.out, lz.out]) (by rw [lcu.out]; exact infoA4) onecu.out ?_
            intro wa hka hga
            refine hK.out _ _ ?ts41 (fun hHeld => ?_)
            case ts41 => ((try dsimp only); exact (hs50).grown hga (hs50).size (by intro k hk; simp at hk; omega))
            clear hK K
            have hkb := (nb5_50).keep_grown hga (by simp; omega)
            have hSa := hHeld
            refine stepG 7 (by kernel_rfl) (by simp only [List.getElem?_toArray, List.getElem?_cons_succ, List.getElem?_cons_zero]; rfl) (fun K hK => ?_)
            refine step_store_blk rfl 33 (.tmp 8) (.tmp 21) rfl rfl rfl hkb (by rw [lcv.out, lz.out]) (by rw [lcv.out]; exact infoA4) onecv.out ?_
            intro wb hkb2 hgb
            refine hK.out _ _ ?ts42 (fun hHeld => ?_)
            case ts42 => ((try dsimp only); exact hSa.grown hgb hSa.size (by intro k hk; simp at hk; omega))
            clear hK K
            have hka2 := hka.keep_grown hgb (by simp; omega)
            refine doneG (by kernel_rfl) ?_ _
            go_wp2_with fail
            go_meet
            exact ⟨_, _, rfl, rfl, hka2, hkb2, hHeld⟩
      · refine StepOf.mk 4 (by simp only [List.getElem?_toArray, List.getElem?_cons_succ, List.getElem?_cons_zero]; rfl) (fun K hK => ?_)
        go_simp
        obtain ⟨ws51, hw51⟩ : ∃ wx : World, wx = V0.alloc (.cells z.toArray 33) := ⟨_, rfl⟩
        rw [← hw51]
        have hbs51 : Below V0.heap.size V0 ws51 := by rw [hw51]; exact below_new _ _
        have nbs51 : Blk ws51 V0.heap.size 33 z.toArray := by rw [hw51]; exact Blk.new _ _ _
        have szs51 : V0.heap.size < ws51.heap.size := by rw [hw51]; simp
        clear hw51
        have ges51 : w1.heap.size ≤ V0.heap.size := (hHeld).size
        refine hK.out _ _ ?tu51 (fun hs51 => ?_)
        case tu51 => exact keepS _ _ hHeld hbs51
        clear hK K
        refine stepG2 1 5 (by kernel_rfl) ?_ ?_
        · refine StepOf.mk 1 (by simp only [List.getElem?_toArray, List.getElem?_cons_succ, List.getElem?_cons_zero]; rfl) (fun K hK => ?_)
          go_simp
          refine (unmixl c cc cu Hcc Hcu HC.out _).mono ?_
          rintro e ws52 ⟨rfl, hbs52⟩
          have szs52 := hbs52.size
          refine hK.out _ _ ?tu52 (fun hs52 => ?_)
          case tu52 => exact keepS _ _ hs51 hbs52
          clear hK K
          have nb4_52 := nbs51.below hbs52 nbs51.lt
          refine stepG2 3 5 (by kernel_rfl) ?_ ?_
          · refine StepOf.mk 3 (by simp only [List.getElem?_toArray, List.getElem?_cons_succ, List.getElem?_cons_zero]; rfl) (fun K hK => ?_)
            go_simp
            refine (unmixl d cd cv Hcd Hcv HD.out _).mono ?_
            rintro e ws53 ⟨rfl, hbs53⟩
            have szs53 := hbs53.size
            refine hK.out _ _ ?tu53 (fun hs53 => ?_)
            case tu53 => exact keepS _ _ hs52 hbs53
            clear hK K
            have nb4_53 := nb4_52.below hbs53 nb4_52.lt
            refine stepG 5 (by kernel_rfl) (by simp only [List.getElem?_toArray, List.getElem?_cons_succ, List.getElem?_cons_zero]; rfl) (fun K hK => ?_)
            go_simp
            obtain ⟨ws54, hw54⟩ : ∃ wx : World, wx = ws53.alloc (.cells z.toArray 33) := ⟨_, rfl⟩
            rw [← hw54]
            have hbs54 : Below ws53.heap.size ws53 ws54 := by rw [hw54]; exact below_new _ _
            have nbs54 : Blk ws54 ws53.heap.size 33 z.toArray := by rw [hw54]; exact Blk.new _ _ _
            have szs54 : ws53.heap.size < ws54.heap.size := by rw [hw54]; simp
            clear hw54
            have ges54 : w1.heap.size ≤ ws53.heap.size := (hs53).size
            refine hK.out _ _ ?tu54 (fun hs54 => ?_)
            case tu54 => exact keepS _ _ hs53 hbs54
            clear hK K
            have nb4_54 := nb4_53.below hbs54 nb4_53.lt
            refine stepG 6 (by kernel_rfl) (by simp only [List.getElem?_toArray, List.getElem?_cons_succ, List.getElem?_cons_zero]; rfl) (fun K hK => ?_)
            refine step_store_blk rfl 33 (.tmp 7) (.tmp 19) rfl rfl rfl nb4_54 (by rw [lcu.out, lz.out]) (by rw [lcu.out]; exact infoA4) onecu.out ?_
            intro wa hka hga
            refine hK.out _ _ ?ts43 (fun hHeld => ?_)
            case ts43 => ((try dsimp only); exact (hs54).grown hga (hs54).size (by intro k hk; simp at hk; omega))
            clear hK K
            have hkb := (nbs54).keep_grown hga (by simp; omega)
            have hSa := hHeld
            refine stepG 7 (by kernel_rfl) (by simp only [List.getElem?_toArray, List.getElem?_cons_succ, List.getElem?_cons_zero]; rfl) (fun K hK => ?_)
            refine step_store_blk rfl 33 (.tmp 8) (.tmp 21) rfl rfl rfl hkb (by rw [lcv.out, lz.out]) (by rw [lcv.out]; exact infoA4) onecv.out ?_
            intro wb hkb2 hgb
            refine hK.out _ _ ?ts44 (fun hHeld => ?_)
            case ts44 => ((try dsimp only); exact hSa.grown hgb hSa.size (by intro k hk; simp at hk; omega))
            clear hK K
            have hka2 := hka.keep_grown hgb (by simp; omega)
            refine doneG (by kernel_rfl) ?_ _
            go_wp2_with fail
            go_meet
            exact ⟨_, _, rfl, rfl, hka2, hkb2, hHeld⟩
          · refine StepOf.mk 5 (by simp only [List.getElem?_toArray, List.getElem?_cons_succ, List.getElem?_cons_zero]; rfl) (fun K hK => ?_)
            go_simp
            obtain ⟨ws55, hw55⟩ : ∃ wx : World, wx = ws52.alloc (.cells z.toArray 33) := ⟨_, rfl⟩
            rw [← hw55]
            have hbs55 : Below ws52.heap.size ws52 ws55 := by rw [hw55]; exact below_new _ _
            have nbs55 : Blk ws55 ws52.heap.size 33 z.toArray := by rw [hw55]; exact Blk.new _ _ _
            have szs55 : ws52.heap.size < ws55.heap.size := by rw [hw55]; simp
            clear hw55
            have ges55 : w1.heap.size ≤ ws52.heap.size := (hs52).size
            refine hK.out _ _ ?tu55 (fun hs55 => ?_)
            case tu55 => exact keepS _ _ hs52 hbs55
            clear hK K
            have nb4_55 := nb4_52.below hbs55 nb4_52.lt
            refine stepG 3 (by kernel_rfl) (by simp only [List.getElem?_toArray, List.getElem?_cons_succ, List.getElem?_cons_zero]; rfl) (fun K hK => ?_)
            go_simp
            refine (unmixl d cd cv Hcd Hcv HD.out _).mono ?_
            rintro e ws56 ⟨rfl, hbs56⟩
            have szs56 := hbs56.size
            refine hK.out _ _ ?tu56 (fun hs56 => ?_)
            case tu56 => exact keepS _ _ hs55 hbs56
            clear hK K
            have nb4_56 := nb4_55.below hbs56 nb4_55.lt
            have nb5_56 := nbs55.below hbs56 nbs55.lt
            refine stepG 6 (by kernel_rfl) (by simp only [List.getElem?_toArray, List.getElem?_cons_succ, List.getElem?_cons_zero]; rfl) (fun K hK => ?_)
            refine step_store_blk rfl 33 (.tmp 7) (.tmp 19) rfl rfl rfl nb4_56 (by rw [lcu.out, lz.out]) (by rw [lcu.out]; exact infoA4) onecu.out ?_
            intro wa hka hga
            refine hK.out _ _ ?ts45 (fun hHeld => ?_)
            case ts45 => ((try dsimp only); exact (hs56).grown hga (hs56).size (by intro k hk; simp at hk; omega))
            clear hK K
            have hkb := (nb5_56).keep_grown hga (by simp; omega)
            have hSa := hHeld
            refine stepG 7 (by kernel_rfl) (by simp only [List.getElem?_toArray, List.getElem?_cons_succ, List.getElem?_cons_zero]; rfl) (fun K hK => ?_)
            refine step_store_blk rfl 33 (.tmp 8) (.tmp 21) rfl rfl rfl hkb (by rw [lcv.out, lz.out]) (by rw [lcv.out]; exact infoA4) onecv.out ?_
            intro wb hkb2 hgb
            refine hK.out _ _ ?ts46 (fun hHeld => ?_)
            case ts46 => ((try dsimp only); exact hSa.grown hgb hSa.size (by intro k hk; simp at hk; omega))
            clear hK K
            have hka2 := hka.keep_grown hgb (by simp; omega)
            refine doneG (by kernel_rfl) ?_ _
            go_wp2_with fail
            go_meet
            exact ⟨_, _, rfl, rfl, hka2, hkb2, hHeld⟩
        · refine StepOf.mk 5 (by simp only [List.getElem?_toArray, List.getElem?_cons_succ, List.getElem?_cons_zero]; rfl) (fun K hK => ?_)
          go_simp
          obtain ⟨ws57, hw57⟩ : ∃ wx : World, wx = ws51.alloc (.cells z.toArray 33) := ⟨_, rfl⟩
          rw [← hw57]
          have hbs57 : Below ws51.heap.size ws51 ws57 := by rw [hw57]; exact below_new _ _
          have nbs57 : Blk ws57 ws51.heap.size 33 z.toArray := by rw [hw57]; exact Blk.new _ _ _
          have szs57 : ws51.heap.size < ws57.heap.size := by rw [hw57]; simp
          clear hw57
          have ges57 : w1.heap.size ≤ ws51.heap.size := (hs51).size
          refine hK.out _ _ ?tu57 (fun hs57 => ?_)
          case tu57 => exact keepS _ _ hs51 hbs57
          clear hK K
          have nb4_57 := nbs51.below hbs57 nbs51.lt
          refine stepG 1 (by kernel_rfl) (by simp only [List.getElem?_toArray, List.getElem?_cons_succ, List.getElem?_cons_zero]; rfl) (fun K hK => ?_)
          go_simp
          refine (unmixl c cc cu Hcc Hcu HC.out _).mono ?_
          rintro e ws58 ⟨rfl, hbs58⟩
          have szs58 := hbs58.size
          refine hK.out _ _ ?tu58 (fun hs58 => ?_)
          case tu58 => exact keepS _ _ hs57 hbs58
          clear hK K
          have nb4_58 := nb4_57.below hbs58 nb4_57.lt
          have nb5_58 := nbs57.below hbs58 nbs57.lt
          refine stepG 3 (by kernel_rfl) (by simp only [List.getElem?_toArray, List.getElem?_cons_succ, List.getElem?_cons_zero]; rfl) (fun K hK => ?_)
          go_simp
          refine (unmixl d cd cv Hcd Hcv HD.out _).mono ?_
          rintro e ws59 ⟨rfl, hbs59⟩
          have szs59 := hbs59.size
          refine hK.out _ _ ?tu59 (fun hs59 => ?_)
          case tu59 => exact keepS _ _ hs58 hbs59
          clear hK K
          have nb4_59 := nb4_58.below hbs59 nb4_58.lt
          have nb5_59 := nb5_58.below hbs59 nb5_58.lt
          refine stepG 6 (by kernel_rfl) (by simp only [List.getElem?_toArray, List.getElem?_cons_succ, List.getElem?_cons_zero]; rfl) (fun K hK => ?_)
          refine step_store_blk rfl 33 (.tmp 7) (.tmp 19) rfl rfl rfl nb4_59 (by rw [lcu.out, lz.out]) (by rw [lcu.out]; exact infoA4) onecu.out ?_
          intro wa hka hga
          refine hK.out _ _ ?ts47 (fun hHeld => ?_)
          case ts47 => ((try dsimp only); exact (hs59).grown hga (hs59).size (by intro k hk; simp at hk; omega))
          clear hK K
          have hkb := (nb5_59).keep_grown hga (by simp; omega)
          have hSa := hHeld
          refine stepG 7 (by kernel_rfl) (by simp only [List.getElem?_toArray, List.getElem?_cons_succ, List.getElem?_cons_zero]; rfl) (fun K hK => ?_)
          refine step_store_blk rfl 33 (.tmp 8) (.tmp 21) rfl rfl rfl hkb (by rw [lcv.out, lz.out]) (by rw [lcv.out]; exact infoA4) onecv.out ?_
          intro wb hkb2 hgb
          refine hK.out _ _ ?ts48 (fun hHeld => ?_)
          case ts48 => ((try dsimp only); exact hSa.grown hgb hSa.size (by intro k hk; simp at hk; omega))
          clear hK K
          have hka2 := hka.keep_grown hgb (by simp; omega)
          refine doneG (by kernel_rfl) ?_ _
          go_wp2_with fail
          go_meet
          exact ⟨_, _, rfl, rfl, hka2, hkb2, hHeld⟩
      · refine StepOf.mk 5 (by simp only [List.getElem?_toArray, List.getElem?_cons_succ, List.getElem?_cons_zero]; rfl) (fun K hK => ?_)
        go_simp
        obtain ⟨ws60, hw60⟩ : ∃ wx : World, wx = V0.alloc (.cells z.toArray 33) := ⟨_, rfl⟩
        rw [← hw60]
        have hbs60 : Below V0.heap.size V0 ws60 := by rw [hw60]; exact below_new _ _
        have nbs60 : Blk ws60 V0.heap.size 33 z.toArray := by rw [hw60]; exact Blk.new _ _ _
        have szs60 : V0.heap.size < ws60.heap.size := by rw [hw60]; simp
        clear hw60
        have ges60 : w1.heap.size ≤ V0.heap.size := (hHeld).size
        refine hK.out _ _ ?tu60 (fun hs60 => ?_)
        case tu60 => exact keepS _ _ hHeld hbs60
        clear hK K
        refine stepG2 1 4 (by kernel_rfl) ?_ ?_
        · refine StepOf.mk 1 (by simp only [List.getElem?_toArray, List.getElem?_cons_succ, List.getElem?_cons_zero]; rfl) (fun K hK => ?_)
          go_simp
          refine (unmixl c cc cu Hcc Hcu HC.out _).mono ?_
          rintro e ws61 ⟨rfl, hbs61⟩
          have szs61 := hbs61.size
          refine hK.out _ _ ?tu61 (fun hs61 => ?_)
          case tu61 => exact keepS _ _ hs60 hbs61
          clear hK K
          have nb5_61 := nbs60.below hbs61 nbs60.lt
          refine stepG2 3 4 (by kernel_rfl) ?_ ?_
          · refine StepOf.mk 3 (by simp only [List.getElem?_toArray, List.getElem?_cons_succ, List.getElem?_cons_zero]; rfl) (fun K hK => ?_)
            go_simp
            refine (unmixl d cd cv Hcd Hcv HD.out _).mono ?_
            rintro e ws62 ⟨rfl, hbs62⟩
            have szs62 := hbs62.size
            refine hK.out _ _ ?tu62 (fun hs62 => ?_)
            case tu62 => exact keepS _ _ hs61 hbs62
            clear hK K
            have nb5_62 := nb5_61.below hbs62 nb5_61.lt
            refine stepG 4 (by kernel_rfl) (by simp only [List.getElem?_toArray, List.getElem?_cons_succ, List.getElem?_cons_zero]; rfl) (fun K hK => ?_)
            go_simp
            obtain ⟨ws63, hw63⟩ : ∃ wx : World, wx = ws62.alloc (.cells z.toArray 33) := ⟨_, rfl⟩
            rw [← hw63]
            have hbs63 : Below ws62.heap.size ws62 ws63 := by rw [hw63]; exact below_new _ _
            have nbs63 : Blk ws63 ws62.heap.size 33 z.toArray := by rw [hw63]; exact Blk.new _ _ _
            have szs63 : ws62.heap.size < ws63.heap.size := by rw [hw63]; simp
            clear hw63
            have ges63 : w1.heap.size ≤ ws62.heap.size := (hs62).size
            refine hK.out _ _ ?tu63 (fun hs63 => ?_)
            case tu63 => exact keepS _ _ hs62 hbs63
            clear hK K
            have nb5_63 := nb5_62.below hbs63 nb5_62.lt
            refine stepG 6 (by kernel_rfl) (by simp only [List.getElem?_toArray, List.getElem?_cons_succ, List.getElem?_cons_zero]; rfl) (fun K hK => ?_)
            refine step_store_blk rfl 33 (.tmp 7) (.tmp 19) rfl rfl rfl nbs63 (by rw [lcu.out, lz.out]) (by rw [lcu.out]; exact infoA4) onecu.out ?_
            intro wa hka hga
            refine hK.out _ _ ?ts49 (fun hHeld => ?_)
            case ts49 => ((try dsimp only); exact (hs63).grown hga (hs63).size (by intro k hk; simp at hk; omega))
            clear hK K
            have hkb := (nb5_63).keep_grown hga (by simp; omega)
            have hSa := hHeld
            refine stepG 7 (by kernel_rfl) (by simp only [List.getElem?_toArray, List.getElem?_cons_succ, List.getElem?_cons_zero]; rfl) (fun K hK => ?_)
            refine step_store_blk rfl 33 (.tmp 8) (.tmp 21) rfl rfl rfl hkb (by rw [lcv.out, lz.out]) (by rw [lcv.out]; exact infoA4) onecv.out ?_
            intro wb hkb2 hgb
            refine hK.out _ _ ?ts50 (fun hHeld => ?_)
            case ts50 => ((try dsimp only); exact hSa.grown hgb hSa.size (by intro k hk; simp at hk; omega))
            clear hK K
            have hka2 := hka.keep_grown hgb (by simp; omega)
            refine doneG (by kernel_rfl) ?_ _
            go_wp2_with fail
            go_meet
            exact ⟨_, _, rfl, rfl, hka2, hkb2, hHeld⟩
          · refine StepOf.mk 4 (by simp only [List.getElem?_toArray, List.getElem?_cons_succ, List.getElem?_cons_zero]; rfl) (fun K hK => ?_)
            go_simp
            obtain ⟨ws64, hw64⟩ : ∃ wx : World, wx = ws61.alloc (.cells z.toArray 33) := ⟨_, rfl⟩
            rw [← hw64]
            have hbs64 : Below ws61.heap.size ws61 ws64 := by rw [hw64]; exact below_new _ _
            have nbs64 : Blk ws64 ws61.heap.size 33 z.toArray := by rw [hw64]; exact Blk.new _ _ _
            have szs64 : ws61.heap.size < ws64.heap.size := by rw [hw64]; simp
            clear hw64
            have ges64 : w1.heap.size ≤ ws61.heap.size := (hs61).size
            refine hK.out _ _ ?tu64 (fun hs64 => ?_)
            case tu64 => exact keepS _ _ hs61 hbs64
            clear hK K
            have nb5_64 := nb5_61.below hbs64 nb5_61.lt
            refine stepG 3 (by kernel_rfl) (by simp only [List.getElem?_toArray, List.getElem?_cons_succ, List.getElem?_cons_zero]; rfl) (fun K hK => ?_)
            go_simp
            refine (unmixl d cd cv Hcd Hcv HD.out _).mono ?_
            rintro e ws65 ⟨rfl, hbs65⟩
            have szs65 := hbs65.size
            refine hK.out _ _ ?tu65 (fun hs65 => ?_)
            case tu65 => exact keepS _ _ hs64 hbs65
            clear hK K
            have nb5_65 := nb5_64.below hbs65 nb5_64.lt
            have nb4_65 := nbs64.below hbs65 nbs64.lt
            refine stepG 6 (by kernel_rfl) (by simp only [List.getElem?_toArray, List.getElem?_cons_succ, List.getElem?_cons_zero]; rfl) (fun K hK => ?_)
            refine step_store_blk rfl 33 (.tmp 7) (.tmp 19) rfl rfl rfl nb4_65 (by rw [lcu.out, lz.out]) (by rw [lcu.out]; exact infoA4) onecu.out ?_
            intro wa hka hga
            refine hK.out _ _ ?ts51 (fun hHeld => ?_)
            case ts51 => ((try dsimp only); exact (hs65).grown hga (hs65).size (by intro k hk; simp at hk; omega))
            clear hK K
            have hkb := (nb5_65).keep_grown hga (by simp; omega)
            have hSa := hHeld
            refine stepG 7 (by kernel_rfl) (by simp only [List.getElem?_toArray, List.getElem?_cons_succ, List.getElem?_cons_zero]; rfl) (fun K hK => ?_)
            refine step_store_blk rfl 33 (.tmp 8) (.tmp 21) rfl rfl rfl hkb (by rw [lcv.out, lz.out]) (by rw [lcv.out]; exact infoA4) onecv.out ?_
            intro wb hkb2 hgb
            refine hK.out _ _ ?ts52 (fun hHeld => ?_)
            case ts52 => ((try dsimp only); exact hSa.grown hgb hSa.size (by intro k hk; simp at hk; omega))
            clear hK K
            have hka2 := hka.keep_grown hgb (by simp; omega)
            refine doneG (by kernel_rfl) ?_ _
            go_wp2_with fail
            go_meet
            exact ⟨_, _, rfl, rfl, hka2, hkb2, hHeld⟩
        · refine StepOf.mk 4 (by simp only [List.getElem?_toArray, List.getElem?_cons_succ, List.getElem?_cons_zero]; rfl) (fun K hK => ?_)
          go_simp
          obtain ⟨ws66, hw66⟩ : ∃ wx : World, wx = ws60.alloc (.cells z.toArray 33) := ⟨_, rfl⟩
          rw [← hw66]
          have hbs66 : Below ws60.heap.size ws60 ws66 := by rw [hw66]; exact below_new _ _
          have nbs66 : Blk ws66 ws60.heap.size 33 z.toArray := by rw [hw66]; exact Blk.new _ _ _
          have szs66 : ws60.heap.size < ws66.heap.size := by rw [hw66]; simp
          clear hw66
          have ges66 : w1.heap.size ≤ ws60.heap.size := (hs60).size
          refine hK.out _ _ ?tu66 (fun hs66 => ?_)
          case tu66 => exact keepS _ _ hs60 hbs66
          clear hK K
          have nb5_66 := nbs60.below hbs66 nbs60.lt
          refine stepG 1 (by kernel_rfl) (by simp only [List.getElem?_toArray, List.getElem?_cons_succ, List.getElem?_cons_zero]; rfl) (fun K hK => ?_)
          go_simp
          refine (unmixl c cc cu Hcc Hcu HC.out _).mono ?_
          rintro e ws67 ⟨rfl, hbs67⟩
          have szs67 := hbs67.size
          refine hK.out _ _ ?tu67 (fun hs67 => ?_)
          case tu67 => exact keepS _ _ hs66 hbs67
          clear hK K
          have nb5_67 := nb5_66.below hbs67 nb5_66.lt
          have nb4_67 := nbs66.below hbs67 nbs66.lt
          refine stepG 3 (by kernel_rfl) (by simp only [List.getElem?_toArray, List.getElem?_cons_succ, List.getElem?_cons_zero]; rfl) (fun K hK => ?_)
          go_simp
          refine (unmixl d cd cv Hcd Hcv HD.out _).mono ?_
          rintro e ws68 ⟨rfl, hbs68⟩
          have szs68 := hbs68.size
          refine hK.out _ _ ?tu68 (fun hs68 => ?_)
          case tu68 => exact keepS _ _ hs67 hbs68
          clear hK K
          have nb5_68 := nb5_67.below hbs68 nb5_67.lt
          have nb4_68 := nb4_67.below hbs68 nb4_67.lt
          refine stepG 6 (by kernel_rfl) (by simp only [List.getElem?_toArray, List.getElem?_cons_succ, List.getElem?_cons_zero]; rfl) (fun K hK => ?_)
          refine step_store_blk rfl 33 (.tmp 7) (.tmp 19) rfl rfl rfl nb4_68 (by rw [lcu.out, lz.out]) (by rw [lcu.out]; exact infoA4) onecu.out ?_
          intro wa hka hga
          refine hK.out _ _ ?ts53 (fun hHeld => ?_)
          case ts53 => ((try dsimp only); exact (hs68).grown hga (hs68).size (by intro k hk; simp at hk; omega))
          clear hK K
          have hkb := (nb5_68).keep_grown hga (by simp; omega)
          have hSa := hHeld
          refine stepG 7 (by kernel_rfl) (by simp only [List.getElem?_toArray, List.getElem?_cons_succ, List.getElem?_cons_zero]; rfl) (fun K hK => ?_)
          refine step_store_blk rfl 33 (.tmp 8) (.tmp 21) rfl rfl rfl hkb (by rw [lcv.out, lz.out]) (by rw [lcv.out]; exact infoA4) onecv.out ?_
          intro wb hkb2 hgb
          refine hK.out _ _ ?ts54 (fun hHeld => ?_)
          case ts54 => ((try dsimp only); exact hSa.grown hgb hSa.size (by intro k hk; simp at hk; omega))
          clear hK K
          have hka2 := hka.keep_grown hgb (by simp; omega)
          refine doneG (by kernel_rfl) ?_ _
          go_wp2_with fail
          go_meet
          exact ⟨_, _, rfl, rfl, hka2, hkb2, hHeld⟩
    case rest =>
      obtain ⟨b7, b8, rfl, rfl, k7, k8, hbw⟩ := hcut
      obtain ⟨w2, rfl⟩ : ∃ w2 : World, w2 = wc := ⟨_, rfl⟩
      have MC := Lib.hid (LC.out.below hbw LC.out.lt)
      have MD := Lib.hid (LD.out.below hbw LD.out.lt)
      have M5 := Lib.hid (L5.out.below hbw L5.out.lt)
      have M6 := Lib.hid (L6.out.below hbw L6.out.lt)
      have M7 := Lib.hid k7
      have M8 := Lib.hid k8
      have MB := Lib.hid (LB.out.trans (hbw.mono (Nat.le_of_lt LC.out.lt)))
      clear k7 k8 hbw
      go_wp2_with fail
      obtain ⟨E, hE⟩ : ∃ E, w2.heap.size = E := ⟨_, rfl⟩
      obtain ⟨w3, hw3⟩ : ∃ w3, w3 = w2.alloc (.cells z.toArray 33) := ⟨_, rfl⟩
      have NE : Hid (Blk w3 E 33 z.toArray) := by rw [hw3]; exact Blk.new' _ _ _ _ hE
      have NC : Hid (Blk w3 H 33 cc.toArray) := by rw [hw3]; exact MC.out.alloc _
      have ND : Hid (Blk w3 (H + 1) 33 cd.toArray) := by rw [hw3]; exact MD.out.alloc _
      have N5 : Hid (Blk w3 b5 33 cx.toArray) := by rw [hw3]; exact M5.out.alloc _
      have N6 : Hid (Blk w3 b6 33 cy.toArray) := by rw [hw3]; exact M6.out.alloc _
      have N7 : Hid (Blk w3 b7 33 cu.toArray) := by rw [hw3]; exact M7.out.alloc _
      have N8 : Hid (Blk w3 b8 33 cv.toArray) := by rw [hw3]; exact M8.out.alloc _
      have eH : Hid (H < E ∧ H + 1 < E ∧ b5 < E ∧ b6 < E ∧ b7 < E ∧ b8 < E) := by rw [← hE]; exact ⟨MC.out.lt, MD.out.lt, M5.out.lt, M6.out.lt, M7.out.lt, M8.out.lt⟩
      have NB : Hid (Below H w w3) := by rw [hw3]; exact MB.out.trans ((below_new w2 _).mono (by rw [hE]; exact Nat.le_of_lt eH.out.1))
      rw [← hw3, hE]
      clear hw3 hE
      obtain ⟨hH1, hH2, hH5, hH6, hH7, hH8⟩ := eH.out
      go_loopw [22] (fun s wr => ∃ (i : Nat) (o : Nat → Nat), i ≤ 4 ∧ s = .int .i64 (i : Int) ∧ Blk wr E 33 (col o) ∧ (∀ j, j < 4 → o j = if j < i then c j ^^^ d j else 0) ∧ Below E w3 wr) (fun s _ => 4 - (intOf s).toNat)
      case atStart => exact ⟨0, fun _ => 0, by omega, rfl, by have := NE.out; rw [HZ.out] at this; exact this, fun j hj => by rw [if_neg (by omega)], Below.refl _ _⟩
      case round =>
        obtain ⟨i, o, hi, rfl, hbo, ho, hbel⟩ := hrel
        have HO := Lib.hid ho
        have HBO := Lib.hid hbo
        have HBE := Lib.hid hbel
        clear ho hbo hbel
        by_cases hlt : i < 4
        · have kc := Lib.hid (NC.out.below HBE.out hH1)
          have kd := Lib.hid (ND.out.below HBE.out hH2)
          have hcc : wr.cell? ⟨H, i, none⟩ = some (.int .u8 (c i : Int)) := cl_blk kc.out Hcc i hlt
          have hcd : wr.cell? ⟨H + 1, i, none⟩ = some (.int .u8 (d i : Int)) := cl_blk kd.out Hcd i hlt
          have hce : wr.cell? ⟨E, i, none⟩ = some (.int .u8 (o i : Int)) := by rw [HBO.out.cell i]; exact col_at o i hlt
          have hfe : wr.frozen? ⟨E, i, none⟩ = false := HBO.out.frozen i
          have hci := HC.out i
          have hdi := HD.out i
          have hi1 : (0 : Int) ≤ (i : Int) := by omega
          have hi2 : (i : Int) < 4 := by omega
          have hxo : bits .xor .u8 (c i : Int) (d i : Int) = ((c i ^^^ d i : Nat) : Int) := u8_xor_nat _ _ (by omega) (by omega)
          go_wp2_with fail
          refine region_gate 9 (fun w' => w'.cell? ⟨H, i, none⟩ = some (.int .u8 (c i : Int)) ∧ w'.cell? ⟨H + 1, i, none⟩ = some (.int .u8 (d i : Int))) (by kernel_rfl) ?th55 (fun hHeld => ?tk55)
          case th55 => ((try dsimp only); exact ⟨hcc, hcd⟩)
          refine' takeV 0 (oi := _) (d := _) (v := _) ?ti56 ?td56 (by kernel_rfl) (by kernel_rfl) (by kernel_rfl) (by kernel_rfl) (by decide) (fun _ _ _ _ _ h => h) ?tg56 ?ty56 (by assumption) ?tr56
          case ti56 => (simp only [List.getElem?_toArray, List.getElem?_cons_succ, List.getElem?_cons_zero]; rfl)
          case td56 => exact rfl
          case tg56 => exact rfl
          case ty56 => (intro w hSw; (try dsimp only at hSw); go_split_ands; go_simp; try with_reducible rfl)
          simp only [List.setIfInBounds_toArray, List.set_cons_zero, List.set_cons_succ]
          refine' takeV 1 (oi := _) (d := _) (v := _) ?ti57 ?td57 (by kernel_rfl) (by kernel_rfl) (by kernel_rfl) (by kernel_rfl) (by decide) (fun _ _ _ _ _ h => h) ?tg57 ?ty57 (by assumption) ?tr57
          case ti57 => (simp only [List.getElem?_toArray, List.getElem?_cons_succ, List.getElem?_cons_zero]; rfl)
          case td57 => exact rfl
          case tg57 => exact rfl
          case ty57 => (intro w hSw; (try dsimp only at hSw); go_split_ands; go_simp; try with_reducible rfl)
          simp only [List.setIfInBounds_toArray, List.set_cons_zero, List.set_cons_succ]
          refine' takeV 2 (oi := _) (d := _) (v := _) ?ti58 ?td58 (by kernel_rfl) (by kernel_rfl) (by kernel_rfl) (by kernel_rfl) (by decide) (fun _ _ _ _ _ h => h) ?tg58 ?ty58 (by assumption) ?tr58
          case ti58 => (simp only [List.getElem?_toArray, List.getElem?_cons_succ, List.getElem?_cons_zero]; rfl)
          case td58 => exact rfl
          case tg58 => exact rfl
          case ty58 => (intro w hSw; (try dsimp only at hSw); go_split_ands; go_simp; try with_reducible rfl)
          simp only [List.setIfInBounds_toArray, List.set_cons_zero, List.set_cons_succ]
          refine' takeV 3 (oi := _) (d := _) (v := _) ?ti59 ?td59 (by kernel_rfl) (by kernel_rfl) (by kernel_rfl) (by kernel_rfl) (by decide) (fun _ _ _ _ _ h => h) ?tg59 ?ty59 (by assumption) ?tr59
          case ti59 => (simp only [List.getElem?_toArray, List.getElem?_cons_succ, List.getElem?_cons_zero]; rfl)
          case td59 => exact rfl
          case tg59 => exact rfl
          case ty59 => (intro w hSw; (try dsimp only at hSw); go_split_ands; go_simp; try with_reducible rfl)
          simp only [List.setIfInBounds_toArray, List.set_cons_zero, List.set_cons_succ]
          refine' takeV 4 (oi := _) (d := _) (v := _) ?ti60 ?td60 (by kernel_rfl) (by kernel_rfl) (by kernel_rfl) (by kernel_rfl) (by decide) (fun _ _ _ _ _ h => h) ?tg60 ?ty60 (by assumption) ?tr60
          case ti60 => (simp only [List.getElem?_toArray, List.getElem?_cons_succ, List.getElem?_cons_zero]; rfl)
          case td60 => exact rfl
          case tg60 => exact rfl
          case ty60 => (intro w hSw; (try dsimp only at hSw); go_split_ands; go_simp; try with_reducible rfl)
          simp only [List.setIfInBounds_toArray, List.set_cons_zero, List.set_cons_succ]
          refine' takeV 5 (oi := _) (d := _) (v := _) ?ti61 ?td61 (by kernel_rfl) (by kernel_rfl) (by kernel_rfl) (by kernel_rfl) (by decide) (fun _ _ _ _ _ h => h) ?tg61 ?ty61 (by assumption) ?tr61
          case ti61 => (simp only [List.getElem?_toArray, List.getElem?_cons_succ, List.getElem?_cons_zero]; rfl)
          case td61 => exact rfl
          case tg61 => exact rfl
          case ty61 => (intro w hSw; (try dsimp only at hSw); go_split_ands; go_simp; try with_reducible rfl)
          simp only [List.setIfInBounds_toArray, List.set_cons_zero, List.set_cons_succ]
          refine' takeV 6 (oi := _) (d := _) (v := _) ?ti62 ?td62 (by kernel_rfl) (by kernel_rfl) (by kernel_rfl) (by kernel_rfl) (by decide) (fun _ _ _ _ _ h => h) ?tg62 ?ty62 (by assumption) ?tr62
          case ti62 => (simp only [List.getElem?_toArray, List.getElem?_cons_succ, List.getElem?_cons_zero]; rfl)
          case td62 => exact rfl
          case tg62 => exact rfl
          case ty62 => (intro w hSw; (try dsimp only at hSw); go_split_ands; go_simp; try with_reducible rfl)
          simp only [List.setIfInBounds_toArray, List.set_cons_zero, List.set_cons_succ]
          refine' takeV 7 (oi := _) (d := _) (v := _) ?ti63 ?td63 (by kernel_rfl) (by kernel_rfl) (by kernel_rfl) (by kernel_rfl) (by decide) (fun _ _ _ _ _ h => h) ?tg63 ?ty63 (by assumption) ?tr63
          case ti63 => (simp only [List.getElem?_toArray, List.getElem?_cons_succ, List.getElem?_cons_zero]; rfl)
          case td63 => exact rfl
          case tg63 => exact rfl
          case ty63 => (intro w hSw; (try dsimp only at hSw); go_split_ands; go_simp; try with_reducible rfl)
          simp only [List.setIfInBounds_toArray, List.set_cons_zero, List.set_cons_succ]
          refine stepG 8 (by kernel_rfl) (by simp only [List.getElem?_toArray, List.getElem?_cons_succ, List.getElem?_cons_zero]; rfl) (fun K hK => ?_)
          go_simp
          refine hK.out _ _ ?ts64 (fun hHeld => ?_)
          case ts64 => ((try dsimp only); exact hHeld)
          clear hK K
          refine stepGate 9 (by kernel_rfl) (by kernel_rfl) (by simp only [List.getElem?_toArray, List.getElem?_cons_succ, List.getElem?_cons_zero]; rfl) (fun K hK => ?_)
          go_simp
          refine hK.out _ _ ?_
          clear hK K
          refine doneG (by kernel_rfl) ?_ _
          go_wp2_with fail
          go_roundw
          case rel =>
            refine ⟨i + 1, fun j => if j = i then c i ^^^ d i else o j, by omega, by go_num, ?_, ?_, (HBE.out.drew).setCell (Nat.le_refl _) _⟩
            · have := (HBO.out.drew.set_ i (.int .u8 ((c i ^^^ d i : Nat) : Int)))
              rw [col_set o _ i hlt] at this
              exact this
            · intro j hj
              dsimp only
              by_cases hji : j = i
              · subst hji; rw [if_pos rfl, if_pos (by omega)]
              · rw [if_neg hji, HO.out j hj]
                by_cases hj2 : j < i
                · rw [if_pos hj2, if_pos (by omega)]
                · rw [if_neg hj2, if_neg (by omega)]
          case measure => first | (simp [intOf]; done) | (simp [intOf]; omega)
        · obtain rfl : i = 4 := by omega
          obtain ⟨e, he⟩ : ∃ e : Nat → Nat, e = fun k => c k ^^^ d k := ⟨_, rfl⟩
          have HEl : Hid (∀ k, e k < 256) := by rw [he]; exact fun k => xor_lt _ _ (HC.out k) (HD.out k)
          have HZZ : Hid (∀ i, mix e i = mix c i ^^^ mix d i) := by rw [he]; exact mix_xor c d
          have HWW : Hid (∀ i, unmix e i = unmix c i ^^^ unmix d i) := by rw [he]; exact unmix_xor c d
          obtain ⟨ce, Hce⟩ : ∃ cs, Hid (cs = cl e) := ⟨_, rfl⟩
          have KE : Hid (Blk wr E 33 ce.toArray) := by
            have h0 := HO.out 0 (by omega)
            have h1 := HO.out 1 (by omega)
            have h2 := HO.out 2 (by omega)
            have h3 := HO.out 3 (by omega)
            have := HBO.out
            simp only [col] at this
            rw [h0, h1, h2, h3] at this
            show Blk wr E _ ce.toArray
            rw [Hce.out, he]
            exact this
          have OC := Lib.hid (NC.out.below HBE.out hH1)
          have O5 := Lib.hid (N5.out.below HBE.out hH5)
          have O6 := Lib.hid (N6.out.below HBE.out hH6)
          have O7 := Lib.hid (N7.out.below HBE.out hH7)
          have O8 := Lib.hid (N8.out.below HBE.out hH8)
          have OB : Hid (Below H w wr) := NB.out.trans (HBE.out.mono (Nat.le_of_lt hH1))
          obtain ⟨cz, Hcz⟩ : ∃ cs, Hid (cs = cl (mix e)) := ⟨_, rfl⟩
          obtain ⟨cw, Hcw⟩ : ∃ cs, Hid (cs = cl (unmix e)) := ⟨_, rfl⟩
          have lce := Lib.hid (cl_len Hce)
          have lcz := Lib.hid (cl_len Hcz)
          have lcw := Lib.hid (cl_len Hcw)
          have onecz := Lib.hid (cl_one Hcz)
          have onecw := Lib.hid (cl_one Hcw)
          clear HO HBO HBE NE NC ND N5 N6 N7 N8 NB he hi hlt
          go_upto_region 9 with fail
          obtain ⟨w4, rfl⟩ : ∃ w4 : World, w4 = wr := ⟨_, rfl⟩
          go_cut [11, 12] (fun s11 s12 wx => ∃ b11 b12 : Nat, s11 = .pointer (some ⟨b11, 0, none⟩) ∧ s12 = .pointer (some ⟨b12, 0, none⟩) ∧ Blk wx b11 33 cz.toArray ∧ Blk wx b12 33 cw.toArray ∧ Below w4.heap.size w4 wx)
          case first =>
            have TR : Hid (∀ wx, Below w4.heap.size w4 wx → Blk wx E 33 ce.toArray) := fun wx h => KE.out.below h KE.out.lt
            have KS : Hid (∀ wa wb, Below w4.heap.size w4 wa → Below wa.heap.size wa wb → Below w4.heap.size w4 wb) := fun wa wb h hb => h.trans (hb.mono h.size)
            refine region_gate 8 (fun w' => Below w4.heap.size w4 w') (by kernel_rfl) ?th65 (fun hHeld => ?tk65)
            case th65 => ((try dsimp only); exact (Below.refl _ _).drew)
            obtain ⟨V0, hV0⟩ : ∃ V0, V0 = w4.drew := ⟨_, rfl⟩
            rw [← hV0] at hHeld ⊢
            clear hV0
            have keepS := KS.out
            refine' takeV 0 (oi := _) (d := _) (v := _) ?ti66 ?td66 (by kernel_rfl) (by kernel_rfl) (by kernel_rfl) (by kernel_rfl) (by decide) (fun _ _ _ _ _ h => h) ?tg66 ?ty66 (by assumption) ?tr66
            case ti66 => (simp only [List.getElem?_toArray, List.getElem?_cons_succ, List.getElem?_cons_zero]; rfl)
            case td66 => exact rfl
            case tg66 => exact rfl
            case ty66 => (intro w hSw; (try dsimp only at hSw); rw [exec_load_blk 33 (.tmp 9) rfl rfl (TR.out _ hSw) _ HU.out rfl (by rw [lce.out]; exact infoA4)])
            simp only [List.setIfInBounds_toArray, List.set_cons_zero, List.set_cons_succ]
            refine' takeV 2 (oi := _) (d := _) (v := _) ?ti67 ?td67 (by kernel_rfl) (by kernel_rfl) (by kernel_rfl) (by kernel_rfl) (by decide) (fun _ _ _ _ _ h => h) ?tg67 ?ty67 (by assumption) ?tr67
            case ti67 => (simp only [List.getElem?_toArray, List.getElem?_cons_succ, List.getElem?_cons_zero]; rfl)
            case td67 => exact rfl
            case tg67 => exact rfl
            case ty67 => (intro w hSw; (try dsimp only at hSw); rw [exec_load_blk 33 (.tmp 9) rfl rfl (TR.out _ hSw) _ HU.out rfl (by rw [lce.out]; exact infoA4)])
            simp only [List.setIfInBounds_toArray, List.set_cons_zero, List.set_cons_succ]
            refine stepG3 1 4 5 (by kernel_rfl) ?_ ?_ ?_
            · refine StepOf.mk 1 (by simp only [List.getElem?_toArray, List.getElem?_cons_succ, List.getElem?_cons_zero]; rfl) (fun K hK => ?_)
              go_simp
              refine (mixl e ce cz Hce Hcz HEl.out _).mono ?_
              rintro e ws69 ⟨rfl, hbs69⟩
              have szs69 := hbs69.size
              refine hK.out _ _ ?tu69 (fun hs69 => ?_)
              case tu69 => exact keepS _ _ hHeld hbs69
              clear hK K
              refine stepG3 3 4 5 (by kernel_rfl) ?_ ?_ ?_
              · refine StepOf.mk 3 (by simp only [List.getElem?_toArray, List.getElem?_cons_succ, List.getElem?_cons_zero]; rfl) (fun K hK => ?_)
                go_simp
                refine (unmixl e ce cw Hce Hcw HEl.out _).mono ?_
                rintro e ws70 ⟨rfl, hbs70⟩
                have szs70 := hbs70.size
                refine hK.out _ _ ?tu70 (fun hs70 => ?_)
                case tu70 => exact keepS _ _ hs69 hbs70
                clear hK K
                refine stepG2 4 5 (by kernel_rfl) ?_ ?_
                · refine StepOf.mk 4 (by simp only [List.getElem?_toArray, List.getElem?_cons_succ, List.getElem?_cons_zero]; rfl) (fun K hK => ?_)
                  go_simp
                  obtain ⟨ws71, hw71⟩ : ∃ wx : World, wx = ws70.alloc (.cells z.toArray 33) := ⟨_, rfl⟩
                  rw [← hw71]
                  have hbs71 : Below ws70.heap.size ws70 ws71 := by rw [hw71]; exact below_new _ _
                  have nbs71 : Blk ws71 ws70.heap.size 33 z.toArray := by rw [hw71]; exact Blk.new _ _ _
                  have szs71 : ws70.heap.size < ws71.heap.size := by rw [hw71]; simp
                  clear hw71
                  have ges71 : w4.heap.size ≤ ws70.heap.size := (hs70).size
                  refine hK.out _ _ ?tu71 (fun hs71 => ?_)
                  case tu71 => exact keepS _ _ hs70 hbs71
                  clear hK K
                  refine stepG 5 (by kernel_rfl) (by simp only [List.getElem?_toArray, List.getElem?_cons_succ, List.getElem?_cons_zero]; rfl) (fun K hK => ?_)
                  go_simp
                  obtain ⟨ws72, hw72⟩ : ∃ wx : World, wx = ws71.alloc (.cells z.toArray 33) := ⟨_, rfl⟩
                  rw [← hw72]
                  have hbs72 : Below ws71.heap.size ws71 ws72 := by rw [hw72]; exact below_new _ _
                  have nbs72 : Blk ws72 ws71.heap.size 33 z.toArray := by rw [hw72]; exact Blk.new _ _ _
                  have szs72 : ws71.heap.size < ws72.heap.size := by rw [hw72]; simp
                  clear hw72
                  have ges72 : w4.heap.size ≤ ws71.heap.size := (hs71).size
                  refine hK.out _ _ ?tu72 (fun hs72 => ?_)
                  case tu72 => exact keepS _ _ hs71 hbs72
                  clear hK K
                  have nb4_72 := nbs71.below hbs72 nbs71.lt
                  refine stepG 6 (by kernel_rfl) (by simp only [List.getElem?_toArray, List.getElem?_cons_succ, List.getElem?_cons_zero]; rfl) (fun K hK => ?_)
                  refine step_store_blk rfl 33 (.tmp 11) (.tmp 36) rfl rfl rfl nb4_72 (by rw [lcz.out, lz.out]) (by rw [lcz.out]; exact infoA4) onecz.out ?_
                  intro wa hka hga
                  refine hK.out _ _ ?ts68 (fun hHeld => ?_)
                  case ts68 => ((try dsimp only); exact (hs72).grown hga (hs72).size (by intro k hk; simp at hk; omega))
                  clear hK K
                  have hkb := (nbs72).keep_grown hga (by simp; omega)
                  have hSa := hHeld
                  refine stepG 7 (by kernel_rfl) (by simp only [List.getElem?_toArray, List.getElem?_cons_succ, List.getElem?_cons_zero]; rfl) (fun K hK => ?_)
                  refine step_store_blk rfl 33 (.tmp 12) (.tmp 38) rfl rfl rfl hkb (by rw [lcw.out, lz.out]) (by rw [lcw.out]; exact infoA4) onecw.out ?_
                  intro wb hkb2 hgb
                  refine hK.out _ _ ?ts69 (fun hHeld => ?_)
                  case ts69 => ((try dsimp only); exact hSa.grown hgb hSa.size (by intro k hk; simp at hk; omega))
                  clear hK K
                  have hka2 := hka.keep_grown hgb (by simp; omega)
                  refine doneG (by kernel_rfl) ?_ _
                  go_wp2_with fail
                  go_meet
                  exact ⟨_, _, rfl, rfl, hka2, hkb2, hHeld⟩
                · refine StepOf.mk 5 (by simp only [List.getElem?_toArray, List.getElem?_cons_succ, List.getElem?_cons_zero]; rfl) (fun K hK => ?_)
                  go_simp
                  obtain ⟨ws73, hw73⟩ : ∃ wx : World, wx = ws70.alloc (.cells z.toArray 33) := ⟨_, rfl⟩
                  rw [← hw73]
                  have hbs73 : Below ws70.heap.size ws70 ws73 := by rw [hw73]; exact below_new _ _
                  have nbs73 : Blk ws73 ws70.heap.size 33 z.toArray := by rw [hw73]; exact Blk.new _ _ _
                  have szs73 : ws70.heap.size < ws73.heap.size := by rw [hw73]; simp
                  clear hw73
                  have ges73 : w4.heap.size ≤ ws70.heap.size := (hs70).size
                  refine hK.out _ _ ?tu73 (fun hs73 => ?_)
                  case tu73 => exact keepS _ _ hs70 hbs73
                  clear hK K
                  refine stepG 4 (by kernel_rfl) (by simp only [List.getElem?_toArray, List.getElem?_cons_succ, List.getElem?_cons_zero]; rfl) (fun K hK => ?_)
                  go_simp
                  obtain ⟨ws74, hw74⟩ : ∃ wx : World, wx = ws73.alloc (.cells z.toArray 33) := ⟨_, rfl⟩
                  rw [← hw74]
                  have hbs74 : Below ws73.heap.size ws73 ws74 := by rw [hw74]; exact below_new _ _
                  have nbs74 : Blk ws74 ws73.heap.size 33 z.toArray := by rw [hw74]; exact Blk.new _ _ _
                  have szs74 : ws73.heap.size < ws74.heap.size := by rw [hw74]; simp
                  clear hw74
                  have ges74 : w4.heap.size ≤ ws73.heap.size := (hs73).size
                  refine hK.out _ _ ?tu74 (fun hs74 => ?_)
                  case tu74 => exact keepS _ _ hs73 hbs74
                  clear hK K
                  have nb5_74 := nbs73.below hbs74 nbs73.lt
                  refine stepG 6 (by kernel_rfl) (by simp only [List.getElem?_toArray, List.getElem?_cons_succ, List.getElem?_cons_zero]; rfl) (fun K hK => ?_)
                  refine step_store_blk rfl 33 (.tmp 11) (.tmp 36) rfl rfl rfl nbs74 (by rw [lcz.out, lz.out]) (by rw [lcz.out]; exact infoA4) onecz.out ?_
                  intro wa hka hga
                  refine hK.out _ _ ?ts70 (fun hHeld => ?_)
                  case ts70 => ((try dsimp only); exact (hs74).grown hga (hs74).size (by intro k hk; simp at hk; omega))
                  clear hK K
                  have hkb := (nb5_74).keep_grown hga (by simp; omega)
                  have hSa := hHeld
                  refine stepG 7 (by kernel_rfl) (by simp only [List.getElem?_toArray, List.getElem?_cons_succ, List.getElem?_cons_zero]; rfl) (fun K hK => ?_)
                  refine step_store_blk rfl 33 (.tmp 12) (.tmp 38) rfl rfl rfl hkb (by rw [lcw.out, lz.out]) (by rw [lcw.out]; exact infoA4) onecw.out ?_
                  intro wb hkb2 hgb
                  refine hK.out _ _ ?ts71 (fun hHeld => ?_)
                  case ts71 => ((try dsimp only); exact hSa.grown hgb hSa.size (by intro k hk; simp at hk; omega))
                  clear hK K
                  have hka2 := hka.keep_grown hgb (by simp; omega)
                  refine doneG (by kernel_rfl) ?_ _
                  go_wp2_with fail
                  go_meet
                  exact ⟨_, _, rfl, rfl, hka2, hkb2, hHeld⟩
              · refine StepOf.mk 4 (by simp only [List.getElem?_toArray, List.getElem?_cons_succ, List.getElem?_cons_zero]; rfl) (fun K hK => ?_)
                go_simp
                obtain ⟨ws75, hw75⟩ : ∃ wx : World, wx = ws69.alloc (.cells z.toArray 33) := ⟨_, rfl⟩
                rw [← hw75]
                have hbs75 : Below ws69.heap.size ws69 ws75 := by rw [hw75]; exact below_new _ _
                have nbs75 : Blk ws75 ws69.heap.size 33 z.toArray := by rw [hw75]; exact Blk.new _ _ _
                have szs75 : ws69.heap.size < ws75.heap.size := by rw [hw75]; simp
                clear hw75
                have ges75 : w4.heap.size ≤ ws69.heap.size := (hs69).size
                refine hK.out _ _ ?tu75 (fun hs75 => ?_)
                case tu75 => exact keepS _ _ hs69 hbs75
                clear hK K
                refine stepG2 3 5 (by kernel_rfl) ?_ ?_
                · refine StepOf.mk 3 (by simp only [List.getElem?_toArray, List.getElem?_cons_succ, List.getElem?_cons_zero]; rfl) (fun K hK => ?_)
                  go_simp
                  refine (unmixl e ce cw Hce Hcw HEl.out _).mono ?_
                  rintro e ws76 ⟨rfl, hbs76⟩
                  have szs76 := hbs76.size
                  refine hK.out _ _ ?tu76 (fun hs76 => ?_)
                  case tu76 => exact keepS _ _ hs75 hbs76
                  clear hK K
                  have nb4_76 := nbs75.below hbs76 nbs75.lt
                  refine stepG 5 (by kernel_rfl) (by simp only [List.getElem?_toArray, List.getElem?_cons_succ, List.getElem?_cons_zero]; rfl) (fun K hK => ?_)
                  go_simp
                  obtain ⟨ws77, hw77⟩ : ∃ wx : World, wx = ws76.alloc (.cells z.toArray 33) := ⟨_, rfl⟩
                  rw [← hw77]
                  have hbs77 : Below ws76.heap.size ws76 ws77 := by rw [hw77]; exact below_new _ _
                  have nbs77 : Blk ws77 ws76.heap.size 33 z.toArray := by rw [hw77]; exact Blk.new _ _ _
                  have szs77 : ws76.heap.size < ws77.heap.size := by rw [hw77]; simp
                  clear hw77
                  have ges77 : w4.heap.size ≤ ws76.heap.size := (hs76).size
                  refine hK.out _ _ ?tu77 (fun hs77 => ?_)
                  case tu77 => exact keepS _ _ hs76 hbs77
                  clear hK K
                  have nb4_77 := nb4_76.below hbs77 nb4_76.lt
                  refine stepG 6 (by kernel_rfl) (by simp only [List.getElem?_toArray, List.getElem?_cons_succ, List.getElem?_cons_zero]; rfl) (fun K hK => ?_)
                  refine step_store_blk rfl 33 (.tmp 11) (.tmp 36) rfl rfl rfl nb4_77 (by rw [lcz.out, lz.out]) (by rw [lcz.out]; exact infoA4) onecz.out ?_
                  intro wa hka hga
                  refine hK.out _ _ ?ts72 (fun hHeld => ?_)
                  case ts72 => ((try dsimp only); exact (hs77).grown hga (hs77).size (by intro k hk; simp at hk; omega))
                  clear hK K
                  have hkb := (nbs77).keep_grown hga (by simp; omega)
                  have hSa := hHeld
                  refine stepG 7 (by kernel_rfl) (by simp only [List.getElem?_toArray, List.getElem?_cons_succ, List.getElem?_cons_zero]; rfl) (fun K hK => ?_)
                  refine step_store_blk rfl 33 (.tmp 12) (.tmp 38) rfl rfl rfl hkb (by rw [lcw.out, lz.out]) (by rw [lcw.out]; exact infoA4) onecw.out ?_
                  intro wb hkb2 hgb
                  refine hK.out _ _ ?ts73 (fun hHeld => ?_)
                  case ts73 => ((try dsimp only); exact hSa.grown hgb hSa.size (by intro k hk; simp at hk; omega))
                  clear hK K
                  have hka2 := hka.keep_grown hgb (by simp; omega)
                  refine doneG (by kernel_rfl) ?_ _
                  go_wp2_with fail
                  go_meet
                  exact ⟨_, _, rfl, rfl, hka2, hkb2, hHeld⟩
                · refine StepOf.mk 5 (by simp only [List.getElem?_toArray, List.getElem?_cons_succ, List.getElem?_cons_zero]; rfl) (fun K hK => ?_)
                  go_simp
                  obtain ⟨ws78, hw78⟩ : ∃ wx : World, wx = ws75.alloc (.cells z.toArray 33) := ⟨_, rfl⟩
                  rw [← hw78]
                  have hbs78 : Below ws75.heap.size ws75 ws78 := by rw [hw78]; exact below_new _ _
                  have nbs78 : Blk ws78 ws75.heap.size 33 z.toArray := by rw [hw78]; exact Blk.new _ _ _
                  have szs78 : ws75.heap.size < ws78.heap.size := by rw [hw78]; simp
                  clear hw78
                  have ges78 : w4.heap.size ≤ ws75.heap.size := (hs75).size
                  refine hK.out _ _ ?tu78 (fun hs78 => ?_)
                  case tu78 => exact keepS _ _ hs75 hbs78
                  clear hK K
                  have nb4_78 := nbs75.below hbs78 nbs75.lt
                  refine stepG 3 (by kernel_rfl) (by simp only [List.getElem?_toArray, List.getElem?_cons_succ, List.getElem?_cons_zero]; rfl) (fun K hK => ?_)
                  go_simp
                  refine (unmixl e ce cw Hce Hcw HEl.out _).mono ?_
                  rintro e ws79 ⟨rfl, hbs79⟩
                  have szs79 := hbs79.size
                  refine hK.out _ _ ?tu79 (fun hs79 => ?_)
                  case tu79 => exact keepS _ _ hs78 hbs79
                  clear hK K
                  have nb4_79 := nb4_78.below hbs79 nb4_78.lt
                  have nb5_79 := nbs78.below hbs79 nbs78.lt
                  refine stepG 6 (by kernel_rfl) (by simp only [List.getElem?_toArray, List.getElem?_cons_succ, List.getElem?_cons_zero]; rfl) (fun K hK => ?_)
                  refine step_store_blk rfl 33 (.tmp 11) (.tmp 36) rfl rfl rfl nb4_79 (by rw [lcz.out, lz.out]) (by rw [lcz.out]; exact infoA4) onecz.out ?_
                  intro wa hka hga
                  refine hK.out _ _ ?ts74 (fun hHeld => ?_)
                  case ts74 => ((try dsimp only); exact (hs79).grown hga (hs79).size (by intro k hk; simp at hk; omega))
                  clear hK K
                  have hkb := (nb5_79).keep_grown hga (by simp; omega)
                  have hSa := hHeld
                  refine stepG 7 (by kernel_rfl) (by simp only [List.getElem?_toArray, List.getElem?_cons_succ, List.getElem?_cons_zero]; rfl) (fun K hK => ?_)
                  refine step_store_blk rfl 33 (.tmp 12) (.tmp 38) rfl rfl rfl hkb (by rw [lcw.out, lz.out]) (by rw [lcw.out]; exact infoA4) onecw.out ?_
                  intro wb hkb2 hgb
                  refine hK.out _ _ ?ts75 (fun hHeld => ?_)
                  case ts75 => ((try dsimp only); exact hSa.grown hgb hSa.size (by intro k hk; simp at hk; omega))
                  clear hK K
                  have hka2 := hka.keep_grown hgb (by simp; omega)
                  refine doneG (by kernel_rfl) ?_ _
                  go_wp2_with fail
                  go_meet
                  exact ⟨_, _, rfl, rfl, hka2, hkb2, hHeld⟩
              · refine StepOf.mk 5 (by simp only [List.getElem?_toArray, List.getElem?_cons_succ, List.getElem?_cons_zero]; rfl) (fun K hK => ?_)
                go_simp
                obtain ⟨ws80, hw80⟩ : ∃ wx : World, wx = ws69.alloc (.cells z.toArray 33) := ⟨_, rfl⟩
                rw [← hw80]
                have hbs80 : Below ws69.heap.size ws69 ws80 := by rw [hw80]; exact below_new _ _
                have nbs80 : Blk ws80 ws69.heap.size 33 z.toArray := by rw [hw80]; exact Blk.new _ _ _
                have szs80 : ws69.heap.size < ws80.heap.size := by rw [hw80]; simp
                clear hw80
                have ges80 : w4.heap.size ≤ ws69.heap.size := (hs69).size
                refine hK.out _ _ ?tu80 (fun hs80 => ?_)
                case tu80 => exact keepS _ _ hs69 hbs80
                clear hK K
                refine stepG2 3 4 (by kernel_rfl) ?_ ?_
                · refine StepOf.mk 3 (by simp only [List.getElem?_toArray, List.getElem?_cons_succ, List.getElem?_cons_zero]; rfl) (fun K hK => ?_)
                  go_simp
                  refine (unmixl e ce cw Hce Hcw HEl.out _).mono ?_
                  rintro e ws81 ⟨rfl, hbs81⟩
                  have szs81 := hbs81.size
                  refine hK.out _ _ ?tu81 (fun hs81 => ?_)
                  case tu81 => exact keepS _ _ hs80 hbs81
                  clear hK K
                  have nb5_81 := nbs80.below hbs81 nbs80.lt
                  refine stepG 4 (by kernel_rfl) (by simp only [List.getElem?_toArray, List.getElem?_cons_succ, List.getElem?_cons_zero]; rfl) (fun K hK => ?_)
                  go_simp
                  obtain ⟨ws82, hw82⟩ : ∃ wx : World, wx = ws81.alloc (.cells z.toArray 33) := ⟨_, rfl⟩
                  rw [← hw82]
                  have hbs82 : Below ws81.heap.size ws81 ws82 := by rw [hw82]; exact below_new _ _
                  have nbs82 : Blk ws82 ws81.heap.size 33 z.toArray := by rw [hw82]; exact Blk.new _ _ _
                  have szs82 : ws81.heap.size < ws82.heap.size := by rw [hw82]; simp
                  clear hw82
                  have ges82 : w4.heap.size ≤ ws81.heap.size := (hs81).size
                  refine hK.out _ _ ?tu82 (fun hs82 => ?_)
                  case tu82 => exact keepS _ _ hs81 hbs82
                  clear hK K
                  have nb5_82 := nb5_81.below hbs82 nb5_81.lt
                  refine stepG 6 (by kernel_rfl) (by simp only [List.getElem?_toArray, List.getElem?_cons_succ, List.getElem?_cons_zero]; rfl) (fun K hK => ?_)
                  refine step_store_blk rfl 33 (.tmp 11) (.tmp 36) rfl rfl rfl nbs82 (by rw [lcz.out, lz.out]) (by rw [lcz.out]; exact infoA4) onecz.out ?_
                  intro wa hka hga
                  refine hK.out _ _ ?ts76 (fun hHeld => ?_)
                  case ts76 => ((try dsimp only); exact (hs82).grown hga (hs82).size (by intro k hk; simp at hk; omega))
                  clear hK K
                  have hkb := (nb5_82).keep_grown hga (by simp; omega)
                  have hSa := hHeld
                  refine stepG 7 (by kernel_rfl) (by simp only [List.getElem?_toArray, List.getElem?_cons_succ, List.getElem?_cons_zero]; rfl) (fun K hK => ?_)
                  refine step_store_blk rfl 33 (.tmp 12) (.tmp 38) rfl rfl rfl hkb (by rw [lcw.out, lz.out]) (by rw [lcw.out]; exact infoA4) onecw.out ?_
                  intro wb hkb2 hgb
                  refine hK.out _ _ ?ts77 (fun hHeld => ?_)
                  case ts77 => ((try dsimp only); exact hSa.grown hgb hSa.size (by intro k hk; simp at hk; omega))
                  clear hK K
                  have hka2 := hka.keep_grown hgb (by simp; omega)
                  refine doneG (by kernel_rfl) ?_ _
                  go_wp2_with fail
                  go_meet
                  exact ⟨_, _, rfl, rfl, hka2, hkb2, hHeld⟩
                · refine StepOf.mk 4 (by simp only [List.getElem?_toArray, List.getElem?_cons_succ, List.getElem?_cons_zero]; rfl) (fun K hK => ?_)
                  go_simp
                  obtain ⟨ws83, hw83⟩ : ∃ wx : World, wx = ws80.alloc (.cells z.toArray 33) := ⟨_, rfl⟩
                  rw [← hw83]
                  have hbs83 : Below ws80.heap.size ws80 ws83 := by rw [hw83]; exact below_new _ _
                  have nbs83 : Blk ws83 ws80.heap.size 33 z.toArray := by rw [hw83]; exact Blk.new _ _ _
                  have szs83 : ws80.heap.size < ws83.heap.size := by rw [hw83]; simp
                  clear hw83
                  have ges83 : w4.heap.size ≤ ws80.heap.size := (hs80).size
                  refine hK.out _ _ ?tu83 (fun hs83 => ?_)
                  case tu83 => exact keepS _ _ hs80 hbs83
                  clear hK K
                  have nb5_83 := nbs80.below hbs83 nbs80.lt
                  refine stepG 3 (by kernel_rfl) (by simp only [List.getElem?_toArray, List.getElem?_cons_succ, List.getElem?_cons_zero]; rfl) (fun K hK => ?_)
                  go_simp
                  refine (unmixl e ce cw Hce Hcw HEl.out _).mono ?_
                  rintro e ws84 ⟨rfl, hbs84⟩
                  have szs84 := hbs84.size
                  refine hK.out _ _ ?tu84 (fun hs84 => ?_)
                  case tu84 => exact keepS _ _ hs83 hbs84
                  clear hK K
                  have nb5_84 := nb5_83.below hbs84 nb5_83.lt
                  have nb4_84 := nbs83.below hbs84 nbs83.lt
                  refine stepG 6 (by kernel_rfl) (by simp only [List.getElem?_toArray, List.getElem?_cons_succ, List.getElem?_cons_zero]; rfl) (fun K hK => ?_)
                  refine step_store_blk rfl 33 (.tmp 11) (.tmp 36) rfl rfl rfl nb4_84 (by rw [lcz.out, lz.out]) (by rw [lcz.out]; exact infoA4) onecz.out ?_
                  intro wa hka hga
                  refine hK.out _ _ ?ts78 (fun hHeld => ?_)
                  case ts78 => ((try dsimp only); exact (hs84).grown hga (hs84).size (by intro k hk; simp at hk; omega))
                  clear hK K
                  have hkb := (nb5_84).keep_grown hga (by simp; omega)
                  have hSa := hHeld
                  refine stepG 7 (by kernel_rfl) (by simp only [List.getElem?_toArray, List.getElem?_cons_succ, List.getElem?_cons_zero]; rfl) (fun K hK => ?_)
                  refine step_store_blk rfl 33 (.tmp 12) (.tmp 38) rfl rfl rfl hkb (by rw [lcw.out, lz.out]) (by rw [lcw.out]; exact infoA4) onecw.out ?_
                  intro wb hkb2 hgb
                  refine hK.out _ _ ?ts79 (fun hHeld => ?_)
                  case ts79 => ((try dsimp only); exact hSa.grown hgb hSa.size (by intro k hk; simp at hk; omega))
                  clear hK K
                  have hka2 := hka.keep_grown hgb (by simp; omega)
                  refine doneG (by kernel_rfl) ?_ _
                  go_wp2_with fail
                  go_meet
                  exact ⟨_, _, rfl, rfl, hka2, hkb2, hHeld⟩
            · refine StepOf.mk 4 (by simp only [List.getElem?_toArray, List.getElem?_cons_succ, List.getElem?_cons_zero]; rfl) (fun K hK => ?_)
              go_simp
              obtain ⟨ws85, hw85⟩ : ∃ wx : World, wx = V0.alloc (.cells z.toArray 33) := ⟨_, rfl⟩
              rw [← hw85]
              have hbs85 : Below V0.heap.size V0 ws85 := by rw [hw85]; exact below_new _ _
              have nbs85 : Blk ws85 V0.heap.size 33 z.toArray := by rw [hw85]; exact Blk.new _ _ _
              have szs85 : V0.heap.size < ws85.heap.size := by rw [hw85]; simp
              clear hw85
              have ges85 : w4.heap.size ≤ V0.heap.size := (hHeld).size
              refine hK.out _ _ ?tu85 (fun hs85 => ?_)
              case tu85 => exact keepS _ _ hHeld hbs85
              clear hK K
              refine stepG2 1 5 (by kernel_rfl) ?_ ?_
              · refine StepOf.mk 1 (by simp only [List.getElem?_toArray, List.getElem?_cons_succ, List.getElem?_cons_zero]; rfl) (fun K hK => ?_)
                go_simp
                refine (mixl e ce cz Hce Hcz HEl.out _).mono ?_
                rintro e ws86 ⟨rfl, hbs86⟩
                have szs86 := hbs86.size
                refine hK.out _ _ ?tu86 (fun hs86 => ?_)
                case tu86 => exact keepS _ _ hs85 hbs86
                clear hK K
                have nb4_86 := nbs85.below hbs86 nbs85.lt
                refine stepG2 3 5 (by kernel_rfl) ?_ ?_
                · refine StepOf.mk 3 (by simp only [List.getElem?_toArray, List.getElem?_cons_succ, List.getElem?_cons_zero]; rfl) (fun K hK => ?_)
                  go_simp
                  refine (unmixl e ce cw Hce Hcw HEl.out _).mono ?_
                  rintro e ws87 ⟨rfl, hbs87⟩
                  have szs87 := hbs87.size
                  refine hK.out _ _ ?tu87 (fun hs87 => ?_)
                  case tu87 => exact keepS _ _ hs86 hbs87
                  clear hK K
                  have nb4_87 := nb4_86.below hbs87 nb4_86.lt
                  refine stepG 5 (by kernel_rfl) (by simp only [List.getElem?_toArray, List.getElem?_cons_succ, List.getElem?_cons_zero]; rfl) (fun K hK => ?_)
                  go_simp
                  obtain ⟨ws88, hw88⟩ : ∃ wx : World, wx = ws87.alloc (.cells z.toArray 33) := ⟨_, rfl⟩
                  rw [← hw88]
                  have hbs88 : Below ws87.heap.size ws87 ws88 := by rw [hw88]; exact below_new _ _
                  have nbs88 : Blk ws88 ws87.heap.size 33 z.toArray := by rw [hw88]; exact Blk.new _ _ _
                  have szs88 : ws87.heap.size < ws88.heap.size := by rw [hw88]; simp
                  clear hw88
                  have ges88 : w4.heap.size ≤ ws87.heap.size := (hs87).size
                  refine hK.out _ _ ?tu88 (fun hs88 => ?_)
                  case tu88 => exact keepS _ _ hs87 hbs88
                  clear hK K
                  have nb4_88 := nb4_87.below hbs88 nb4_87.lt
                  refine stepG 6 (by kernel_rfl) (by simp only [List.getElem?_toArray, List.getElem?_cons_succ, List.getElem?_cons_zero]; rfl) (fun K hK => ?_)
                  refine step_store_blk rfl 33 (.tmp 11) (.tmp 36) rfl rfl rfl nb4_88 (by rw [lcz.out, lz.out]) (by rw [lcz.out]; exact infoA4) onecz.out ?_
                  intro wa hka hga
                  refine hK.out _ _ ?ts80 (fun hHeld => ?_)
                  case ts80 => ((try dsimp only); exact (hs88).grown hga (hs88).size (by intro k hk; simp at hk; omega))
                  clear hK K
                  have hkb := (nbs88).keep_grown hga (by simp; omega)
                  have hSa := hHeld
                  refine stepG 7 (by kernel_rfl) (by simp only [List.getElem?_toArray, List.getElem?_cons_succ, List.getElem?_cons_zero]; rfl) (fun K hK => ?_)
                  refine step_store_blk rfl 33 (.tmp 12) (.tmp 38) rfl rfl rfl hkb (by rw [lcw.out, lz.out]) (by rw [lcw.out]; exact infoA4) onecw.out ?_
                  intro wb hkb2 hgb
                  refine hK.out _ _ ?ts81 (fun hHeld => ?_)
                  case ts81 => ((try dsimp only); exact hSa.grown hgb hSa.size (by intro k hk; simp at hk; omega))
                  clear hK K
                  have hka2 := hka.keep_grown hgb (by simp; omega)
                  refine doneG (by kernel_rfl) ?_ _
                  go_wp2_with fail
                  go_meet
                  exact ⟨_, _, rfl, rfl, hka2, hkb2, hHeld⟩
                · refine StepOf.mk 5 (by simp only [List.getElem?_toArray, List.getElem?_cons_succ, List.getElem?_cons_zero]; rfl) (fun K hK => ?_)
                  go_simp
                  obtain ⟨ws89, hw89⟩ : ∃ wx : World, wx = ws86.alloc (.cells z.toArray 33) := ⟨_, rfl⟩
                  rw [← hw89]
                  have hbs89 : Below ws86.heap.size ws86 ws89 := by rw [hw89]; exact below_new _ _
                  have nbs89 : Blk ws89 ws86.heap.size 33 z.toArray := by rw [hw89]; exact Blk.new _ _ _
                  have szs89 : ws86.heap.size < ws89.heap.size := by rw [hw89]; simp
                  clear hw89
                  have ges89 : w4.heap.size ≤ ws86.heap.size := (hs86).size
                  refine hK.out _ _ ?tu89 (fun hs89 => ?_)
                  case tu89 => exact keepS _ _ hs86 hbs89
                  clear hK K
                  have nb4_89 := nb4_86.below hbs89 nb4_86.lt
                  refine stepG 3 (by kernel_rfl) (by simp only [List.getElem?_toArray, List.getElem?_cons_succ, List.getElem?_cons_zero]; rfl) (fun K hK => ?_)
                  go_simp
                  refine (unmixl e ce cw Hce Hcw HEl.out _).mono ?_
                  rintro e ws90 ⟨rfl, hbs90⟩
                  have szs90 := hbs90.size
                  refine hK.out _ _ ?tu90 (fun hs90 => ?_)
                  case tu90 => exact keepS _ _ hs89 hbs90
                  clear hK K
                  have nb4_90 := nb4_89.below hbs90 nb4_89.lt
                  have nb5_90 := nbs89.below hbs90 nbs89.lt
                  refine stepG 6 (by kernel_rfl) (by simp only [List.getElem?_toArray, List.getElem?_cons_succ, List.getElem?_cons_zero]; rfl) (fun K hK => ?_)
                  refine step_store_blk rfl 33 (.tmp 11) (.tmp 36) rfl rfl rfl nb4_90 (by rw [lcz.out, lz.out]) (by rw [lcz.out]; exact infoA4) onecz.out ?_
                  intro wa hka hga
                  refine hK.out _ _ ?ts82 (fun hHeld => ?_)
                  case ts82 => ((try dsimp only); exact (hs90).grown hga (hs90).size (by intro k hk; simp at hk; omega))
                  clear hK K
                  have hkb := (nb5_90).keep_grown hga (by simp; omega)
                  have hSa := hHeld
                  refine stepG 7 (by kernel_rfl) (by simp only [List.getElem?_toArray, List.getElem?_cons_succ, List.getElem?_cons_zero]; rfl) (fun K hK => ?_)
                  refine step_store_blk rfl 33 (.tmp 12) (.tmp 38) rfl rfl rfl hkb (by rw [lcw.out, lz.out]) (by rw [lcw.out]; exact infoA4) onecw.out ?_
                  intro wb hkb2 hgb
                  refine hK.out _ _ ?ts83 (fun hHeld => ?_)
                  case ts83 => ((try dsimp only); exact hSa.grown hgb hSa.size (by intro k hk; simp at hk; omega))
                  clear hK K
                  have hka2 := hka.keep_grown hgb (by simp; omega)
                  refine doneG (by kernel_rfl) ?_ _
                  go_wp2_with fail
                  go_meet
                  exact ⟨_, _, rfl, rfl, hka2, hkb2, hHeld⟩
              · refine StepOf.mk 5 (by simp only [List.getElem?_toArray, List.getElem?_cons_succ, List.getElem?_cons_zero]; rfl) (fun K hK => ?_)
                go_simp
                obtain ⟨ws91, hw91⟩ : ∃ wx : World, wx = ws85.alloc (.cells z.toArray 33) := ⟨_, rfl⟩
                rw [← hw91]
                have hbs91 : Below ws85.heap.size ws85 ws91 := by rw [hw91]; exact below_new _ _
                have nbs91 : Blk ws91 ws85.heap.size 33 z.toArray := by rw [hw91]; exact Blk.new _ _ _
                have szs91 : ws85.heap.size < ws91.heap.size := by rw [hw91]; simp
                clear hw91
                have ges91 : w4.heap.size ≤ ws85.heap.size := (hs85).size
                refine hK.out _ _ ?tu91 (fun hs91 => ?_)
                case tu91 => exact keepS _ _ hs85 hbs91
                clear hK K
                have nb4_91 := nbs85.below hbs91 nbs85.lt
                refine stepG 1 (by kernel_rfl) (by simp only [List.getElem?_toArray, List.getElem?_cons_succ, List.getElem?_cons_zero]; rfl) (fun K hK => ?_)
                go_simp
                refine (mixl e ce cz Hce Hcz HEl.out _).mono ?_
                rintro e ws92 ⟨rfl, hbs92⟩
                have szs92 := hbs92.size
                refine hK.out _ _ ?tu92 (fun hs92 => ?_)
                case tu92 => exact keepS _ _ hs91 hbs92
                clear hK K
                have nb4_92 := nb4_91.below hbs92 nb4_91.lt
                have nb5_92 := nbs91.below hbs92 nbs91.lt
                refine stepG 3 (by kernel_rfl) (by simp only [List.getElem?_toArray, List.getElem?_cons_succ, List.getElem?_cons_zero]; rfl) (fun K hK => ?_)
                go_simp
                refine (unmixl e ce cw Hce Hcw HEl.out _).mono ?_
                rintro e ws93 ⟨rfl, hbs93⟩
                have szs93 := hbs93.size
                refine hK.out _ _ ?tu93 (fun hs93 => ?_)
                case tu93 => exact keepS _ _ hs92 hbs93
                clear hK K
                have nb4_93 := nb4_92.below hbs93 nb4_92.lt
                have nb5_93 := nb5_92.below hbs93 nb5_92.lt
                refine stepG 6 (by kernel_rfl) (by simp only [List.getElem?_toArray, List.getElem?_cons_succ, List.getElem?_cons_zero]; rfl) (fun K hK => ?_)
                refine step_store_blk rfl 33 (.tmp 11) (.tmp 36) rfl rfl rfl nb4_93 (by rw [lcz.out, lz.out]) (by rw [lcz.out]; exact infoA4) onecz.out ?_
                intro wa hka hga
                refine hK.out _ _ ?ts84 (fun hHeld => ?_)
                case ts84 => ((try dsimp only); exact (hs93).grown hga (hs93).size (by intro k hk; simp at hk; omega))
                clear hK K
                have hkb := (nb5_93).keep_grown hga (by simp; omega)
                have hSa := hHeld
                refine stepG 7 (by kernel_rfl) (by simp only [List.getElem?_toArray, List.getElem?_cons_succ, List.getElem?_cons_zero]; rfl) (fun K hK => ?_)
                refine step_store_blk rfl 33 (.tmp 12) (.tmp 38) rfl rfl rfl hkb (by rw [lcw.out, lz.out]) (by rw [lcw.out]; exact infoA4) onecw.out ?_
                intro wb hkb2 hgb
                refine hK.out _ _ ?ts85 (fun hHeld => ?_)
                case ts85 => ((try dsimp only); exact hSa.grown hgb hSa.size (by intro k hk; simp at hk; omega))
                clear hK K
                have hka2 := hka.keep_grown hgb (by simp; omega)
                refine doneG (by kernel_rfl) ?_ _
                go_wp2_with fail
                go_meet
                exact ⟨_, _, rfl, rfl, hka2, hkb2, hHeld⟩
            · refine StepOf.mk 5 (by simp only [List.getElem?_toArray, List.getElem?_cons_succ, List.getElem?_cons_zero]; rfl) (fun K hK => ?_)
              go_simp
              obtain ⟨ws94, hw94⟩ : ∃ wx : World, wx = V0.alloc (.cells z.toArray 33) := ⟨_, rfl⟩
              rw [← hw94]
              have hbs94 : Below V0.heap.size V0 ws94 := by rw [hw94]; exact below_new _ _
              have nbs94 : Blk ws94 V0.heap.size 33 z.toArray := by rw [hw94]; exact Blk.new _ _ _
              have szs94 : V0.heap.size < ws94.heap.size := by rw [hw94]; simp
              clear hw94
              have ges94 : w4.heap.size ≤ V0.heap.size := (hHeld).size
              refine hK.out _ _ ?tu94 (fun hs94 => ?_)
              case tu94 => exact keepS _ _ hHeld hbs94
              clear hK K
              refine stepG2 1 4 (by kernel_rfl) ?_ ?_
              · refine StepOf.mk 1 (by simp only [List.getElem?_toArray, List.getElem?_cons_succ, List.getElem?_cons_zero]; rfl) (fun K hK => ?_)
                go_simp
                refine (mixl e ce cz Hce Hcz HEl.out _).mono ?_
                rintro e ws95 ⟨rfl, hbs95⟩
                have szs95 := hbs95.size
                refine hK.out _ _ ?tu95 (fun hs95 => ?_)
                case tu95 => exact keepS _ _ hs94 hbs95
                clear hK K
                have nb5_95 := nbs94.below hbs95 nbs94.lt
                refine stepG2 3 4 (by kernel_rfl) ?_ ?_
                · refine StepOf.mk 3 (by simp only [List.getElem?_toArray, List.getElem?_cons_succ, List.getElem?_cons_zero]; rfl) (fun K hK => ?_)
                  go_simp
                  refine (unmixl e ce cw Hce Hcw HEl.out _).mono ?_
                  rintro e ws96 ⟨rfl, hbs96⟩
                  have szs96 := hbs96.size
                  refine hK.out _ _ ?tu96 (fun hs96 => ?_)
                  case tu96 => exact keepS _ _ hs95 hbs96
                  clear hK K
                  have nb5_96 := nb5_95.below hbs96 nb5_95.lt
                  refine stepG 4 (by kernel_rfl) (by simp only [List.getElem?_toArray, List.getElem?_cons_succ, List.getElem?_cons_zero]; rfl) (fun K hK => ?_)
                  go_simp
                  obtain ⟨ws97, hw97⟩ : ∃ wx : World, wx = ws96.alloc (.cells z.toArray 33) := ⟨_, rfl⟩
                  rw [← hw97]
                  have hbs97 : Below ws96.heap.size ws96 ws97 := by rw [hw97]; exact below_new _ _
                  have nbs97 : Blk ws97 ws96.heap.size 33 z.toArray := by rw [hw97]; exact Blk.new _ _ _
                  have szs97 : ws96.heap.size < ws97.heap.size := by rw [hw97]; simp
                  clear hw97
                  have ges97 : w4.heap.size ≤ ws96.heap.size := (hs96).size
                  refine hK.out _ _ ?tu97 (fun hs97 => ?_)
                  case tu97 => exact keepS _ _ hs96 hbs97
                  clear hK K
                  have nb5_97 := nb5_96.below hbs97 nb5_96.lt
                  refine stepG 6 (by kernel_rfl) (by simp only [List.getElem?_toArray, List.getElem?_cons_succ, List.getElem?_cons_zero]; rfl) (fun K hK => ?_)
                  refine step_store_blk rfl 33 (.tmp 11) (.tmp 36) rfl rfl rfl nbs97 (by rw [lcz.out, lz.out]) (by rw [lcz.out]; exact infoA4) onecz.out ?_
                  intro wa hka hga
                  refine hK.out _ _ ?ts86 (fun hHeld => ?_)
                  case ts86 => ((try dsimp only); exact (hs97).grown hga (hs97).size (by intro k hk; simp at hk; omega))
                  clear hK K
                  have hkb := (nb5_97).keep_grown hga (by simp; omega)
                  have hSa := hHeld
                  refine stepG 7 (by kernel_rfl) (by simp only [List.getElem?_toArray, List.getElem?_cons_succ, List.getElem?_cons_zero]; rfl) (fun K hK => ?_)
                  refine step_store_blk rfl 33 (.tmp 12) (.tmp 38) rfl rfl rfl hkb (by rw [lcw.out, lz.out]) (by rw [lcw.out]; exact infoA4) onecw.out ?_
                  intro wb hkb2 hgb
                  refine hK.out _ _ ?ts87 (fun hHeld => ?_)
                  case ts87 => ((try dsimp only); exact hSa.grown hgb hSa.size (by intro k hk; simp at hk; omega))
                  clear hK K
                  have hka2 := hka.keep_grown hgb (by simp; omega)
                  refine doneG (by kernel_rfl) ?_ _
                  go_wp2_with fail
                  go_meet
                  exact ⟨_, _, rfl, rfl, hka2, hkb2, hHeld⟩
                · refine StepOf.mk 4 (by simp only [List.getElem?_toArray, List.getElem?_cons_succ, List.getElem?_cons_zero]; rfl) (fun K hK => ?_)
                  go_simp
                  obtain ⟨ws98, hw98⟩ : ∃ wx : World, wx = ws95.alloc (.cells z.toArray 33) := ⟨_, rfl⟩
                  rw [← hw98]
                  have hbs98 : Below ws95.heap.size ws95 ws98 := by rw [hw98]; exact below_new _ _
                  have nbs98 : Blk ws98 ws95.heap.size 33 z.toArray := by rw [hw98]; exact Blk.new _ _ _
                  have szs98 : ws95.heap.size < ws98.heap.size := by rw [hw98]; simp
                  clear hw98
                  have ges98 : w4.heap.size ≤ ws95.heap.size := (hs95).size
                  refine hK.out _ _ ?tu98 (fun hs98 => ?_)
                  case tu98 => exact keepS _ _ hs95 hbs98
                  clear hK K
                  have nb5_98 := nb5_95.below hbs98 nb5_95.lt
                  refine stepG 3 (by kernel_rfl) (by simp only [List.getElem?_toArray, List.getElem?_cons_succ, List.getElem?_cons_zero]; rfl) (fun K hK => ?_)
                  go_simp
                  refine (unmixl e ce cw Hce Hcw HEl.out _).mono ?_
                  rintro e ws99 ⟨rfl, hbs99⟩
                  have szs99 := hbs99.size
                  refine hK.out _ _ ?tu99 (fun hs99 => ?_)
                  case tu99 => exact keepS _ _ hs98 hbs99
                  clear hK K
                  have nb5_99 := nb5_98.below hbs99 nb5_98.lt
                  have nb4_99 := nbs98.below hbs99 nbs98.lt
                  refine stepG 6 (by kernel_rfl) (by simp only [List.getElem?_toArray, List.getElem?_cons_succ, List.getElem?_cons_zero]; rfl) (fun K hK => ?_)
                  refine step_store_blk rfl 33 (.tmp 11) (.tmp 36) rfl rfl rfl nb4_99 (by rw [lcz.out, lz.out]) (by rw [lcz.out]; exact infoA4) onecz.out ?_
                  intro wa hka hga
                  refine hK.out _ _ ?ts88 (fun hHeld => ?_)
                  case ts88 => ((try dsimp only); exact (hs99).grown hga (hs99).size (by intro k hk; simp at hk; omega))
                  clear hK K
                  have hkb := (nb5_99).keep_grown hga (by simp; omega)
                  have hSa := hHeld
                  refine stepG 7 (by kernel_rfl) (by simp only [List.getElem?_toArray, List.getElem?_cons_succ, List.getElem?_cons_zero]; rfl) (fun K hK => ?_)
                  refine step_store_blk rfl 33 (.tmp 12) (.tmp 38) rfl rfl rfl hkb (by rw [lcw.out, lz.out]) (by rw [lcw.out]; exact infoA4) onecw.out ?_
                  intro wb hkb2 hgb
                  refine hK.out _ _ ?ts89 (fun hHeld => ?_)
                  case ts89 => ((try dsimp only); exact hSa.grown hgb hSa.size (by intro k hk; simp at hk; omega))
                  clear hK K
                  have hka2 := hka.keep_grown hgb (by simp; omega)
                  refine doneG (by kernel_rfl) ?_ _
                  go_wp2_with fail
                  go_meet
                  exact ⟨_, _, rfl, rfl, hka2, hkb2, hHeld⟩
              · refine StepOf.mk 4 (by simp only [List.getElem?_toArray, List.getElem?_cons_succ, List.getElem?_cons_zero]; rfl) (fun K hK => ?_)
                go_simp
                obtain ⟨ws100, hw100⟩ : ∃ wx : World, wx = ws94.alloc (.cells z.toArray 33) := ⟨_, rfl⟩
                rw [← hw100]
                have hbs100 : Below ws94.heap.size ws94 ws100 := by rw [hw100]; exact below_new _ _
                have nbs100 : Blk ws100 ws94.heap.size 33 z.toArray := by rw [hw100]; exact Blk.new _ _ _
                have szs100 : ws94.heap.size < ws100.heap.size := by rw [hw100]; simp
                clear hw100
                have ges100 : w4.heap.size ≤ ws94.heap.size := (hs94).size
                refine hK.out _ _ ?tu100 (fun hs100 => ?_)
                case tu100 => exact keepS _ _ hs94 hbs100
                clear hK K
                have nb5_100 := nbs94.below hbs100 nbs94.lt
                refine stepG 1 (by kernel_rfl) (by simp only [List.getElem?_toArray, List.getElem?_cons_succ, List.getElem?_cons_zero]; rfl) (fun K hK => ?_)
                go_simp
                refine (mixl e ce cz Hce Hcz HEl.out _).mono ?_
                rintro e ws101 ⟨rfl, hbs101⟩
                have szs101 := hbs101.size
                refine hK.out _ _ ?tu101 (fun hs101 => ?_)
                case tu101 => exact keepS _ _ hs100 hbs101
                clear hK K
                have nb5_101 := nb5_100.below hbs101 nb5_100.lt
                have nb4_101 := nbs100.below hbs101 nbs100.lt
                refine stepG 3 (by kernel_rfl) (by simp only [List.getElem?_toArray, List.getElem?_cons_succ, List.getElem?_cons_zero]; rfl) (fun K hK => ?_)
                go_simp
                refine (unmixl e ce cw Hce Hcw HEl.out _).mono ?_
                rintro e ws102 ⟨rfl, hbs102⟩
                have szs102 := hbs102.size
                refine hK.out _ _ ?tu102 (fun hs102 => ?_)
                case tu102 => exact keepS _ _ hs101 hbs102
                clear hK K
                have nb5_102 := nb5_101.below hbs102 nb5_101.lt
                have nb4_102 := nb4_101.below hbs102 nb4_101.lt
                refine stepG 6 (by kernel_rfl) (by simp only [List.getElem?_toArray, List.getElem?_cons_succ, List.getElem?_cons_zero]; rfl) (fun K hK => ?_)
                refine step_store_blk rfl 33 (.tmp 11) (.tmp 36) rfl rfl rfl nb4_102 (by rw [lcz.out, lz.out]) (by rw [lcz.out]; exact infoA4) onecz.out ?_
                intro wa hka hga
                refine hK.out _ _ ?ts90 (fun hHeld => ?_)
                case ts90 => ((try dsimp only); exact (hs102).grown hga (hs102).size (by intro k hk; simp at hk; omega))
                clear hK K
                have hkb := (nb5_102).keep_grown hga (by simp; omega)
                have hSa := hHeld
                refine stepG 7 (by kernel_rfl) (by simp only [List.getElem?_toArray, List.getElem?_cons_succ, List.getElem?_cons_zero]; rfl) (fun K hK => ?_)
                refine step_store_blk rfl 33 (.tmp 12) (.tmp 38) rfl rfl rfl hkb (by rw [lcw.out, lz.out]) (by rw [lcw.out]; exact infoA4) onecw.out ?_
                intro wb hkb2 hgb
                refine hK.out _ _ ?ts91 (fun hHeld => ?_)
                case ts91 => ((try dsimp only); exact hSa.grown hgb hSa.size (by intro k hk; simp at hk; omega))
                clear hK K
                have hka2 := hka.keep_grown hgb (by simp; omega)
                refine doneG (by kernel_rfl) ?_ _
                go_wp2_with fail
                go_meet
                exact ⟨_, _, rfl, rfl, hka2, hkb2, hHeld⟩
          case rest =>
            obtain ⟨b11, b12, rfl, rfl, k11, k12, hbw⟩ := hcut
            obtain ⟨w5, rfl⟩ : ∃ w5 : World, w5 = wc := ⟨_, rfl⟩
            have QC := Lib.hid (OC.out.below hbw OC.out.lt)
            have Q5 := Lib.hid (O5.out.below hbw O5.out.lt)
            have Q6 := Lib.hid (O6.out.below hbw O6.out.lt)
            have Q7 := Lib.hid (O7.out.below hbw O7.out.lt)
            have Q8 := Lib.hid (O8.out.below hbw O8.out.lt)
            have Q11 := Lib.hid k11
            have Q12 := Lib.hid k12
            have QB := Lib.hid (OB.out.trans (hbw.mono (Nat.le_of_lt OC.out.lt)))
            clear k11 k12 hbw OC O5 O6 O7 O8 OB KE
            go_wp2_with fail
            go_loopw [39] (fun s wr => ∃ i : Nat, i ≤ 4 ∧ s = .int .i64 (i : Int) ∧ Below w5.heap.size w5 wr) (fun s _ => 4 - (intOf s).toNat)
            case atStart => exact ⟨0, by omega, rfl, Below.refl _ _⟩
            case round =>
              obtain ⟨i, hi, rfl, hbel⟩ := hrel
              have HBE := Lib.hid hbel
              clear hbel
              by_cases hlt : i < 4
              · have h5 : wr.cell? ⟨b5, i, none⟩ = some (.int .u8 (mix c i : Int)) := cl_blk (Q5.out.below HBE.out Q5.out.lt) Hcx i hlt
                have h6 : wr.cell? ⟨b6, i, none⟩ = some (.int .u8 (mix d i : Int)) := cl_blk (Q6.out.below HBE.out Q6.out.lt) Hcy i hlt
                have h7 : wr.cell? ⟨b7, i, none⟩ = some (.int .u8 (unmix c i : Int)) := cl_blk (Q7.out.below HBE.out Q7.out.lt) Hcu i hlt
                have h8 : wr.cell? ⟨b8, i, none⟩ = some (.int .u8 (unmix d i : Int)) := cl_blk (Q8.out.below HBE.out Q8.out.lt) Hcv i hlt
                have h11 : wr.cell? ⟨b11, i, none⟩ = some (.int .u8 (mix e i : Int)) := cl_blk (Q11.out.below HBE.out Q11.out.lt) Hcz i hlt
                have h12 : wr.cell? ⟨b12, i, none⟩ = some (.int .u8 (unmix e i : Int)) := cl_blk (Q12.out.below HBE.out Q12.out.lt) Hcw i hlt
                have n1 := mix_lt c i
                have n2 := mix_lt d i
                have n3 := unmix_lt c i
                have n4 := unmix_lt d i
                have x1 : bits .xor .u8 (mix c i : Int) (mix d i : Int) = (mix e i : Int) := by rw [HZZ.out i]; exact u8_xor_nat _ _ (by omega) (by omega)
                have x2 : bits .xor .u8 (unmix c i : Int) (unmix d i : Int) = (unmix e i : Int) := by rw [HWW.out i]; exact u8_xor_nat _ _ (by omega) (by omega)
                have e1 : ((mix e i : Int) != (mix e i : Int)) = false := bne_self_int _
                have e2 : ((unmix e i : Int) != (unmix e i : Int)) = false := bne_self_int _
                have hi1 : (0 : Int) ≤ (i : Int) := by omega
                have hi2 : (i : Int) < 4 := by omega
                clear n1 n2 n3 n4
                go_wp2_with fail
                refine region_gate 24 (fun w' => w'.cell? ⟨b5, i, none⟩ = some (.int .u8 (mix c i : Int)) ∧ w'.cell? ⟨b6, i, none⟩ = some (.int .u8 (mix d i : Int)) ∧ w'.cell? ⟨b7, i, none⟩ = some (.int .u8 (unmix c i : Int)) ∧ w'.cell? ⟨b8, i, none⟩ = some (.int .u8 (unmix d i : Int)) ∧ w'.cell? ⟨b11, i, none⟩ = some (.int .u8 (mix e i : Int)) ∧ w'.cell? ⟨b12, i, none⟩ = some (.int .u8 (unmix e i : Int))) (by kernel_rfl) ?th92 (fun hHeld => ?tk92)
                case th92 => ((try dsimp only); exact ⟨h5, h6, h7, h8, h11, h12⟩)
                refine' takeV 0 (oi := _) (d := _) (v := _) ?ti93 ?td93 (by kernel_rfl) (by kernel_rfl) (by kernel_rfl) (by kernel_rfl) (by decide) (fun _ _ _ _ _ h => h) ?tg93 ?ty93 (by assumption) ?tr93
                case ti93 => (simp only [List.getElem?_toArray, List.getElem?_cons_succ, List.getElem?_cons_zero]; rfl)
                case td93 => exact rfl
                case tg93 => exact rfl
                case ty93 => (intro w hSw; (try dsimp only at hSw); go_split_ands; go_simp; try with_reducible rfl)
                simp only [List.setIfInBounds_toArray, List.set_cons_zero, List.set_cons_succ]
                refine' takeV 1 (oi := _) (d := _) (v := _) ?ti94 ?td94 (by kernel_rfl) (by kernel_rfl) (by kernel_rfl) (by kernel_rfl) (by decide) (fun _ _ _ _ _ h => h) ?tg94 ?ty94 (by assumption) ?tr94
                case ti94 => (simp only [List.getElem?_toArray, List.getElem?_cons_succ, List.getElem?_cons_zero]; rfl)
                case td94 => exact rfl
                case tg94 => exact rfl
                case ty94 => (intro w hSw; (try dsimp only at hSw); go_split_ands; go_simp; try with_reducible rfl)
                simp only [List.setIfInBounds_toArray, List.set_cons_zero, List.set_cons_succ]
                refine' takeV 2 (oi := _) (d := _) (v := _) ?ti95 ?td95 (by kernel_rfl) (by kernel_rfl) (by kernel_rfl) (by kernel_rfl) (by decide) (fun _ _ _ _ _ h => h) ?tg95 ?ty95 (by assumption) ?tr95
                case ti95 => (simp only [List.getElem?_toArray, List.getElem?_cons_succ, List.getElem?_cons_zero]; rfl)
                case td95 => exact rfl
                case tg95 => exact rfl
                case ty95 => (intro w hSw; (try dsimp only at hSw); go_split_ands; go_simp; try with_reducible rfl)
                simp only [List.setIfInBounds_toArray, List.set_cons_zero, List.set_cons_succ]
                refine' takeV 3 (oi := _) (d := _) (v := _) ?ti96 ?td96 (by kernel_rfl) (by kernel_rfl) (by kernel_rfl) (by kernel_rfl) (by decide) (fun _ _ _ _ _ h => h) ?tg96 ?ty96 (by assumption) ?tr96
                case ti96 => (simp only [List.getElem?_toArray, List.getElem?_cons_succ, List.getElem?_cons_zero]; rfl)
                case td96 => exact rfl
                case tg96 => exact rfl
                case ty96 => (intro w hSw; (try dsimp only at hSw); go_split_ands; go_simp; try with_reducible rfl)
                simp only [List.setIfInBounds_toArray, List.set_cons_zero, List.set_cons_succ]
                refine' takeV 4 (oi := _) (d := _) (v := _) ?ti97 ?td97 (by kernel_rfl) (by kernel_rfl) (by kernel_rfl) (by kernel_rfl) (by decide) (fun _ _ _ _ _ h => h) ?tg97 ?ty97 (by assumption) ?tr97
                case ti97 => (simp only [List.getElem?_toArray, List.getElem?_cons_succ, List.getElem?_cons_zero]; rfl)
                case td97 => exact rfl
                case tg97 => exact rfl
                case ty97 => (intro w hSw; (try dsimp only at hSw); go_split_ands; go_simp; try with_reducible rfl)
                simp only [List.setIfInBounds_toArray, List.set_cons_zero, List.set_cons_succ]
                refine' takeV 5 (oi := _) (d := _) (v := _) ?ti98 ?td98 (by kernel_rfl) (by kernel_rfl) (by kernel_rfl) (by kernel_rfl) (by decide) (fun _ _ _ _ _ h => h) ?tg98 ?ty98 (by assumption) ?tr98
                case ti98 => (simp only [List.getElem?_toArray, List.getElem?_cons_succ, List.getElem?_cons_zero]; rfl)
                case td98 => exact rfl
                case tg98 => exact rfl
                case ty98 => (intro w hSw; (try dsimp only at hSw); go_split_ands; go_simp; try with_reducible rfl)
                simp only [List.setIfInBounds_toArray, List.set_cons_zero, List.set_cons_succ]
                refine' takeV 6 (oi := _) (d := _) (v := _) ?ti99 ?td99 (by kernel_rfl) (by kernel_rfl) (by kernel_rfl) (by kernel_rfl) (by decide) (fun _ _ _ _ _ h => h) ?tg99 ?ty99 (by assumption) ?tr99
                case ti99 => (simp only [List.getElem?_toArray, List.getElem?_cons_succ, List.getElem?_cons_zero]; rfl)
                case td99 => exact rfl
                case tg99 => exact rfl
                case ty99 => (intro w hSw; (try dsimp only at hSw); go_split_ands; go_simp; try with_reducible rfl)
                simp only [List.setIfInBounds_toArray, List.set_cons_zero, List.set_cons_succ]
                refine' takeV 7 (oi := _) (d := _) (v := _) ?ti100 ?td100 (by kernel_rfl) (by kernel_rfl) (by kernel_rfl) (by kernel_rfl) (by decide) (fun _ _ _ _ _ h => h) ?tg100 ?ty100 (by assumption) ?tr100
                case ti100 => (simp only [List.getElem?_toArray, List.getElem?_cons_succ, List.getElem?_cons_zero]; rfl)
                case td100 => exact rfl
                case tg100 => exact rfl
                case ty100 => (intro w hSw; (try dsimp only at hSw); go_split_ands; go_simp; try with_reducible rfl)
                simp only [List.setIfInBounds_toArray, List.set_cons_zero, List.set_cons_succ]
                refine' takeV 8 (oi := _) (d := _) (v := _) ?ti101 ?td101 (by kernel_rfl) (by kernel_rfl) (by kernel_rfl) (by kernel_rfl) (by decide) (fun _ _ _ _ _ h => h) ?tg101 ?ty101 (by assumption) ?tr101
                case ti101 => (simp only [List.getElem?_toArray, List.getElem?_cons_succ, List.getElem?_cons_zero]; rfl)
                case td101 => exact rfl
                case tg101 => exact rfl
                case ty101 => (intro w hSw; (try dsimp only at hSw); go_split_ands; go_simp; try with_reducible rfl)
                simp only [List.setIfInBounds_toArray, List.set_cons_zero, List.set_cons_succ]
                refine' takeV 9 (oi := _) (d := _) (v := _) ?ti102 ?td102 (by kernel_rfl) (by kernel_rfl) (by kernel_rfl) (by kernel_rfl) (by decide) (fun _ _ _ _ _ h => h) ?tg102 ?ty102 (by assumption) ?tr102
                case ti102 => (simp only [List.getElem?_toArray, List.getElem?_cons_succ, List.getElem?_cons_zero]; rfl)
                case td102 => exact rfl
                case tg102 => exact rfl
                case ty102 => (intro w hSw; (try dsimp only at hSw); go_split_ands; go_simp; try with_reducible rfl)
                simp only [List.setIfInBounds_toArray, List.set_cons_zero, List.set_cons_succ]
                refine' takeV 10 (oi := _) (d := _) (v := _) ?ti103 ?td103 (by kernel_rfl) (by kernel_rfl) (by kernel_rfl) (by kernel_rfl) (by decide) (fun _ _ _ _ _ h => h) ?tg103 ?ty103 (by assumption) ?tr103
                case ti103 => (simp only [List.getElem?_toArray, List.getElem?_cons_succ, List.getElem?_cons_zero]; rfl)
                case td103 => exact rfl
                case tg103 => exact rfl
                case ty103 => (intro w hSw; (try dsimp only at hSw); go_split_ands; go_simp; try with_reducible rfl)
                simp only [List.setIfInBounds_toArray, List.set_cons_zero, List.set_cons_succ]
                refine' takeV 11 (oi := _) (d := _) (v := _) ?ti104 ?td104 (by kernel_rfl) (by kernel_rfl) (by kernel_rfl) (by kernel_rfl) (by decide) (fun _ _ _ _ _ h => h) ?tg104 ?ty104 (by assumption) ?tr104
                case ti104 => (simp only [List.getElem?_toArray, List.getElem?_cons_succ, List.getElem?_cons_zero]; rfl)
                case td104 => exact rfl
                case tg104 => exact rfl
                case ty104 => (intro w hSw; (try dsimp only at hSw); go_split_ands; go_simp; try with_reducible rfl)
                simp only [List.setIfInBounds_toArray, List.set_cons_zero, List.set_cons_succ]
                refine' takeVg 12 (oi := _) (d := _) (v := _) ?ti105 ?td105 (by kernel_rfl) (by kernel_rfl) (by kernel_rfl) (by kernel_rfl) (by decide) (fun _ _ _ _ _ h => h) ?tg105 ?ty105 (by assumption) ?tr105
                case ti105 => (simp only [List.getElem?_toArray, List.getElem?_cons_succ, List.getElem?_cons_zero]; rfl)
                case td105 => exact rfl
                case tg105 => exact rfl
                case ty105 => (intro w hSw; (try dsimp only at hSw); go_split_ands; go_simp; try with_reducible rfl)
                simp only [List.setIfInBounds_toArray, List.set_cons_zero, List.set_cons_succ]
                refine' takeVg 13 (oi := _) (d := _) (v := _) ?ti106 ?td106 (by kernel_rfl) (by kernel_rfl) (by kernel_rfl) (by kernel_rfl) (by decide) (fun _ _ _ _ _ h => h) ?tg106 ?ty106 (by assumption) ?tr106
                case ti106 => (simp only [List.getElem?_toArray, List.getElem?_cons_succ, List.getElem?_cons_zero]; rfl)
                case td106 => exact rfl
                case tg106 => exact rfl
                case ty106 => (intro w hSw; (try dsimp only at hSw); go_split_ands; go_simp; try with_reducible rfl)
                simp only [List.setIfInBounds_toArray, List.set_cons_zero, List.set_cons_succ]
                refine' takeVg 14 (oi := _) (d := _) (v := _) ?ti107 ?td107 (by kernel_rfl) (by kernel_rfl) (by kernel_rfl) (by kernel_rfl) (by decide) (fun _ _ _ _ _ h => h) ?tg107 ?ty107 (by assumption) ?tr107
                case ti107 => (simp only [List.getElem?_toArray, List.getElem?_cons_succ, List.getElem?_cons_zero]; rfl)
                case td107 => exact rfl
                case tg107 => exact rfl
                case ty107 => (intro w hSw; (try dsimp only at hSw); go_split_ands; go_simp; try with_reducible rfl)
                simp only [List.setIfInBounds_toArray, List.set_cons_zero, List.set_cons_succ]
                refine' takeVg 15 (oi := _) (d := _) (v := _) ?ti108 ?td108 (by kernel_rfl) (by kernel_rfl) (by kernel_rfl) (by kernel_rfl) (by decide) (fun _ _ _ _ _ h => h) ?tg108 ?ty108 (by assumption) ?tr108
                case ti108 => (simp only [List.getElem?_toArray, List.getElem?_cons_succ, List.getElem?_cons_zero]; rfl)
                case td108 => exact rfl
                case tg108 => exact rfl
                case ty108 => (intro w hSw; (try dsimp only at hSw); go_split_ands; go_simp; try with_reducible rfl)
                simp only [List.setIfInBounds_toArray, List.set_cons_zero, List.set_cons_succ]
                refine' takeVg 16 (oi := _) (d := _) (v := _) ?ti109 ?td109 (by kernel_rfl) (by kernel_rfl) (by kernel_rfl) (by kernel_rfl) (by decide) (fun _ _ _ _ _ h => h) ?tg109 ?ty109 (by assumption) ?tr109
                case ti109 => (simp only [List.getElem?_toArray, List.getElem?_cons_succ, List.getElem?_cons_zero]; rfl)
                case td109 => exact rfl
                case tg109 => exact rfl
                case ty109 => (intro w hSw; (try dsimp only at hSw); go_split_ands; go_simp; try with_reducible rfl)
                simp only [List.setIfInBounds_toArray, List.set_cons_zero, List.set_cons_succ]
                refine' takeVg 17 (oi := _) (d := _) (v := _) ?ti110 ?td110 (by kernel_rfl) (by kernel_rfl) (by kernel_rfl) (by kernel_rfl) (by decide) (fun _ _ _ _ _ h => h) ?tg110 ?ty110 (by assumption) ?tr110
                case ti110 => (simp only [List.getElem?_toArray, List.getElem?_cons_succ, List.getElem?_cons_zero]; rfl)
                case td110 => exact rfl
                case tg110 => exact rfl
                case ty110 => (intro w hSw; (try dsimp only at hSw); go_split_ands; go_simp; try with_reducible rfl)
                simp only [List.setIfInBounds_toArray, List.set_cons_zero, List.set_cons_succ]
                refine' takeVg 18 (oi := _) (d := _) (v := _) ?ti111 ?td111 (by kernel_rfl) (by kernel_rfl) (by kernel_rfl) (by kernel_rfl) (by decide) (fun _ _ _ _ _ h => h) ?tg111 ?ty111 (by assumption) ?tr111
                case ti111 => (simp only [List.getElem?_toArray, List.getElem?_cons_succ, List.getElem?_cons_zero]; rfl)
                case td111 => exact rfl
                case tg111 => exact rfl
                case ty111 => (intro w hSw; (try dsimp only at hSw); go_split_ands; go_simp; try with_reducible rfl)
                simp only [List.setIfInBounds_toArray, List.set_cons_zero, List.set_cons_succ]
                refine' takeVg 19 (oi := _) (d := _) (v := _) ?ti112 ?td112 (by kernel_rfl) (by kernel_rfl) (by kernel_rfl) (by kernel_rfl) (by decide) (fun _ _ _ _ _ h => h) ?tg112 ?ty112 (by assumption) ?tr112
                case ti112 => (simp only [List.getElem?_toArray, List.getElem?_cons_succ, List.getElem?_cons_zero]; rfl)
                case td112 => exact rfl
                case tg112 => exact rfl
                case ty112 => (intro w hSw; (try dsimp only at hSw); go_split_ands; go_simp; try with_reducible rfl)
                simp only [List.setIfInBounds_toArray, List.set_cons_zero, List.set_cons_succ]
                refine' takeVg 20 (oi := _) (d := _) (v := _) ?ti113 ?td113 (by kernel_rfl) (by kernel_rfl) (by kernel_rfl) (by kernel_rfl) (by decide) (fun _ _ _ _ _ h => h) ?tg113 ?ty113 (by assumption) ?tr113
                case ti113 => (simp only [List.getElem?_toArray, List.getElem?_cons_succ, List.getElem?_cons_zero]; rfl)
                case td113 => exact rfl
                case tg113 => exact rfl
                case ty113 => (intro w hSw; (try dsimp only at hSw); go_split_ands; go_simp; try with_reducible rfl)
                simp only [List.setIfInBounds_toArray, List.set_cons_zero, List.set_cons_succ]
                refine' takeVg 21 (oi := _) (d := _) (v := _) ?ti114 ?td114 (by kernel_rfl) (by kernel_rfl) (by kernel_rfl) (by kernel_rfl) (by decide) (fun _ _ _ _ _ h => h) ?tg114 ?ty114 (by assumption) ?tr114
                case ti114 => (simp only [List.getElem?_toArray, List.getElem?_cons_succ, List.getElem?_cons_zero]; rfl)
                case td114 => exact rfl
                case tg114 => exact rfl
                case ty114 => (intro w hSw; (try dsimp only at hSw); go_split_ands; go_simp; try with_reducible rfl)
                simp only [List.setIfInBounds_toArray, List.set_cons_zero, List.set_cons_succ]
                refine' takeVg 22 (oi := _) (d := _) (v := _) ?ti115 ?td115 (by kernel_rfl) (by kernel_rfl) (by kernel_rfl) (by kernel_rfl) (by decide) (fun _ _ _ _ _ h => h) ?tg115 ?ty115 (by assumption) ?tr115
                case ti115 => (simp only [List.getElem?_toArray, List.getElem?_cons_succ, List.getElem?_cons_zero]; rfl)
                case td115 => exact rfl
                case tg115 => exact rfl
                case ty115 => (intro w hSw; (try dsimp only at hSw); go_split_ands; go_simp; try with_reducible rfl)
                simp only [List.setIfInBounds_toArray, List.set_cons_zero, List.set_cons_succ]
                refine' takeV 23 (oi := _) (d := _) (v := _) ?ti116 ?td116 (by kernel_rfl) (by kernel_rfl) (by kernel_rfl) (by kernel_rfl) (by decide) (fun _ _ _ _ _ h => h) ?tg116 ?ty116 (by assumption) ?tr116
                case ti116 => (simp only [List.getElem?_toArray, List.getElem?_cons_succ, List.getElem?_cons_zero]; rfl)
                case td116 => exact rfl
                case tg116 => exact rfl
                case ty116 => (intro w hSw; (try dsimp only at hSw); go_split_ands; go_simp; try with_reducible rfl)
                simp only [List.setIfInBounds_toArray, List.set_cons_zero, List.set_cons_succ]
                refine doneG (by kernel_rfl) ?_ _
                go_wp2_with fail
                go_roundw
                case rel => exact ⟨i + 1, by omega, by go_num, HBE.out.drew⟩
                case measure => first | (simp [intOf]; done) | (simp [intOf]; omega)
              · obtain rfl : i = 4 := by omega
                have RC := Lib.hid (QC.out.below HBE.out QC.out.lt)
                have R5 := Lib.hid (Q5.out.below HBE.out Q5.out.lt)
                have R7 := Lib.hid (Q7.out.below HBE.out Q7.out.lt)
                have RB := Lib.hid (QB.out.trans (HBE.out.mono (Nat.le_of_lt QC.out.lt)))
                have Hu1 : Hid (cc = cl (unmix (mix c))) := by
                  show cc = _
                  rw [Hcc.out]
                  simp only [cl, unmix_mix c HC.out 0 (by omega), unmix_mix c HC.out 1 (by omega), unmix_mix c HC.out 2 (by omega), unmix_mix c HC.out 3 (by omega)]
                have Hu2 : Hid (cc = cl (mix (unmix c))) := by
                  show cc = _
                  rw [Hcc.out]
                  simp only [cl, mix_unmix c HC.out 0 (by omega), mix_unmix c HC.out 1 (by omega), mix_unmix c HC.out 2 (by omega), mix_unmix c HC.out 3 (by omega)]
                have TR : Hid (∀ wx, Below wr.heap.size wr wx → Blk wx H 33 cc.toArray ∧ Blk wx b5 33 cx.toArray ∧ Blk wx b7 33 cu.toArray ∧ Below H w wx) := fun wx h => ⟨RC.out.below h RC.out.lt, R5.out.below h R5.out.lt, R7.out.below h R7.out.lt, RB.out.trans (h.mono (Nat.le_of_lt RC.out.lt))⟩
                have KS : Hid (∀ wa wb, Below wr.heap.size wr wa → Below wa.heap.size wa wb → Below wr.heap.size wr wb) := fun wa wb h hb => h.trans (hb.mono h.size)
                have eqc := eqcl cc c Hcc
                clear HBE hi hlt
                go_wp2_with fail
                refine region_gate 14 (fun w' => Below wr.heap.size wr w') (by kernel_rfl) ?th117 (fun hHeld => ?tk117)
                case th117 => ((try dsimp only); exact (Below.refl _ _).drew)
                refine' takeV 0 (oi := _) (d := _) (v := _) ?ti118 ?td118 (by kernel_rfl) (by kernel_rfl) (by kernel_rfl) (by kernel_rfl) (by decide) (fun _ _ _ _ _ h => h) ?tg118 ?ty118 (by assumption) ?tr118
                case ti118 => (simp only [List.getElem?_toArray, List.getElem?_cons_succ, List.getElem?_cons_zero]; rfl)
                case td118 => exact rfl
                case tg118 => exact rfl
                case ty118 => (intro w hSw; (try dsimp only at hSw); rw [exec_load_blk 33 (.tmp 5) rfl rfl (TR.out _ hSw).2.1 _ HU.out rfl (by rw [lcx.out]; exact infoA4)])
                simp only [List.setIfInBounds_toArray, List.set_cons_zero, List.set_cons_succ]
                refine' takeV 2 (oi := _) (d := _) (v := _) ?ti119 ?td119 (by kernel_rfl) (by kernel_rfl) (by kernel_rfl) (by kernel_rfl) (by decide) (fun _ _ _ _ _ h => h) ?tg119 ?ty119 (by assumption) ?tr119
                case ti119 => (simp only [List.getElem?_toArray, List.getElem?_cons_succ, List.getElem?_cons_zero]; rfl)
                case td119 => exact rfl
                case tg119 => exact rfl
                case ty119 => (intro w hSw; (try dsimp only at hSw); rw [exec_load_blk 33 (.tmp 2) rfl rfl (TR.out _ hSw).1 _ HU.out rfl (by rw [lcc.out]; exact infoA4)])
                simp only [List.setIfInBounds_toArray, List.set_cons_zero, List.set_cons_succ]
                refine stepG 1 (by kernel_rfl) (by simp only [List.getElem?_toArray, List.getElem?_cons_succ, List.getElem?_cons_zero]; rfl) (fun K hK => ?_)
                go_simp
                refine (unmixl (mix c) cx cc Hcx Hu1 (mix_lt c) _).mono ?_
                rintro e wq1 ⟨rfl, hq1⟩
                refine hK.out _ _ ?ts120 (fun hHeld => ?_)
                case ts120 => ((try dsimp only); exact KS.out _ _ (by assumption) hq1)
                clear hK K
                refine' takeV 3 (oi := _) (d := _) (v := _) ?ti121 ?td121 (by kernel_rfl) (by kernel_rfl) (by kernel_rfl) (by kernel_rfl) (by decide) (fun _ _ _ _ _ h => h) ?tg121 ?ty121 (by assumption) ?tr121
                case ti121 => (simp only [List.getElem?_toArray, List.getElem?_cons_succ, List.getElem?_cons_zero]; rfl)
                case td121 => exact rfl
                case tg121 => exact rfl
                case ty121 => (intro w hSw; (try dsimp only at hSw); go_split_ands; go_simp; try with_reducible rfl)
                simp only [List.setIfInBounds_toArray, List.set_cons_zero, List.set_cons_succ]
                refine' takeV 4 (oi := _) (d := _) (v := _) ?ti122 ?td122 (by kernel_rfl) (by kernel_rfl) (by kernel_rfl) (by kernel_rfl) (by decide) (fun _ _ _ _ _ h => h) ?tg122 ?ty122 (by assumption) ?tr122
                case ti122 => (simp only [List.getElem?_toArray, List.getElem?_cons_succ, List.getElem?_cons_zero]; rfl)
                case td122 => exact rfl
                case tg122 => exact rfl
                case ty122 => (intro w hSw; (try dsimp only at hSw); go_split_ands; go_simp; try with_reducible rfl)
                simp only [List.setIfInBounds_toArray, List.set_cons_zero, List.set_cons_succ]
                refine' takeVg 5 (oi := _) (d := _) (v := _) ?ti123 ?td123 (by kernel_rfl) (by kernel_rfl) (by kernel_rfl) (by kernel_rfl) (by decide) (fun _ _ _ _ _ h => h) ?tg123 ?ty123 (by assumption) ?tr123
                case ti123 => (simp only [List.getElem?_toArray, List.getElem?_cons_succ, List.getElem?_cons_zero]; rfl)
                case td123 => exact rfl
                case tg123 => exact rfl
                case ty123 => (intro w hSw; (try dsimp only at hSw); rw [exec_load_blk 33 (.tmp 7) rfl rfl (TR.out _ hSw).2.2.1 _ HU.out rfl (by rw [lcu.out]; exact infoA4)])
                simp only [List.setIfInBounds_toArray, List.set_cons_zero, List.set_cons_succ]
                refine' takeVg 7 (oi := _) (d := _) (v := _) ?ti124 ?td124 (by kernel_rfl) (by kernel_rfl) (by kernel_rfl) (by kernel_rfl) (by decide) (fun _ _ _ _ _ h => h) ?tg124 ?ty124 (by assumption) ?tr124
                case ti124 => (simp only [List.getElem?_toArray, List.getElem?_cons_succ, List.getElem?_cons_zero]; rfl)
                case td124 => exact rfl
                case tg124 => exact rfl
                case ty124 => (intro w hSw; (try dsimp only at hSw); rw [exec_load_blk 33 (.tmp 2) rfl rfl (TR.out _ hSw).1 _ HU.out rfl (by rw [lcc.out]; exact infoA4)])
                simp only [List.setIfInBounds_toArray, List.set_cons_zero, List.set_cons_succ]
                refine stepG 6 (by kernel_rfl) (by simp only [List.getElem?_toArray, List.getElem?_cons_succ, List.getElem?_cons_zero]; rfl) (fun K hK => ?_)
                go_simp
                refine (mixl (unmix c) cu cc Hcu Hu2 (unmix_lt c) _).mono ?_
                rintro e wq2 ⟨rfl, hq2⟩
                refine hK.out _ _ ?ts125 (fun hHeld => ?_)
                case ts125 => ((try dsimp only); exact KS.out _ _ (by assumption) hq2)
                clear hK K
                refine' takeVg 8 (oi := _) (d := _) (v := _) ?ti126 ?td126 (by kernel_rfl) (by kernel_rfl) (by kernel_rfl) (by kernel_rfl) (by decide) (fun _ _ _ _ _ h => h) ?tg126 ?ty126 (by assumption) ?tr126
                case ti126 => (simp only [List.getElem?_toArray, List.getElem?_cons_succ, List.getElem?_cons_zero]; rfl)
                case td126 => exact rfl
                case tg126 => exact rfl
                case ty126 => (intro w hSw; (try dsimp only at hSw); go_split_ands; go_simp; try with_reducible rfl)
                simp only [List.setIfInBounds_toArray, List.set_cons_zero, List.set_cons_succ]
                refine' takeV 9 (oi := _) (d := _) (v := _) ?ti127 ?td127 (by kernel_rfl) (by kernel_rfl) (by kernel_rfl) (by kernel_rfl) (by decide) (fun _ _ _ _ _ h => h) ?tg127 ?ty127 (by assumption) ?tr127
                case ti127 => (simp only [List.getElem?_toArray, List.getElem?_cons_succ, List.getElem?_cons_zero]; rfl)
                case td127 => exact rfl
                case tg127 => exact rfl
                case ty127 => (intro w hSw; (try dsimp only at hSw); go_split_ands; go_simp; try with_reducible rfl)
                simp only [List.setIfInBounds_toArray, List.set_cons_zero, List.set_cons_succ]
                refine' takeV 10 (oi := _) (d := _) (v := _) ?ti128 ?td128 (by kernel_rfl) (by kernel_rfl) (by kernel_rfl) (by kernel_rfl) (by decide) (fun _ _ _ _ _ h => h) ?tg128 ?ty128 (by assumption) ?tr128
                case ti128 => (simp only [List.getElem?_toArray, List.getElem?_cons_succ, List.getElem?_cons_zero]; rfl)
                case td128 => exact rfl
                case tg128 => exact rfl
                case ty128 => (intro w hSw; (try dsimp only at hSw); go_split_ands; go_simp; try with_reducible rfl)
                simp only [List.setIfInBounds_toArray, List.set_cons_zero, List.set_cons_succ]
                refine stepG 11 (by kernel_rfl) (by simp only [List.getElem?_toArray, List.getElem?_cons_succ, List.getElem?_cons_zero]; rfl) (fun K hK => ?_)
                go_simp
                refine (known_b _).mono ?_
                rintro e wq3 ⟨rfl, hq3⟩
                refine hK.out _ _ ?ts129 (fun hHeld => ?_)
                case ts129 => ((try dsimp only); exact KS.out _ _ (by assumption) hq3)
                clear hK K
                refine stepG 12 (by kernel_rfl) (by simp only [List.getElem?_toArray, List.getElem?_cons_succ, List.getElem?_cons_zero]; rfl) (fun K hK => ?_)
                go_simp
                refine hK.out _ _ ?ts130 (fun hHeld => ?_)
                case ts130 => ((try dsimp only); assumption)
                clear hK K
                refine stepG 13 (by kernel_rfl) (by simp only [List.getElem?_toArray, List.getElem?_cons_succ, List.getElem?_cons_zero]; rfl) (fun K hK => ?_)
                go_simp
                refine hK.out _ _ ?ts131 (fun hHeld => ?_)
                case ts131 => ((try dsimp only); assumption)
                clear hK K
                refine doneG (by kernel_rfl) ?_ _
                have hfin := (TR.out _ hHeld).2.2.2
                go_wp2
                go_ret
                exact ⟨rfl, by rw [HH.out]; exact hfin⟩
theorem galoisColumns_walk (l l' : List UInt8) (w : World) (hl : l.length = 4) (hl' : l'.length = 4) :
    Calls Try.prog 12 #[.agg (l.map B8).toArray, .agg (l'.map B8).toArray] w fun e w' => e = .returned (.bool true) ∧ Below w.heap.size w w' := by
  rw [col_list l hl, col_list l' hl']
  exact galoisColumns_walk0 _ _ (colOf_lt l) (colOf_lt l') w
end Go.Proofs.Ytfmgpnaahkpmiaa
