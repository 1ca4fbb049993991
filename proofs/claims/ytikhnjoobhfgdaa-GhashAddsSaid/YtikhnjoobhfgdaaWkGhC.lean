/- The walk of GhashLengths. -/
import Derived.Test.YtikhnjoobhfgdaaWkGhB
import Derived.Test.YtikhnjoobhfgdaaRegS
import Derived.Test.YtikhnjoobhfgdaaApp0
import Derived.Deep.DeepCutAuto
set_option linter.unusedVariables false
namespace Go.Proofs.Ytikhnjoobhfgdaa
open Go.RowKit

theorem lens_law (h : Nat) (l : List UInt8) : gfin h [] l ^^^ gfin h [] (fullB l) = gmul (8 * l.length ^^^ 8 * (fullB l).length) h := by
  have e1 : ght h 0 (fullB l) = ght h 0 l := by
    have := ght_full h [] l.length 0 l (Nat.le_refl _)
    rwa [List.append_nil, ght_nil] at this
  have e2 : ∀ n, glens ([] : List UInt8).length n = 8 * n := fun n => by simp [glens]
  have e3 : ght h 0 [] = 0 := rfl
  rw [gfin, gfin, e3, e1, ← gmul_xor_left, e2, e2, xor4, Nat.xor_self, Nat.zero_xor]
theorem plus_o (x y : List UInt8) (cx cy cr : List Value) (hcx : Hid (cx = x.map B8)) (hcy : Hid (cy = y.map B8)) (hcr : Hid (cr = (gadd x y).map B8)) (hx : x.length = 16) (hy : y.length = 16) (w : World) :
    Calls Try.prog 13 #[.agg cx.toArray, .agg cy.toArray] w fun e w' => e = .returned (.agg cr.toArray) ∧ Below w.heap.size w w' := by
  rw [hcx.out, hcy.out, hcr.out]
  exact plus_any x y hx hy w
theorem i64_xor_nat (a b : Nat) (ha : a < 4294967296) (hb : b < 4294967296) : bits .xor .i64 (a : Int) (b : Int) = ((a ^^^ b : Nat) : Int) := by
  have hx : a ^^^ b < 2 ^ 32 := Nat.xor_lt_two_pow (by omega) (by omega)
  show IntKind.i64.wrap ((BitVec.ofInt 64 (a : Int) ^^^ BitVec.ofInt 64 (b : Int)).toNat : Int) = _
  rw [BitVec.toNat_xor, ofInt_u64 a (by omega), ofInt_u64 b (by omega), IntKind.wrap_i64]
  omega
theorem be_ext (v : Nat) (h : v < 18446744073709551616) : be v 16 = List.replicate 8 0 ++ be v 8 := by
  rw [be16, show hi v = 0 by unfold hi; omega, show lo v = v by unfold lo; omega]
  congr 1

set_option maxRecDepth 100000 in
set_option maxHeartbeats 6400000 in
theorem ghashLengths_walk (hb : List UInt8) (A1 : Option Addr) (n c1 : Nat) (l : List UInt8) (w : World) (hl : hb.length = 16) (h1 : Rd w A1 n c1 l) (hc1 : c1 ≤ 140737488351232) :
    Calls Try.prog 7 #[.agg (hb.map B8).toArray, .slice A1 n c1] w fun e w' => e = .returned (.bool true) ∧ Below w.heap.size w w' := by
  have hcap1 := h1.cap
  obtain ⟨H, HH⟩ : ∃ H, Hid (w.heap.size = H) := ⟨_, rfl⟩
  obtain ⟨cx, Hcx⟩ : ∃ cs, Hid (cs = hb.map B8) := ⟨_, rfl⟩
  have HX := Lib.hid hl
  have lx : Hid (cx.length = 16) := by show _ = _; rw [Hcx.out]; simpa using hl
  rw [← Hcx.out]
  have KX : Hid (Blk (w.alloc (.cells cx.toArray 22)) H 22 cx.toArray) := Blk.new' _ _ _ _ HH.out
  have HB : Hid (Below H w (w.alloc (.cells cx.toArray 22))) := by rw [← HH.out]; exact below_new _ _
  have R1 : Hid (Rd (w.alloc (.cells cx.toArray 22)) A1 n c1 l) := h1.below (below_new _ _)
  have HL := Lib.hid h1.len
  have R0 := Lib.hid h1
  clear h1 hl
  by_cases hbig : 4000 < n
  · have hd : decide ((n : Int) > 4000) = true := decide_eq_true (by omega)
    go_enter Try.func7, Try.ntmps7
    go_wp2_with (go_at_call 8; refine (known_any _).mono ?_; rintro e w3 ⟨rfl, hb3⟩)
    go_ret
    exact ⟨rfl, by rw [HH.out]; exact HB.out.trans (hb3.mono (by simp [HH.out]))⟩
  · have hd : decide ((n : Int) > 4000) = false := decide_eq_false (by omega)
    obtain ⟨z, HZ⟩ : ∃ z, Hid (z = List.replicate 16 (Value.int .u8 0)) := ⟨_, rfl⟩
    have lz : Hid (z.length = 16) := by show _ = _; rw [HZ.out]; simp
    have hz2 : ∀ W : World, (zeroValue 22).run Try.prog W = .ok (.agg z.toArray) W := fun W => by rw [HZ.out]; kernel_rfl
    have HU : Hid (Try.prog.underlying 22 = some (.array 16 5)) := Try.underlying22
    have hp15 : padN n ≤ 15 := by unfold padN; omega
    obtain ⟨p, Hp⟩ : ∃ p, Hid (padN n = p) := ⟨_, rfl⟩
    rw [Hp.out] at hp15
    have hw1 : IntKind.i64.wrap (16 - (n : Int) % 16) = 16 - (n : Int) % 16 := IntWalk.i64_in _ (by omega)
    have hw2 : Int.tmod (16 - (n : Int) % 16) 16 = (p : Int) := by
      rw [Int.tmod_eq_emod_of_nonneg (by omega)]
      have := Hp.out
      unfold padN at this
      omega
    have hw3 : (16 - (n : Int) % 16) % 16 = (p : Int) := by
      have := Hp.out
      unfold padN at this
      omega
    have HE : Hid (Own ((w.alloc (.cells cx.toArray 22)).alloc (.cells #[] 5)) (w.heap.size + 1) (some ⟨w.heap.size + 1, 0, none⟩) 0 0 []) := by
      have := Own.fresh (w.alloc (.cells cx.toArray 22)) (w.heap.size + 1) [] 0 rfl (by omega) (by simp)
      have h' : Own ((w.alloc (.cells cx.toArray 22)).alloc (.cells #[] 5)) (w.heap.size + 1) (some ⟨w.heap.size + 1, 0, none⟩) 0 0 [] := by simpa using this
      exact h'
    have KX1 : Hid (Blk ((w.alloc (.cells cx.toArray 22)).alloc (.cells #[] 5)) H 22 cx.toArray) := KX.out.alloc _
    have HB1 : Hid (Below H w ((w.alloc (.cells cx.toArray 22)).alloc (.cells #[] 5))) := HB.out.alloc (by simp [HH.out]) _
    have R11 : Hid (Rd ((w.alloc (.cells cx.toArray 22)).alloc (.cells #[] 5)) A1 n c1 l) := R1.out.below (below_new _ _)
    have bn : n ≤ 4000 := by omega
    clear hbig
    go_enter Try.func7, Try.ntmps7
    go_wp2_with (first
      | (at_builtin; refine wpList_app 23 Try.underlying23 rfl (.tmp 21) (.tmp 22) rfl rfl rfl HE.out R11.out (by simp) (by omega) ?_; intro A2 c2 w2 hown2 hg2 hb2; have O2 : Hid (Own w2 (w.heap.size + 1) A2 n c2 l) := (by have h := hown2; rw [Nat.zero_add, List.nil_append] at h; exact h); have KX2 := Lib.hid (KX1.out.below hb2 (by rw [HH.out]; exact Nat.lt_succ_self _)); have HB2 := Lib.hid (HB1.out.trans (hb2.mono (by rw [HH.out]; exact Nat.le_succ _))); have hs2 : w.heap.size + 1 ≤ w2.heap.size := Nat.le_trans (by simp) hb2.size; clear hown2 hg2 hb2)
      | (at_builtin; refine wpList_app0 23 3 Try.underlying23 Try.underlying3 rfl (.tmp 23) (.tmp 24) rfl p rfl rfl O2.out hs2 (by omega) ?_; intro A4 c4 w4 hown4 hg4 hb4; have O4 := Lib.hid hown4; have KX4 := Lib.hid (KX2.out.below hb4 (by rw [HH.out]; exact Nat.lt_succ_self _)); have HB4 := Lib.hid (HB2.out.trans (hb4.mono (by rw [HH.out]; exact Nat.le_succ _))); clear hown4 hg4 hb4))
    rw [HH.out]
    have EF : Hid (l ++ List.replicate p 0 = fullB l) := by show _ = _; rw [fullB, ← HL.out, Hp.out]
    rw [EF.out] at O4
    obtain ⟨L2, HL2⟩ : ∃ L, Hid (fullB l = L) := ⟨_, rfl⟩
    rw [HL2.out] at O4
    obtain ⟨N2, HN2⟩ : ∃ N, Hid (n + p = N) := ⟨_, rfl⟩
    rw [HN2.out] at O4 ⊢
    have bN2 : N2 ≤ 4015 := by have := HN2.out; omega
    have R4 : Hid (Rd w4 A1 n c1 l) := R0.out.below (by rw [HH.out]; exact HB4.out)
    have Q4 := Lib.hid O4.out.rd
    have HLN : Hid (N2 = L2.length) := O4.out.len
    obtain ⟨cr1, Hcr1⟩ : ∃ cs, Hid (cs = (be (gfin (num hb) [] l) 16).map B8) := ⟨_, rfl⟩
    obtain ⟨cr2, Hcr2⟩ : ∃ cs, Hid (cs = (be (gfin (num hb) [] L2) 16).map B8) := ⟨_, rfl⟩
    have lr1 : Hid (cr1.length = 16) := by show _ = _; rw [Hcr1.out]; simp [be_length]
    have lr2 : Hid (cr2.length = 16) := by show _ = _; rw [Hcr2.out]; simp [be_length]
    have one1 : Hid (∀ v ∈ cr1, v.oneCell' = true) := by rw [Hcr1.out]; exact b8_one
    have one2 : Hid (∀ v ∈ cr2, v.oneCell' = true) := by rw [Hcr2.out]; exact b8_one
    obtain ⟨K4, hK4⟩ : ∃ K, w4.heap.size = K := ⟨_, rfl⟩
    have hHK : H < K4 := by rw [← hK4]; exact KX4.out.lt
    have TR : Hid (∀ wx, Below K4 w4 wx → Rd wx A1 n c1 l ∧ Rd wx A4 N2 c4 L2 ∧ Blk wx H 22 cx.toArray ∧ Below H w wx) := fun wx h => by
      have h' : Below w4.heap.size w4 wx := by rw [hK4]; exact h
      exact ⟨R4.out.below h', Q4.out.below h', KX4.out.below h' KX4.out.lt, HB4.out.trans (h.mono (Nat.le_of_lt hHK))⟩
    have KS : Hid (∀ wa wb, Below K4 w4 wa → Below wa.heap.size wa wb → Below K4 w4 wb) := fun wa wb h hb => h.trans (hb.mono (by have := h.size; omega))
    have HS4 : Hid (Below K4 w4 w4.drew) := (Below.refl _ _).drew
    have HK4 := Lib.hid hK4
    clear hK4
    go_upto_region 5 with fail
    go_cut [7, 8] (fun s7 s8 wx => ∃ b7 b8 : Nat, s7 = .pointer (some ⟨b7, 0, none⟩) ∧ s8 = .pointer (some ⟨b8, 0, none⟩) ∧ Blk wx b7 22 cr1.toArray ∧ Blk wx b8 22 cr2.toArray ∧ Below K4 w4 wx)
    case first =>
      refine region_gate 10 (fun w' => Below K4 w4 w') (by kernel_rfl) ?th1 (fun hHeld => ?tk1)
      case th1 => ((try dsimp only); exact HS4.out)
      obtain ⟨V0, hV0⟩ : ∃ V0, V0 = w4.drew := ⟨_, rfl⟩
      rw [← hV0] at hHeld ⊢
      have keepS := KS.out
      refine' takeV 0 (oi := _) (d := _) (v := _) ?ti2 ?td2 (by kernel_rfl) (by kernel_rfl) (by kernel_rfl) (by kernel_rfl) (by decide) (fun _ _ _ _ _ h => h) ?tg2 ?ty2 (by assumption) ?tr2
      case ti2 => (simp only [List.getElem?_toArray, List.getElem?_cons_succ, List.getElem?_cons_zero]; rfl)
      case td2 => exact rfl
      case tg2 => exact rfl
      case ty2 => (intro w hSw; (try dsimp only at hSw); rw [exec_load_blk 22 (.tmp 2) rfl rfl (TR.out _ hSw).2.2.1 _ HU.out rfl (by rw [lx.out]; exact infoA16)])
      simp only [List.setIfInBounds_toArray, List.set_cons_zero, List.set_cons_succ]
      refine' takeV 1 (oi := _) (d := _) (v := _) ?ti3 ?td3 (by kernel_rfl) (by kernel_rfl) (by kernel_rfl) (by kernel_rfl) (by decide) (fun _ _ _ _ _ h => h) ?tg3 ?ty3 (by assumption) ?tr3
      case ti3 => (simp only [List.getElem?_toArray, List.getElem?_cons_succ, List.getElem?_cons_zero]; rfl)
      case td3 => exact rfl
      case tg3 => exact rfl
      case ty3 => (intro w hSw; (try dsimp only at hSw); go_split_ands; go_simp; try with_reducible rfl)
      simp only [List.setIfInBounds_toArray, List.set_cons_zero, List.set_cons_succ]
      refine' takeV 3 (oi := _) (d := _) (v := _) ?ti4 ?td4 (by kernel_rfl) (by kernel_rfl) (by kernel_rfl) (by kernel_rfl) (by decide) (fun _ _ _ _ _ h => h) ?tg4 ?ty4 (by assumption) ?tr4
      case ti4 => (simp only [List.getElem?_toArray, List.getElem?_cons_succ, List.getElem?_cons_zero]; rfl)
      case td4 => exact rfl
      case tg4 => exact rfl
      case ty4 => (intro w hSw; (try dsimp only at hSw); rw [exec_load_blk 22 (.tmp 2) rfl rfl (TR.out _ hSw).2.2.1 _ HU.out rfl (by rw [lx.out]; exact infoA16)])
      simp only [List.setIfInBounds_toArray, List.set_cons_zero, List.set_cons_succ]
      refine' takeV 4 (oi := _) (d := _) (v := _) ?ti5 ?td5 (by kernel_rfl) (by kernel_rfl) (by kernel_rfl) (by kernel_rfl) (by decide) (fun _ _ _ _ _ h => h) ?tg5 ?ty5 (by assumption) ?tr5
      case ti5 => (simp only [List.getElem?_toArray, List.getElem?_cons_succ, List.getElem?_cons_zero]; rfl)
      case td5 => exact rfl
      case tg5 => exact rfl
      case ty5 => (intro w hSw; (try dsimp only at hSw); go_split_ands; go_simp; try with_reducible rfl)
      simp only [List.setIfInBounds_toArray, List.set_cons_zero, List.set_cons_succ]
      clear hV0
      refine stepG3 2 6 7 (by kernel_rfl) ?_ ?_ ?_
      · refine StepOf.mk 2 (by simp only [List.getElem?_toArray, List.getElem?_cons_succ, List.getElem?_cons_zero]; rfl) (fun K hK => ?_)
        go_simp
        refine (sum_o hb cx cr1 [] l Hcx Hcr1 HX.out none 0 0 A1 n c1 _ (Rd.none_ _) (TR.out _ hHeld).1 (by omega) (by omega)).mono ?_
        rintro e ws1 ⟨rfl, hbs1⟩
        have szs1 := hbs1.size
        refine hK.out _ _ ?tu1 (fun hs1 => ?_)
        case tu1 => exact keepS _ _ hHeld hbs1
        clear hK K
        refine stepG3 5 6 7 (by kernel_rfl) ?_ ?_ ?_
        · refine StepOf.mk 5 (by simp only [List.getElem?_toArray, List.getElem?_cons_succ, List.getElem?_cons_zero]; rfl) (fun K hK => ?_)
          go_simp
          refine (sum_o hb cx cr2 [] L2 Hcx Hcr2 HX.out none 0 0 A4 N2 c4 _ (Rd.none_ _) (TR.out _ hs1).2.1 (by omega) (by omega)).mono ?_
          rintro e ws2 ⟨rfl, hbs2⟩
          have szs2 := hbs2.size
          refine hK.out _ _ ?tu2 (fun hs2 => ?_)
          case tu2 => exact keepS _ _ hs1 hbs2
          clear hK K
          refine stepG2 6 7 (by kernel_rfl) ?_ ?_
          · refine StepOf.mk 6 (by simp only [List.getElem?_toArray, List.getElem?_cons_succ, List.getElem?_cons_zero]; rfl) (fun K hK => ?_)
            go_simp
            obtain ⟨ws3, hw3⟩ : ∃ wx : World, wx = ws2.alloc (.cells z.toArray 22) := ⟨_, rfl⟩
            rw [← hw3]
            have hbs3 : Below ws2.heap.size ws2 ws3 := by rw [hw3]; exact below_new _ _
            have nbs3 : Blk ws3 ws2.heap.size 22 z.toArray := by rw [hw3]; exact Blk.new _ _ _
            have szs3 : ws2.heap.size < ws3.heap.size := by rw [hw3]; simp
            clear hw3
            have ges3 : K4 ≤ ws2.heap.size := (by have hq := (hs2).size; have := HK4.out; omega)
            refine hK.out _ _ ?tu3 (fun hs3 => ?_)
            case tu3 => exact keepS _ _ hs2 hbs3
            clear hK K
            refine stepG 7 (by kernel_rfl) (by simp only [List.getElem?_toArray, List.getElem?_cons_succ, List.getElem?_cons_zero]; rfl) (fun K hK => ?_)
            go_simp
            obtain ⟨ws4, hw4⟩ : ∃ wx : World, wx = ws3.alloc (.cells z.toArray 22) := ⟨_, rfl⟩
            rw [← hw4]
            have hbs4 : Below ws3.heap.size ws3 ws4 := by rw [hw4]; exact below_new _ _
            have nbs4 : Blk ws4 ws3.heap.size 22 z.toArray := by rw [hw4]; exact Blk.new _ _ _
            have szs4 : ws3.heap.size < ws4.heap.size := by rw [hw4]; simp
            clear hw4
            have ges4 : K4 ≤ ws3.heap.size := (by have hq := (hs3).size; have := HK4.out; omega)
            refine hK.out _ _ ?tu4 (fun hs4 => ?_)
            case tu4 => exact keepS _ _ hs3 hbs4
            clear hK K
            have nb6_4 := nbs3.below hbs4 nbs3.lt
            refine stepG 8 (by kernel_rfl) (by simp only [List.getElem?_toArray, List.getElem?_cons_succ, List.getElem?_cons_zero]; rfl) (fun K hK => ?_)
            refine step_store_blk rfl 22 (.tmp 7) (.tmp 28) rfl rfl rfl nb6_4 (by rw [lr1.out, lz.out]) (by rw [lr1.out]; exact infoA16) one1.out ?_
            intro wa hka hga
            refine hK.out _ _ ?ts6 (fun hHeld => ?_)
            case ts6 => ((try dsimp only); exact (hs4).grown hga (by have hq := (hs4).size; have := HK4.out; omega) (by intro k hk; simp at hk; omega))
            clear hK K
            have hkb := (nbs4).keep_grown hga (by simp; omega)
            have hSa := hHeld
            refine stepG 9 (by kernel_rfl) (by simp only [List.getElem?_toArray, List.getElem?_cons_succ, List.getElem?_cons_zero]; rfl) (fun K hK => ?_)
            refine step_store_blk rfl 22 (.tmp 8) (.tmp 31) rfl rfl rfl hkb (by rw [lr2.out, lz.out]) (by rw [lr2.out]; exact infoA16) one2.out ?_
            intro wb hkb2 hgb
            refine hK.out _ _ ?ts7 (fun hHeld => ?_)
            case ts7 => ((try dsimp only); exact hSa.grown hgb (by have hq := hSa.size; have := HK4.out; omega) (by intro k hk; simp at hk; omega))
            clear hK K
            have hka2 := hka.keep_grown hgb (by simp; omega)
            refine doneG (by kernel_rfl) ?_ _
            go_wp2_with fail
            go_meet
            exact ⟨_, _, rfl, rfl, hka2, hkb2, hHeld⟩
          · refine StepOf.mk 7 (by simp only [List.getElem?_toArray, List.getElem?_cons_succ, List.getElem?_cons_zero]; rfl) (fun K hK => ?_)
            go_simp
            obtain ⟨ws5, hw5⟩ : ∃ wx : World, wx = ws2.alloc (.cells z.toArray 22) := ⟨_, rfl⟩
            rw [← hw5]
            have hbs5 : Below ws2.heap.size ws2 ws5 := by rw [hw5]; exact below_new _ _
            have nbs5 : Blk ws5 ws2.heap.size 22 z.toArray := by rw [hw5]; exact Blk.new _ _ _
            have szs5 : ws2.heap.size < ws5.heap.size := by rw [hw5]; simp
            clear hw5
            have ges5 : K4 ≤ ws2.heap.size := (by have hq := (hs2).size; have := HK4.out; omega)
            refine hK.out _ _ ?tu5 (fun hs5 => ?_)
            case tu5 => exact keepS _ _ hs2 hbs5
            clear hK K
            refine stepG 6 (by kernel_rfl) (by simp only [List.getElem?_toArray, List.getElem?_cons_succ, List.getElem?_cons_zero]; rfl) (fun K hK => ?_)
            go_simp
            obtain ⟨ws6, hw6⟩ : ∃ wx : World, wx = ws5.alloc (.cells z.toArray 22) := ⟨_, rfl⟩
            rw [← hw6]
            have hbs6 : Below ws5.heap.size ws5 ws6 := by rw [hw6]; exact below_new _ _
            have nbs6 : Blk ws6 ws5.heap.size 22 z.toArray := by rw [hw6]; exact Blk.new _ _ _
            have szs6 : ws5.heap.size < ws6.heap.size := by rw [hw6]; simp
            clear hw6
            have ges6 : K4 ≤ ws5.heap.size := (by have hq := (hs5).size; have := HK4.out; omega)
            refine hK.out _ _ ?tu6 (fun hs6 => ?_)
            case tu6 => exact keepS _ _ hs5 hbs6
            clear hK K
            have nb7_6 := nbs5.below hbs6 nbs5.lt
            refine stepG 8 (by kernel_rfl) (by simp only [List.getElem?_toArray, List.getElem?_cons_succ, List.getElem?_cons_zero]; rfl) (fun K hK => ?_)
            refine step_store_blk rfl 22 (.tmp 7) (.tmp 28) rfl rfl rfl nbs6 (by rw [lr1.out, lz.out]) (by rw [lr1.out]; exact infoA16) one1.out ?_
            intro wa hka hga
            refine hK.out _ _ ?ts8 (fun hHeld => ?_)
            case ts8 => ((try dsimp only); exact (hs6).grown hga (by have hq := (hs6).size; have := HK4.out; omega) (by intro k hk; simp at hk; omega))
            clear hK K
            have hkb := (nb7_6).keep_grown hga (by simp; omega)
            have hSa := hHeld
            refine stepG 9 (by kernel_rfl) (by simp only [List.getElem?_toArray, List.getElem?_cons_succ, List.getElem?_cons_zero]; rfl) (fun K hK => ?_)
            refine step_store_blk rfl 22 (.tmp 8) (.tmp 31) rfl rfl rfl hkb (by rw [lr2.out, lz.out]) (by rw [lr2.out]; exact infoA16) one2.out ?_
            intro wb hkb2 hgb
            refine hK.out _ _ ?ts9 (fun hHeld => ?_)
            case ts9 => ((try dsimp only); exact hSa.grown hgb (by have hq := hSa.size; have := HK4.out; omega) (by intro k hk; simp at hk; omega))
            clear hK K
            have hka2 := hka.keep_grown hgb (by simp; omega)
            refine doneG (by kernel_rfl) ?_ _
            go_wp2_with fail
            go_meet
            exact ⟨_, _, rfl, rfl, hka2, hkb2, hHeld⟩
        · refine StepOf.mk 6 (by simp only [List.getElem?_toArray, List.getElem?_cons_succ, List.getElem?_cons_zero]; rfl) (fun K hK => ?_)
          go_simp
          obtain ⟨ws7, hw7⟩ : ∃ wx : World, wx = ws1.alloc (.cells z.toArray 22) := ⟨_, rfl⟩
          rw [← hw7]
          have hbs7 : Below ws1.heap.size ws1 ws7 := by rw [hw7]; exact below_new _ _
          have nbs7 : Blk ws7 ws1.heap.size 22 z.toArray := by rw [hw7]; exact Blk.new _ _ _
          have szs7 : ws1.heap.size < ws7.heap.size := by rw [hw7]; simp
          clear hw7
          have ges7 : K4 ≤ ws1.heap.size := (by have hq := (hs1).size; have := HK4.out; omega)
          refine hK.out _ _ ?tu7 (fun hs7 => ?_)
          case tu7 => exact keepS _ _ hs1 hbs7
          clear hK K
          refine stepG2 5 7 (by kernel_rfl) ?_ ?_
          · refine StepOf.mk 5 (by simp only [List.getElem?_toArray, List.getElem?_cons_succ, List.getElem?_cons_zero]; rfl) (fun K hK => ?_)
            go_simp
            refine (sum_o hb cx cr2 [] L2 Hcx Hcr2 HX.out none 0 0 A4 N2 c4 _ (Rd.none_ _) (TR.out _ hs7).2.1 (by omega) (by omega)).mono ?_
            rintro e ws8 ⟨rfl, hbs8⟩
            have szs8 := hbs8.size
            refine hK.out _ _ ?tu8 (fun hs8 => ?_)
            case tu8 => exact keepS _ _ hs7 hbs8
            clear hK K
            have nb6_8 := nbs7.below hbs8 nbs7.lt
            refine stepG 7 (by kernel_rfl) (by simp only [List.getElem?_toArray, List.getElem?_cons_succ, List.getElem?_cons_zero]; rfl) (fun K hK => ?_)
            go_simp
            obtain ⟨ws9, hw9⟩ : ∃ wx : World, wx = ws8.alloc (.cells z.toArray 22) := ⟨_, rfl⟩
            rw [← hw9]
            have hbs9 : Below ws8.heap.size ws8 ws9 := by rw [hw9]; exact below_new _ _
            have nbs9 : Blk ws9 ws8.heap.size 22 z.toArray := by rw [hw9]; exact Blk.new _ _ _
            have szs9 : ws8.heap.size < ws9.heap.size := by rw [hw9]; simp
            clear hw9
            have ges9 : K4 ≤ ws8.heap.size := (by have hq := (hs8).size; have := HK4.out; omega)
            refine hK.out _ _ ?tu9 (fun hs9 => ?_)
            case tu9 => exact keepS _ _ hs8 hbs9
            clear hK K
            have nb6_9 := nb6_8.below hbs9 nb6_8.lt
            refine stepG 8 (by kernel_rfl) (by simp only [List.getElem?_toArray, List.getElem?_cons_succ, List.getElem?_cons_zero]; rfl) (fun K hK => ?_)
            refine step_store_blk rfl 22 (.tmp 7) (.tmp 28) rfl rfl rfl nb6_9 (by rw [lr1.out, lz.out]) (by rw [lr1.out]; exact infoA16) one1.out ?_
            intro wa hka hga
            refine hK.out _ _ ?ts10 (fun hHeld => ?_)
            case ts10 => ((try dsimp only); exact (hs9).grown hga (by have hq := (hs9).size; have := HK4.out; omega) (by intro k hk; simp at hk; omega))
            clear hK K
            have hkb := (nbs9).keep_grown hga (by simp; omega)
            have hSa := hHeld
            refine stepG 9 (by kernel_rfl) (by simp only [List.getElem?_toArray, List.getElem?_cons_succ, List.getElem?_cons_zero]; rfl) (fun K hK => ?_)
            refine step_store_blk rfl 22 (.tmp 8) (.tmp 31) rfl rfl rfl hkb (by rw [lr2.out, lz.out]) (by rw [lr2.out]; exact infoA16) one2.out ?_
            intro wb hkb2 hgb
            refine hK.out _ _ ?ts11 (fun hHeld => ?_)
            case ts11 => ((try dsimp only); exact hSa.grown hgb (by have hq := hSa.size; have := HK4.out; omega) (by intro k hk; simp at hk; omega))
            clear hK K
            have hka2 := hka.keep_grown hgb (by simp; omega)
            refine doneG (by kernel_rfl) ?_ _
            go_wp2_with fail
            go_meet
            exact ⟨_, _, rfl, rfl, hka2, hkb2, hHeld⟩
          · refine StepOf.mk 7 (by simp only [List.getElem?_toArray, List.getElem?_cons_succ, List.getElem?_cons_zero]; rfl) (fun K hK => ?_)
            go_simp
            obtain ⟨ws10, hw10⟩ : ∃ wx : World, wx = ws7.alloc (.cells z.toArray 22) := ⟨_, rfl⟩
            rw [← hw10]
            have hbs10 : Below ws7.heap.size ws7 ws10 := by rw [hw10]; exact below_new _ _
            have nbs10 : Blk ws10 ws7.heap.size 22 z.toArray := by rw [hw10]; exact Blk.new _ _ _
            have szs10 : ws7.heap.size < ws10.heap.size := by rw [hw10]; simp
            clear hw10
            have ges10 : K4 ≤ ws7.heap.size := (by have hq := (hs7).size; have := HK4.out; omega)
            refine hK.out _ _ ?tu10 (fun hs10 => ?_)
            case tu10 => exact keepS _ _ hs7 hbs10
            clear hK K
            have nb6_10 := nbs7.below hbs10 nbs7.lt
            refine stepG 5 (by kernel_rfl) (by simp only [List.getElem?_toArray, List.getElem?_cons_succ, List.getElem?_cons_zero]; rfl) (fun K hK => ?_)
            go_simp
            refine (sum_o hb cx cr2 [] L2 Hcx Hcr2 HX.out none 0 0 A4 N2 c4 _ (Rd.none_ _) (TR.out _ hs10).2.1 (by omega) (by omega)).mono ?_
            rintro e ws11 ⟨rfl, hbs11⟩
            have szs11 := hbs11.size
            refine hK.out _ _ ?tu11 (fun hs11 => ?_)
            case tu11 => exact keepS _ _ hs10 hbs11
            clear hK K
            have nb6_11 := nb6_10.below hbs11 nb6_10.lt
            have nb7_11 := nbs10.below hbs11 nbs10.lt
            refine stepG 8 (by kernel_rfl) (by simp only [List.getElem?_toArray, List.getElem?_cons_succ, List.getElem?_cons_zero]; rfl) (fun K hK => ?_)
            refine step_store_blk rfl 22 (.tmp 7) (.tmp 28) rfl rfl rfl nb6_11 (by rw [lr1.out, lz.out]) (by rw [lr1.out]; exact infoA16) one1.out ?_
            intro wa hka hga
            refine hK.out _ _ ?ts12 (fun hHeld => ?_)
            case ts12 => ((try dsimp only); exact (hs11).grown hga (by have hq := (hs11).size; have := HK4.out; omega) (by intro k hk; simp at hk; omega))
            clear hK K
            have hkb := (nb7_11).keep_grown hga (by simp; omega)
            have hSa := hHeld
            refine stepG 9 (by kernel_rfl) (by simp only [List.getElem?_toArray, List.getElem?_cons_succ, List.getElem?_cons_zero]; rfl) (fun K hK => ?_)
            refine step_store_blk rfl 22 (.tmp 8) (.tmp 31) rfl rfl rfl hkb (by rw [lr2.out, lz.out]) (by rw [lr2.out]; exact infoA16) one2.out ?_
            intro wb hkb2 hgb
            refine hK.out _ _ ?ts13 (fun hHeld => ?_)
            case ts13 => ((try dsimp only); exact hSa.grown hgb (by have hq := hSa.size; have := HK4.out; omega) (by intro k hk; simp at hk; omega))
            clear hK K
            have hka2 := hka.keep_grown hgb (by simp; omega)
            refine doneG (by kernel_rfl) ?_ _
            go_wp2_with fail
            go_meet
            exact ⟨_, _, rfl, rfl, hka2, hkb2, hHeld⟩
        · refine StepOf.mk 7 (by simp only [List.getElem?_toArray, List.getElem?_cons_succ, List.getElem?_cons_zero]; rfl) (fun K hK => ?_)
          go_simp
          obtain ⟨ws12, hw12⟩ : ∃ wx : World, wx = ws1.alloc (.cells z.toArray 22) := ⟨_, rfl⟩
          rw [← hw12]
          have hbs12 : Below ws1.heap.size ws1 ws12 := by rw [hw12]; exact below_new _ _
          have nbs12 : Blk ws12 ws1.heap.size 22 z.toArray := by rw [hw12]; exact Blk.new _ _ _
          have szs12 : ws1.heap.size < ws12.heap.size := by rw [hw12]; simp
          clear hw12
          have ges12 : K4 ≤ ws1.heap.size := (by have hq := (hs1).size; have := HK4.out; omega)
          refine hK.out _ _ ?tu12 (fun hs12 => ?_)
          case tu12 => exact keepS _ _ hs1 hbs12
          clear hK K
          refine stepG2 5 6 (by kernel_rfl) ?_ ?_
          · refine StepOf.mk 5 (by simp only [List.getElem?_toArray, List.getElem?_cons_succ, List.getElem?_cons_zero]; rfl) (fun K hK => ?_)
            go_simp
            refine (sum_o hb cx cr2 [] L2 Hcx Hcr2 HX.out none 0 0 A4 N2 c4 _ (Rd.none_ _) (TR.out _ hs12).2.1 (by omega) (by omega)).mono ?_
            rintro e ws13 ⟨rfl, hbs13⟩
            have szs13 := hbs13.size
            refine hK.out _ _ ?tu13 (fun hs13 => ?_)
            case tu13 => exact keepS _ _ hs12 hbs13
            clear hK K
            have nb7_13 := nbs12.below hbs13 nbs12.lt
            refine stepG 6 (by kernel_rfl) (by simp only [List.getElem?_toArray, List.getElem?_cons_succ, List.getElem?_cons_zero]; rfl) (fun K hK => ?_)
            go_simp
            obtain ⟨ws14, hw14⟩ : ∃ wx : World, wx = ws13.alloc (.cells z.toArray 22) := ⟨_, rfl⟩
            rw [← hw14]
            have hbs14 : Below ws13.heap.size ws13 ws14 := by rw [hw14]; exact below_new _ _
            have nbs14 : Blk ws14 ws13.heap.size 22 z.toArray := by rw [hw14]; exact Blk.new _ _ _
            have szs14 : ws13.heap.size < ws14.heap.size := by rw [hw14]; simp
            clear hw14
            have ges14 : K4 ≤ ws13.heap.size := (by have hq := (hs13).size; have := HK4.out; omega)
            refine hK.out _ _ ?tu14 (fun hs14 => ?_)
            case tu14 => exact keepS _ _ hs13 hbs14
            clear hK K
            have nb7_14 := nb7_13.below hbs14 nb7_13.lt
            refine stepG 8 (by kernel_rfl) (by simp only [List.getElem?_toArray, List.getElem?_cons_succ, List.getElem?_cons_zero]; rfl) (fun K hK => ?_)
            refine step_store_blk rfl 22 (.tmp 7) (.tmp 28) rfl rfl rfl nbs14 (by rw [lr1.out, lz.out]) (by rw [lr1.out]; exact infoA16) one1.out ?_
            intro wa hka hga
            refine hK.out _ _ ?ts14 (fun hHeld => ?_)
            case ts14 => ((try dsimp only); exact (hs14).grown hga (by have hq := (hs14).size; have := HK4.out; omega) (by intro k hk; simp at hk; omega))
            clear hK K
            have hkb := (nb7_14).keep_grown hga (by simp; omega)
            have hSa := hHeld
            refine stepG 9 (by kernel_rfl) (by simp only [List.getElem?_toArray, List.getElem?_cons_succ, List.getElem?_cons_zero]; rfl) (fun K hK => ?_)
            refine step_store_blk rfl 22 (.tmp 8) (.tmp 31) rfl rfl rfl hkb (by rw [lr2.out, lz.out]) (by rw [lr2.out]; exact infoA16) one2.out ?_
            intro wb hkb2 hgb
            refine hK.out _ _ ?ts15 (fun hHeld => ?_)
            case ts15 => ((try dsimp only); exact hSa.grown hgb (by have hq := hSa.size; have := HK4.out; omega) (by intro k hk; simp at hk; omega))
            clear hK K
            have hka2 := hka.keep_grown hgb (by simp; omega)
            refine doneG (by kernel_rfl) ?_ _
            go_wp2_with fail
            go_meet
            exact ⟨_, _, rfl, rfl, hka2, hkb2, hHeld⟩
          · refine StepOf.mk 6 (by simp only [List.getElem?_toArray, List.getElem?_cons_succ, List.getElem?_cons_zero]; rfl) (fun K hK => ?_)
            go_simp
            obtain ⟨ws15, hw15⟩ : ∃ wx : World, wx = ws12.alloc (.cells z.toArray 22) := ⟨_, rfl⟩
            rw [← hw15]
            have hbs15 : Below ws12.heap.size ws12 ws15 := by rw [hw15]; exact below_new _ _
            have nbs15 : Blk ws15 ws12.heap.size 22 z.toArray := by rw [hw15]; exact Blk.new _ _ _
            have szs15 : ws12.heap.size < ws15.heap.size := by rw [hw15]; simp
            clear hw15
            have ges15 : K4 ≤ ws12.heap.size := (by have hq := (hs12).size; have := HK4.out; omega)
            refine hK.out _ _ ?tu15 (fun hs15 => ?_)
            case tu15 => exact keepS _ _ hs12 hbs15
            clear hK K
            have nb7_15 := nbs12.below hbs15 nbs12.lt
            refine stepG 5 (by kernel_rfl) (by simp only [List.getElem?_toArray, List.getElem?_cons_succ, List.getElem?_cons_zero]; rfl) (fun K hK => ?_)
            go_simp
            refine (sum_o hb cx cr2 [] L2 Hcx Hcr2 HX.out none 0 0 A4 N2 c4 _ (Rd.none_ _) (TR.out _ hs15).2.1 (by omega) (by omega)).mono ?_
            rintro e ws16 ⟨rfl, hbs16⟩
            have szs16 := hbs16.size
            refine hK.out _ _ ?tu16 (fun hs16 => ?_)
            case tu16 => exact keepS _ _ hs15 hbs16
            clear hK K
            have nb7_16 := nb7_15.below hbs16 nb7_15.lt
            have nb6_16 := nbs15.below hbs16 nbs15.lt
            refine stepG 8 (by kernel_rfl) (by simp only [List.getElem?_toArray, List.getElem?_cons_succ, List.getElem?_cons_zero]; rfl) (fun K hK => ?_)
            refine step_store_blk rfl 22 (.tmp 7) (.tmp 28) rfl rfl rfl nb6_16 (by rw [lr1.out, lz.out]) (by rw [lr1.out]; exact infoA16) one1.out ?_
            intro wa hka hga
            refine hK.out _ _ ?ts16 (fun hHeld => ?_)
            case ts16 => ((try dsimp only); exact (hs16).grown hga (by have hq := (hs16).size; have := HK4.out; omega) (by intro k hk; simp at hk; omega))
            clear hK K
            have hkb := (nb7_16).keep_grown hga (by simp; omega)
            have hSa := hHeld
            refine stepG 9 (by kernel_rfl) (by simp only [List.getElem?_toArray, List.getElem?_cons_succ, List.getElem?_cons_zero]; rfl) (fun K hK => ?_)
            refine step_store_blk rfl 22 (.tmp 8) (.tmp 31) rfl rfl rfl hkb (by rw [lr2.out, lz.out]) (by rw [lr2.out]; exact infoA16) one2.out ?_
            intro wb hkb2 hgb
            refine hK.out _ _ ?ts17 (fun hHeld => ?_)
            case ts17 => ((try dsimp only); exact hSa.grown hgb (by have hq := hSa.size; have := HK4.out; omega) (by intro k hk; simp at hk; omega))
            clear hK K
            have hka2 := hka.keep_grown hgb (by simp; omega)
            refine doneG (by kernel_rfl) ?_ _
            go_wp2_with fail
            go_meet
            exact ⟨_, _, rfl, rfl, hka2, hkb2, hHeld⟩
      · refine StepOf.mk 6 (by simp only [List.getElem?_toArray, List.getElem?_cons_succ, List.getElem?_cons_zero]; rfl) (fun K hK => ?_)
        go_simp
        obtain ⟨ws17, hw17⟩ : ∃ wx : World, wx = V0.alloc (.cells z.toArray 22) := ⟨_, rfl⟩
        rw [← hw17]
        have hbs17 : Below V0.heap.size V0 ws17 := by rw [hw17]; exact below_new _ _
        have nbs17 : Blk ws17 V0.heap.size 22 z.toArray := by rw [hw17]; exact Blk.new _ _ _
        have szs17 : V0.heap.size < ws17.heap.size := by rw [hw17]; simp
        clear hw17
        have ges17 : K4 ≤ V0.heap.size := (by have hq := (hHeld).size; have := HK4.out; omega)
        refine hK.out _ _ ?tu17 (fun hs17 => ?_)
        case tu17 => exact keepS _ _ hHeld hbs17
        clear hK K
        refine stepG2 2 7 (by kernel_rfl) ?_ ?_
        · refine StepOf.mk 2 (by simp only [List.getElem?_toArray, List.getElem?_cons_succ, List.getElem?_cons_zero]; rfl) (fun K hK => ?_)
          go_simp
          refine (sum_o hb cx cr1 [] l Hcx Hcr1 HX.out none 0 0 A1 n c1 _ (Rd.none_ _) (TR.out _ hs17).1 (by omega) (by omega)).mono ?_
          rintro e ws18 ⟨rfl, hbs18⟩
          have szs18 := hbs18.size
          refine hK.out _ _ ?tu18 (fun hs18 => ?_)
          case tu18 => exact keepS _ _ hs17 hbs18
          clear hK K
          have nb6_18 := nbs17.below hbs18 nbs17.lt
          refine stepG2 5 7 (by kernel_rfl) ?_ ?_
          · refine StepOf.mk 5 (by simp only [List.getElem?_toArray, List.getElem?_cons_succ, List.getElem?_cons_zero]; rfl) (fun K hK => ?_)
            go_simp
            refine (sum_o hb cx cr2 [] L2 Hcx Hcr2 HX.out none 0 0 A4 N2 c4 _ (Rd.none_ _) (TR.out _ hs18).2.1 (by omega) (by omega)).mono ?_
            rintro e ws19 ⟨rfl, hbs19⟩
            have szs19 := hbs19.size
            refine hK.out _ _ ?tu19 (fun hs19 => ?_)
            case tu19 => exact keepS _ _ hs18 hbs19
            clear hK K
            have nb6_19 := nb6_18.below hbs19 nb6_18.lt
            refine stepG 7 (by kernel_rfl) (by simp only [List.getElem?_toArray, List.getElem?_cons_succ, List.getElem?_cons_zero]; rfl) (fun K hK => ?_)
            go_simp
            obtain ⟨ws20, hw20⟩ : ∃ wx : World, wx = ws19.alloc (.cells z.toArray 22) := ⟨_, rfl⟩
            rw [← hw20]
            have hbs20 : Below ws19.heap.size ws19 ws20 := by rw [hw20]; exact below_new _ _
            have nbs20 : Blk ws20 ws19.heap.size 22 z.toArray := by rw [hw20]; exact Blk.new _ _ _
            have szs20 : ws19.heap.size < ws20.heap.size := by rw [hw20]; simp
            clear hw20
            have ges20 : K4 ≤ ws19.heap.size := (by have hq := (hs19).size; have := HK4.out; omega)
            refine hK.out _ _ ?tu20 (fun hs20 => ?_)
            case tu20 => exact keepS _ _ hs19 hbs20
            clear hK K
            have nb6_20 := nb6_19.below hbs20 nb6_19.lt
            refine stepG 8 (by kernel_rfl) (by simp only [List.getElem?_toArray, List.getElem?_cons_succ, List.getElem?_cons_zero]; rfl) (fun K hK => ?_)
            refine step_store_blk rfl 22 (.tmp 7) (.tmp 28) rfl rfl rfl nb6_20 (by rw [lr1.out, lz.out]) (by rw [lr1.out]; exact infoA16) one1.out ?_
            intro wa hka hga
            refine hK.out _ _ ?ts18 (fun hHeld => ?_)
            case ts18 => ((try dsimp only); exact (hs20).grown hga (by have hq := (hs20).size; have := HK4.out; omega) (by intro k hk; simp at hk; omega))
            clear hK K
            have hkb := (nbs20).keep_grown hga (by simp; omega)
            have hSa := hHeld
            refine stepG 9 (by kernel_rfl) (by simp only [List.getElem?_toArray, List.getElem?_cons_succ, List.getElem?_cons_zero]; rfl) (fun K hK => ?_)
            refine step_store_blk rfl 22 (.tmp 8) (.tmp 31) rfl rfl rfl hkb (by rw [lr2.out, lz.out]) (by rw [lr2.out]; exact infoA16) one2.out ?_
            intro wb hkb2 hgb
            refine hK.out _ _ ?ts19 (fun hHeld => ?_)
            case ts19 => ((try dsimp only); exact hSa.grown hgb (by have hq := hSa.size; have := HK4.out; omega) (by intro k hk; simp at hk; omega))
            clear hK K
            have hka2 := hka.keep_grown hgb (by simp; omega)
            refine doneG (by kernel_rfl) ?_ _
            go_wp2_with fail
            go_meet
            exact ⟨_, _, rfl, rfl, hka2, hkb2, hHeld⟩
          · refine StepOf.mk 7 (by simp only [List.getElem?_toArray, List.getElem?_cons_succ, List.getElem?_cons_zero]; rfl) (fun K hK => ?_)
            go_simp
            obtain ⟨ws21, hw21⟩ : ∃ wx : World, wx = ws18.alloc (.cells z.toArray 22) := ⟨_, rfl⟩
            rw [← hw21]
            have hbs21 : Below ws18.heap.size ws18 ws21 := by rw [hw21]; exact below_new _ _
            have nbs21 : Blk ws21 ws18.heap.size 22 z.toArray := by rw [hw21]; exact Blk.new _ _ _
            have szs21 : ws18.heap.size < ws21.heap.size := by rw [hw21]; simp
            clear hw21
            have ges21 : K4 ≤ ws18.heap.size := (by have hq := (hs18).size; have := HK4.out; omega)
            refine hK.out _ _ ?tu21 (fun hs21 => ?_)
            case tu21 => exact keepS _ _ hs18 hbs21
            clear hK K
            have nb6_21 := nb6_18.below hbs21 nb6_18.lt
            refine stepG 5 (by kernel_rfl) (by simp only [List.getElem?_toArray, List.getElem?_cons_succ, List.getElem?_cons_zero]; rfl) (fun K hK => ?_)
            go_simp
            refine (sum_o hb cx cr2 [] L2 Hcx Hcr2 HX.out none 0 0 A4 N2 c4 _ (Rd.none_ _) (TR.out _ hs21).2.1 (by omega) (by omega)).mono ?_
            rintro e ws22 ⟨rfl, hbs22⟩
            have szs22 := hbs22.size
            refine hK.out _ _ ?tu22 (fun hs22 => ?_)
            case tu22 => exact keepS _ _ hs21 hbs22
            clear hK K
            have nb6_22 := nb6_21.below hbs22 nb6_21.lt
            have nb7_22 := nbs21.below hbs22 nbs21.lt
            refine stepG 8 (by kernel_rfl) (by simp only [List.getElem?_toArray, List.getElem?_cons_succ, List.getElem?_cons_zero]; rfl) (fun K hK => ?_)
            refine step_store_blk rfl 22 (.tmp 7) (.tmp 28) rfl rfl rfl nb6_22 (by rw [lr1.out, lz.out]) (by rw [lr1.out]; exact infoA16) one1.out ?_
            intro wa hka hga
            refine hK.out _ _ ?ts20 (fun hHeld => ?_)
            case ts20 => ((try dsimp only); exact (hs22).grown hga (by have hq := (hs22).size; have := HK4.out; omega) (by intro k hk; simp at hk; omega))
            clear hK K
            have hkb := (nb7_22).keep_grown hga (by simp; omega)
            have hSa := hHeld
            refine stepG 9 (by kernel_rfl) (by simp only [List.getElem?_toArray, List.getElem?_cons_succ, List.getElem?_cons_zero]; rfl) (fun K hK => ?_)
            refine step_store_blk rfl 22 (.tmp 8) (.tmp 31) rfl rfl rfl hkb (by rw [lr2.out, lz.out]) (by rw [lr2.out]; exact infoA16) one2.out ?_
            intro wb hkb2 hgb
            refine hK.out _ _ ?ts21 (fun hHeld => ?_)
            case ts21 => ((try dsimp only); exact hSa.grown hgb (by have hq := hSa.size; have := HK4.out; omega) (by intro k hk; simp at hk; omega))
            clear hK K
            have hka2 := hka.keep_grown hgb (by simp; omega)
            refine doneG (by kernel_rfl) ?_ _
            go_wp2_with fail
            go_meet
            exact ⟨_, _, rfl, rfl, hka2, hkb2, hHeld⟩
        · refine StepOf.mk 7 (by simp only [List.getElem?_toArray, List.getElem?_cons_succ, List.getElem?_cons_zero]; rfl) (fun K hK => ?_)
          go_simp
          obtain ⟨ws23, hw23⟩ : ∃ wx : World, wx = ws17.alloc (.cells z.toArray 22) := ⟨_, rfl⟩
          rw [← hw23]
          have hbs23 : Below ws17.heap.size ws17 ws23 := by rw [hw23]; exact below_new _ _
          have nbs23 : Blk ws23 ws17.heap.size 22 z.toArray := by rw [hw23]; exact Blk.new _ _ _
          have szs23 : ws17.heap.size < ws23.heap.size := by rw [hw23]; simp
          clear hw23
          have ges23 : K4 ≤ ws17.heap.size := (by have hq := (hs17).size; have := HK4.out; omega)
          refine hK.out _ _ ?tu23 (fun hs23 => ?_)
          case tu23 => exact keepS _ _ hs17 hbs23
          clear hK K
          have nb6_23 := nbs17.below hbs23 nbs17.lt
          refine stepG 2 (by kernel_rfl) (by simp only [List.getElem?_toArray, List.getElem?_cons_succ, List.getElem?_cons_zero]; rfl) (fun K hK => ?_)
          go_simp
          refine (sum_o hb cx cr1 [] l Hcx Hcr1 HX.out none 0 0 A1 n c1 _ (Rd.none_ _) (TR.out _ hs23).1 (by omega) (by omega)).mono ?_
          rintro e ws24 ⟨rfl, hbs24⟩
          have szs24 := hbs24.size
          refine hK.out _ _ ?tu24 (fun hs24 => ?_)
          case tu24 => exact keepS _ _ hs23 hbs24
          clear hK K
          have nb6_24 := nb6_23.below hbs24 nb6_23.lt
          have nb7_24 := nbs23.below hbs24 nbs23.lt
          refine stepG 5 (by kernel_rfl) (by simp only [List.getElem?_toArray, List.getElem?_cons_succ, List.getElem?_cons_zero]; rfl) (fun K hK => ?_)
          go_simp
          refine (sum_o hb cx cr2 [] L2 Hcx Hcr2 HX.out none 0 0 A4 N2 c4 _ (Rd.none_ _) (TR.out _ hs24).2.1 (by omega) (by omega)).mono ?_
          rintro e ws25 ⟨rfl, hbs25⟩
          have szs25 := hbs25.size
          refine hK.out _ _ ?tu25 (fun hs25 => ?_)
          case tu25 => exact keepS _ _ hs24 hbs25
          clear hK K
          have nb6_25 := nb6_24.below hbs25 nb6_24.lt
          have nb7_25 := nb7_24.below hbs25 nb7_24.lt
          refine stepG 8 (by kernel_rfl) (by simp only [List.getElem?_toArray, List.getElem?_cons_succ, List.getElem?_cons_zero]; rfl) (fun K hK => ?_)
          refine step_store_blk rfl 22 (.tmp 7) (.tmp 28) rfl rfl rfl nb6_25 (by rw [lr1.out, lz.out]) (by rw [lr1.out]; exact infoA16) one1.out ?_
          intro wa hka hga
          refine hK.out _ _ ?ts22 (fun hHeld => ?_)
          case ts22 => ((try dsimp only); exact (hs25).grown hga (by have hq := (hs25).size; have := HK4.out; omega) (by intro k hk; simp at hk; omega))
          clear hK K
          have hkb := (nb7_25).keep_grown hga (by simp; omega)
          have hSa := hHeld
          refine stepG 9 (by kernel_rfl) (by simp only [List.getElem?_toArray, List.getElem?_cons_succ, List.getElem?_cons_zero]; rfl) (fun K hK => ?_)
          refine step_store_blk rfl 22 (.tmp 8) (.tmp 31) rfl rfl rfl hkb (by rw [lr2.out, lz.out]) (by rw [lr2.out]; exact infoA16) one2.out ?_
          intro wb hkb2 hgb
          refine hK.out _ _ ?ts23 (fun hHeld => ?_)
          case ts23 => ((try dsimp only); exact hSa.grown hgb (by have hq := hSa.size; have := HK4.out; omega) (by intro k hk; simp at hk; omega))
          clear hK K
          have hka2 := hka.keep_grown hgb (by simp; omega)
          refine doneG (by kernel_rfl) ?_ _
          go_wp2_with fail
          go_meet
          exact ⟨_, _, rfl, rfl, hka2, hkb2, hHeld⟩
      · refine StepOf.mk 7 (by simp only [List.getElem?_toArray, List.getElem?_cons_succ, List.getElem?_cons_zero]; rfl) (fun K hK => ?_)
        go_simp
        obtain ⟨ws26, hw26⟩ : ∃ wx : World, wx = V0.alloc (.cells z.toArray 22) := ⟨_, rfl⟩
        rw [← hw26]
        have hbs26 : Below V0.heap.size V0 ws26 := by rw [hw26]; exact below_new _ _
        have nbs26 : Blk ws26 V0.heap.size 22 z.toArray := by rw [hw26]; exact Blk.new _ _ _
        have szs26 : V0.heap.size < ws26.heap.size := by rw [hw26]; simp
        clear hw26
        have ges26 : K4 ≤ V0.heap.size := (by have hq := (hHeld).size; have := HK4.out; omega)
        refine hK.out _ _ ?tu26 (fun hs26 => ?_)
        case tu26 => exact keepS _ _ hHeld hbs26
        clear hK K
        refine stepG2 2 6 (by kernel_rfl) ?_ ?_
        · refine StepOf.mk 2 (by simp only [List.getElem?_toArray, List.getElem?_cons_succ, List.getElem?_cons_zero]; rfl) (fun K hK => ?_)
          go_simp
          refine (sum_o hb cx cr1 [] l Hcx Hcr1 HX.out none 0 0 A1 n c1 _ (Rd.none_ _) (TR.out _ hs26).1 (by omega) (by omega)).mono ?_
          rintro e ws27 ⟨rfl, hbs27⟩
          have szs27 := hbs27.size
          refine hK.out _ _ ?tu27 (fun hs27 => ?_)
          case tu27 => exact keepS _ _ hs26 hbs27
          clear hK K
          have nb7_27 := nbs26.below hbs27 nbs26.lt
          refine stepG2 5 6 (by kernel_rfl) ?_ ?_
          · refine StepOf.mk 5 (by simp only [List.getElem?_toArray, List.getElem?_cons_succ, List.getElem?_cons_zero]; rfl) (fun K hK => ?_)
            go_simp
            refine (sum_o hb cx cr2 [] L2 Hcx Hcr2 HX.out none 0 0 A4 N2 c4 _ (Rd.none_ _) (TR.out _ hs27).2.1 (by omega) (by omega)).mono ?_
            rintro e ws28 ⟨rfl, hbs28⟩
            have szs28 := hbs28.size
            refine hK.out _ _ ?tu28 (fun hs28 => ?_)
            case tu28 => exact keepS _ _ hs27 hbs28
            clear hK K
            have nb7_28 := nb7_27.below hbs28 nb7_27.lt
            refine stepG 6 (by kernel_rfl) (by simp only [List.getElem?_toArray, List.getElem?_cons_succ, List.getElem?_cons_zero]; rfl) (fun K hK => ?_)
            go_simp
            obtain ⟨ws29, hw29⟩ : ∃ wx : World, wx = ws28.alloc (.cells z.toArray 22) := ⟨_, rfl⟩
            rw [← hw29]
            have hbs29 : Below ws28.heap.size ws28 ws29 := by rw [hw29]; exact below_new _ _
            have nbs29 : Blk ws29 ws28.heap.size 22 z.toArray := by rw [hw29]; exact Blk.new _ _ _
            have szs29 : ws28.heap.size < ws29.heap.size := by rw [hw29]; simp
            clear hw29
            have ges29 : K4 ≤ ws28.heap.size := (by have hq := (hs28).size; have := HK4.out; omega)
            refine hK.out _ _ ?tu29 (fun hs29 => ?_)
            case tu29 => exact keepS _ _ hs28 hbs29
            clear hK K
            have nb7_29 := nb7_28.below hbs29 nb7_28.lt
            refine stepG 8 (by kernel_rfl) (by simp only [List.getElem?_toArray, List.getElem?_cons_succ, List.getElem?_cons_zero]; rfl) (fun K hK => ?_)
            refine step_store_blk rfl 22 (.tmp 7) (.tmp 28) rfl rfl rfl nbs29 (by rw [lr1.out, lz.out]) (by rw [lr1.out]; exact infoA16) one1.out ?_
            intro wa hka hga
            refine hK.out _ _ ?ts24 (fun hHeld => ?_)
            case ts24 => ((try dsimp only); exact (hs29).grown hga (by have hq := (hs29).size; have := HK4.out; omega) (by intro k hk; simp at hk; omega))
            clear hK K
            have hkb := (nb7_29).keep_grown hga (by simp; omega)
            have hSa := hHeld
            refine stepG 9 (by kernel_rfl) (by simp only [List.getElem?_toArray, List.getElem?_cons_succ, List.getElem?_cons_zero]; rfl) (fun K hK => ?_)
            refine step_store_blk rfl 22 (.tmp 8) (.tmp 31) rfl rfl rfl hkb (by rw [lr2.out, lz.out]) (by rw [lr2.out]; exact infoA16) one2.out ?_
            intro wb hkb2 hgb
            refine hK.out _ _ ?ts25 (fun hHeld => ?_)
            case ts25 => ((try dsimp only); exact hSa.grown hgb (by have hq := hSa.size; have := HK4.out; omega) (by intro k hk; simp at hk; omega))
            clear hK K
            have hka2 := hka.keep_grown hgb (by simp; omega)
            refine doneG (by kernel_rfl) ?_ _
            go_wp2_with fail
            go_meet
            exact ⟨_, _, rfl, rfl, hka2, hkb2, hHeld⟩
          · refine StepOf.mk 6 (by simp only [List.getElem?_toArray, List.getElem?_cons_succ, List.getElem?_cons_zero]; rfl) (fun K hK => ?_)
            go_simp
            obtain ⟨ws30, hw30⟩ : ∃ wx : World, wx = ws27.alloc (.cells z.toArray 22) := ⟨_, rfl⟩
            rw [← hw30]
            have hbs30 : Below ws27.heap.size ws27 ws30 := by rw [hw30]; exact below_new _ _
            have nbs30 : Blk ws30 ws27.heap.size 22 z.toArray := by rw [hw30]; exact Blk.new _ _ _
            have szs30 : ws27.heap.size < ws30.heap.size := by rw [hw30]; simp
            clear hw30
            have ges30 : K4 ≤ ws27.heap.size := (by have hq := (hs27).size; have := HK4.out; omega)
            refine hK.out _ _ ?tu30 (fun hs30 => ?_)
            case tu30 => exact keepS _ _ hs27 hbs30
            clear hK K
            have nb7_30 := nb7_27.below hbs30 nb7_27.lt
            refine stepG 5 (by kernel_rfl) (by simp only [List.getElem?_toArray, List.getElem?_cons_succ, List.getElem?_cons_zero]; rfl) (fun K hK => ?_)
            go_simp
            refine (sum_o hb cx cr2 [] L2 Hcx Hcr2 HX.out none 0 0 A4 N2 c4 _ (Rd.none_ _) (TR.out _ hs30).2.1 (by omega) (by omega)).mono ?_
            rintro e ws31 ⟨rfl, hbs31⟩
            have szs31 := hbs31.size
            refine hK.out _ _ ?tu31 (fun hs31 => ?_)
            case tu31 => exact keepS _ _ hs30 hbs31
            clear hK K
            have nb7_31 := nb7_30.below hbs31 nb7_30.lt
            have nb6_31 := nbs30.below hbs31 nbs30.lt
            refine stepG 8 (by kernel_rfl) (by simp only [List.getElem?_toArray, List.getElem?_cons_succ, List.getElem?_cons_zero]; rfl) (fun K hK => ?_)
            refine step_store_blk rfl 22 (.tmp 7) (.tmp 28) rfl rfl rfl nb6_31 (by rw [lr1.out, lz.out]) (by rw [lr1.out]; exact infoA16) one1.out ?_
            intro wa hka hga
            refine hK.out _ _ ?ts26 (fun hHeld => ?_)
            case ts26 => ((try dsimp only); exact (hs31).grown hga (by have hq := (hs31).size; have := HK4.out; omega) (by intro k hk; simp at hk; omega))
            clear hK K
            have hkb := (nb7_31).keep_grown hga (by simp; omega)
            have hSa := hHeld
            refine stepG 9 (by kernel_rfl) (by simp only [List.getElem?_toArray, List.getElem?_cons_succ, List.getElem?_cons_zero]; rfl) (fun K hK => ?_)
            refine step_store_blk rfl 22 (.tmp 8) (.tmp 31) rfl rfl rfl hkb (by rw [lr2.out, lz.out]) (by rw [lr2.out]; exact infoA16) one2.out ?_
            intro wb hkb2 hgb
            refine hK.out _ _ ?ts27 (fun hHeld => ?_)
            case ts27 => ((try dsimp only); exact hSa.grown hgb (by have hq := hSa.size; have := HK4.out; omega) (by intro k hk; simp at hk; omega))
            clear hK K
            have hka2 := hka.keep_grown hgb (by simp; omega)
            refine doneG (by kernel_rfl) ?_ _
            go_wp2_with fail
            go_meet
            exact ⟨_, _, rfl, rfl, hka2, hkb2, hHeld⟩
        · refine StepOf.mk 6 (by simp only [List.getElem?_toArray, List.getElem?_cons_succ, List.getElem?_cons_zero]; rfl) (fun K hK => ?_)
          go_simp
          obtain ⟨ws32, hw32⟩ : ∃ wx : World, wx = ws26.alloc (.cells z.toArray 22) := ⟨_, rfl⟩
          rw [← hw32]
          have hbs32 : Below ws26.heap.size ws26 ws32 := by rw [hw32]; exact below_new _ _
          have nbs32 : Blk ws32 ws26.heap.size 22 z.toArray := by rw [hw32]; exact Blk.new _ _ _
          have szs32 : ws26.heap.size < ws32.heap.size := by rw [hw32]; simp
          clear hw32
          have ges32 : K4 ≤ ws26.heap.size := (by have hq := (hs26).size; have := HK4.out; omega)
          refine hK.out _ _ ?tu32 (fun hs32 => ?_)
          case tu32 => exact keepS _ _ hs26 hbs32
          clear hK K
          have nb7_32 := nbs26.below hbs32 nbs26.lt
          refine stepG 2 (by kernel_rfl) (by simp only [List.getElem?_toArray, List.getElem?_cons_succ, List.getElem?_cons_zero]; rfl) (fun K hK => ?_)
          go_simp
          refine (sum_o hb cx cr1 [] l Hcx Hcr1 HX.out none 0 0 A1 n c1 _ (Rd.none_ _) (TR.out _ hs32).1 (by omega) (by omega)).mono ?_
          rintro e ws33 ⟨rfl, hbs33⟩
          have szs33 := hbs33.size
          refine hK.out _ _ ?tu33 (fun hs33 => ?_)
          case tu33 => exact keepS _ _ hs32 hbs33
          clear hK K
          have nb7_33 := nb7_32.below hbs33 nb7_32.lt
          have nb6_33 := nbs32.below hbs33 nbs32.lt
          refine stepG 5 (by kernel_rfl) (by simp only [List.getElem?_toArray, List.getElem?_cons_succ, List.getElem?_cons_zero]; rfl) (fun K hK => ?_)
          go_simp
          refine (sum_o hb cx cr2 [] L2 Hcx Hcr2 HX.out none 0 0 A4 N2 c4 _ (Rd.none_ _) (TR.out _ hs33).2.1 (by omega) (by omega)).mono ?_
          rintro e ws34 ⟨rfl, hbs34⟩
          have szs34 := hbs34.size
          refine hK.out _ _ ?tu34 (fun hs34 => ?_)
          case tu34 => exact keepS _ _ hs33 hbs34
          clear hK K
          have nb7_34 := nb7_33.below hbs34 nb7_33.lt
          have nb6_34 := nb6_33.below hbs34 nb6_33.lt
          refine stepG 8 (by kernel_rfl) (by simp only [List.getElem?_toArray, List.getElem?_cons_succ, List.getElem?_cons_zero]; rfl) (fun K hK => ?_)
          refine step_store_blk rfl 22 (.tmp 7) (.tmp 28) rfl rfl rfl nb6_34 (by rw [lr1.out, lz.out]) (by rw [lr1.out]; exact infoA16) one1.out ?_
          intro wa hka hga
          refine hK.out _ _ ?ts28 (fun hHeld => ?_)
          case ts28 => ((try dsimp only); exact (hs34).grown hga (by have hq := (hs34).size; have := HK4.out; omega) (by intro k hk; simp at hk; omega))
          clear hK K
          have hkb := (nb7_34).keep_grown hga (by simp; omega)
          have hSa := hHeld
          refine stepG 9 (by kernel_rfl) (by simp only [List.getElem?_toArray, List.getElem?_cons_succ, List.getElem?_cons_zero]; rfl) (fun K hK => ?_)
          refine step_store_blk rfl 22 (.tmp 8) (.tmp 31) rfl rfl rfl hkb (by rw [lr2.out, lz.out]) (by rw [lr2.out]; exact infoA16) one2.out ?_
          intro wb hkb2 hgb
          refine hK.out _ _ ?ts29 (fun hHeld => ?_)
          case ts29 => ((try dsimp only); exact hSa.grown hgb (by have hq := hSa.size; have := HK4.out; omega) (by intro k hk; simp at hk; omega))
          clear hK K
          have hka2 := hka.keep_grown hgb (by simp; omega)
          refine doneG (by kernel_rfl) ?_ _
          go_wp2_with fail
          go_meet
          exact ⟨_, _, rfl, rfl, hka2, hkb2, hHeld⟩
    case rest =>
      obtain ⟨b7, b8, rfl, rfl, k7, k8, hSc⟩ := hcut
      have K7 := Lib.hid k7
      have K8 := Lib.hid k8
      obtain ⟨_, _, kxc, hBc⟩ := TR.out _ hSc
      have KXc := Lib.hid kxc
      have HBc := Lib.hid hBc
      clear k7 k8 kxc hBc hSc
      obtain ⟨M, HM⟩ : ∃ M, Hid (8 * n ^^^ 8 * N2 = M) := ⟨_, rfl⟩
      have hM : M < 65536 := by rw [← HM.out]; exact Nat.xor_lt_two_pow (n := 16) (by omega) (by omega)
      have hm1 : IntKind.i64.wrap (8 * (n : Int)) = 8 * (n : Int) := IntWalk.i64_in _ (by omega)
      have hm2 : IntKind.i64.wrap (8 * (N2 : Int)) = 8 * (N2 : Int) := IntWalk.i64_in _ (by omega)
      have hxm : bits .xor .i64 (8 * (n : Int)) (8 * (N2 : Int)) = (M : Int) := by
        rw [show 8 * (n : Int) = ((8 * n : Nat) : Int) by omega, show 8 * (N2 : Int) = ((8 * N2 : Nat) : Int) by omega, ← HM.out]
        exact i64_xor_nat _ _ (by omega) (by omega)
      go_wp2_with fail
      obtain ⟨G, hG⟩ : ∃ G, wc.heap.size = G := ⟨_, rfl⟩
      rw [hG]
      have KG : Hid (Blk (wc.alloc (.cells z.toArray 22)) G 22 ((List.replicate 16 (0 : UInt8)).map B8).toArray) := by
        have := Blk.new' wc 22 z.toArray G hG
        have e : z = (List.replicate 16 (0 : UInt8)).map B8 := HZ.out
        rw [e] at this ⊢
        exact this
      have hHG : H < G := by rw [← hG]; exact KXc.out.lt
      have h7G : b7 < G := by rw [← hG]; exact K7.out.lt
      have h8G : b8 < G := by rw [← hG]; exact K8.out.lt
      have HBG : Hid (Below G wc (wc.alloc (.cells z.toArray 22))) := by rw [← hG]; exact below_new _ _
      clear hG hm1 hm2 hxm
      go_loopw [10, 11] (fun s10 s11 wr => ∃ k : Nat, k ≤ 8 ∧ s11 = .int .i64 (15 - (k : Int)) ∧ s10 = .int .i64 (M / 256 ^ k : Nat) ∧ Blk wr G 22 ((List.replicate (16 - k) (0 : UInt8) ++ be M k).map B8).toArray ∧ Below G wc wr) (fun _ s11 _ => (intOf s11 - 7).toNat)
      case atStart => exact ⟨0, by omega, rfl, by simp, by simpa [be] using KG.out, HBG.out⟩
      case round =>
        clear KG HBG
        obtain ⟨k, hk, rfl, rfl, hd8, hbel⟩ := hrel
        have KD := Lib.hid hd8
        clear hd8
        have hMk : M / 256 ^ k ≤ M := Nat.div_le_self _ _
        obtain ⟨Q, HQ⟩ : ∃ Q, Hid (M / 256 ^ k = Q) := ⟨_, rfl⟩
        rw [HQ.out] at hMk ⊢
        by_cases hlt : k < 8
        · obtain ⟨t, ht⟩ : ∃ t, t = 15 - k := ⟨_, rfl⟩
          have et : (15 - (k : Int)) = (t : Int) := by omega
          have ht16 : (t : Int) < 16 := by omega
          have ht7 : decide ((t : Int) > 7) = true := decide_eq_true (by omega)
          have hc : wr.cell? ⟨G, t, none⟩ = some (.int .u8 0) := by
            rw [KD.out.cell]
            have e : 16 - k = (15 - k) + 1 := by omega
            rw [e, List.replicate_succ', ht]
            simp
          have hf := KD.out.frozen t
          have HT := Lib.hid ht
          rw [et]
          clear ht et
          go_wp2
          go_roundw
          case rel =>
            have hT := HT.out
            refine ⟨k + 1, by omega, ?_, ?_, ?_, hbel.setCell (Nat.le_refl _) _⟩
            · rw [hT]; exact ival (by omega)
            · rw [← div256, HQ.out]; exact ival (by omega)
            · have hs := KD.out.set_ t (B8 (UInt8.ofNat Q))
              rw [List.setIfInBounds_toArray, ← List.map_set, hT, show 16 - k = (15 - k) + 1 by omega, set_zeros] at hs
              rw [show 16 - (k + 1) = 15 - k by omega, be_succ, HQ.out, hT]
              have e3 : (B8 (UInt8.ofNat Q)) = Value.int .u8 ((Q : Int) % 256) := by
                show Value.int .u8 _ = _
                congr 1
              rw [e3] at hs
              exact hs
          case measure => first | (simp [intOf]; done) | (simp [intOf]; have := HT.out; omega)
        · obtain rfl : k = 8 := by omega
          have hbe : List.replicate (16 - 8) (0 : UInt8) ++ be M 8 = be M 16 := (be_ext M (by omega)).symm
          rw [hbe] at KD
          clear hbe
          obtain ⟨DB, HDB⟩ : ∃ x, Hid (be M 16 = x) := ⟨_, rfl⟩
          rw [HDB.out] at KD
          have LDB : Hid (DB.length = 16) := by show _ = _; rw [← HDB.out]; exact be_length M 16
          have hnD : Hid (num DB = M) := by show _ = _; rw [← HDB.out]; exact num_be16 M (by omega)
          obtain ⟨cd, Hcd⟩ : ∃ cs, Hid (cs = DB.map B8) := ⟨_, rfl⟩
          have ld : Hid (cd.length = 16) := by show _ = _; rw [Hcd.out]; simpa using LDB.out
          have KDc : Hid (Blk wr G 22 cd.toArray) := by rw [Hcd.out]; exact KD.out
          have K7w : Hid (Blk wr b7 22 cr1.toArray) := K7.out.below hbel h7G
          have K8w : Hid (Blk wr b8 22 cr2.toArray) := K8.out.below hbel h8G
          have KXw : Hid (Blk wr H 22 cx.toArray) := KXc.out.below hbel hHG
          have HBw : Hid (Below H w wr) := HBc.out.trans (hbel.mono (Nat.le_of_lt hHG))
          obtain ⟨ce, Hce⟩ : ∃ cs, Hid (cs = (be (gmul (num DB) (num hb)) 16).map B8) := ⟨_, rfl⟩
          have hsum : Hid (ce = (gadd (be (gfin (num hb) [] l) 16) (be (gfin (num hb) [] L2) 16)).map B8) := by
            show _ = _
            have b1 := gfin_lt (num hb) [] l (num_lt16 hb HX.out)
            have b2 := gfin_lt (num hb) [] L2 (num_lt16 hb HX.out)
            rw [gadd_be _ _ (be_length _ 16) (be_length _ 16), num_be16 _ b1, num_be16 _ b2, ← HL2.out, lens_law, Hce.out, hnD.out, ← HM.out, HL2.out, ← HL.out, ← HLN.out]
          have hq := eqcs _ ce Hce (be_length _ 16)
          clear KD hMk
          go_wp2_with fail
          refine region_gate 11 (fun w' => Blk w' b7 22 cr1.toArray ∧ Blk w' b8 22 cr2.toArray ∧ Blk w' G 22 cd.toArray ∧ Blk w' H 22 cx.toArray ∧ Below H w w') (by kernel_rfl) ?th30 (fun hHeld => ?tk30)
          case th30 => ((try dsimp only); exact ⟨K7w.out.drew, K8w.out.drew, KDc.out.drew, KXw.out.drew, HBw.out.drew⟩)
          refine' takeV 0 (oi := _) (d := _) (v := _) ?ti31 ?td31 (by kernel_rfl) (by kernel_rfl) (by kernel_rfl) (by kernel_rfl) (by decide) (fun _ _ _ _ _ h => h) ?tg31 ?ty31 (by assumption) ?tr31
          case ti31 => (simp only [List.getElem?_toArray, List.getElem?_cons_succ, List.getElem?_cons_zero]; rfl)
          case td31 => exact rfl
          case tg31 => exact rfl
          case ty31 => (intro w hSw; (try dsimp only at hSw); rw [exec_load_blk 22 (.tmp 7) rfl rfl hSw.1 _ HU.out rfl (by rw [lr1.out]; exact infoA16)])
          simp only [List.setIfInBounds_toArray, List.set_cons_zero, List.set_cons_succ]
          refine' takeV 1 (oi := _) (d := _) (v := _) ?ti32 ?td32 (by kernel_rfl) (by kernel_rfl) (by kernel_rfl) (by kernel_rfl) (by decide) (fun _ _ _ _ _ h => h) ?tg32 ?ty32 (by assumption) ?tr32
          case ti32 => (simp only [List.getElem?_toArray, List.getElem?_cons_succ, List.getElem?_cons_zero]; rfl)
          case td32 => exact rfl
          case tg32 => exact rfl
          case ty32 => (intro w hSw; (try dsimp only at hSw); rw [exec_load_blk 22 (.tmp 8) rfl rfl hSw.2.1 _ HU.out rfl (by rw [lr2.out]; exact infoA16)])
          simp only [List.setIfInBounds_toArray, List.set_cons_zero, List.set_cons_succ]
          refine' takeV 3 (oi := _) (d := _) (v := _) ?ti33 ?td33 (by kernel_rfl) (by kernel_rfl) (by kernel_rfl) (by kernel_rfl) (by decide) (fun _ _ _ _ _ h => h) ?tg33 ?ty33 (by assumption) ?tr33
          case ti33 => (simp only [List.getElem?_toArray, List.getElem?_cons_succ, List.getElem?_cons_zero]; rfl)
          case td33 => exact rfl
          case tg33 => exact rfl
          case ty33 => (intro w hSw; (try dsimp only at hSw); rw [exec_load_blk 22 (.tmp 9) rfl rfl hSw.2.2.1 _ HU.out rfl (by rw [ld.out]; exact infoA16)])
          simp only [List.setIfInBounds_toArray, List.set_cons_zero, List.set_cons_succ]
          refine' takeV 4 (oi := _) (d := _) (v := _) ?ti34 ?td34 (by kernel_rfl) (by kernel_rfl) (by kernel_rfl) (by kernel_rfl) (by decide) (fun _ _ _ _ _ h => h) ?tg34 ?ty34 (by assumption) ?tr34
          case ti34 => (simp only [List.getElem?_toArray, List.getElem?_cons_succ, List.getElem?_cons_zero]; rfl)
          case td34 => exact rfl
          case tg34 => exact rfl
          case ty34 => (intro w hSw; (try dsimp only at hSw); rw [exec_load_blk 22 (.tmp 2) rfl rfl hSw.2.2.2.1 _ HU.out rfl (by rw [lx.out]; exact infoA16)])
          simp only [List.setIfInBounds_toArray, List.set_cons_zero, List.set_cons_succ]
          obtain ⟨j1, j2, j3, j4, j5⟩ := hHeld
          refine stepG 2 (by kernel_rfl) (by simp only [List.getElem?_toArray, List.getElem?_cons_succ, List.getElem?_cons_zero]; rfl) (fun K hK => ?_)
          go_simp
          refine (plus_o _ _ cr1 cr2 ce Hcr1 Hcr2 hsum (be_length _ 16) (be_length _ 16) _).mono ?_
          rintro e wp1 ⟨rfl, hp1⟩
          refine hK.out _ _ ?ts35 (fun hHeld => ?_)
          case ts35 => ((try dsimp only); exact ⟨j1.below hp1 j1.lt, j2.below hp1 j2.lt, j3.below hp1 j3.lt, j4.below hp1 j4.lt, j5.trans (hp1.mono (Nat.le_of_lt j4.lt))⟩)
          clear hK K
          obtain ⟨q1, q2, q3, q4, q5⟩ := hHeld
          refine stepG 5 (by kernel_rfl) (by simp only [List.getElem?_toArray, List.getElem?_cons_succ, List.getElem?_cons_zero]; rfl) (fun K hK => ?_)
          go_simp
          refine (mul_o DB hb cd cx ce Hcd Hcx Hce LDB.out HX.out _).mono ?_
          rintro e wp2 ⟨rfl, hp2⟩
          refine hK.out _ _ ?ts36 (fun hHeld => ?_)
          case ts36 => ((try dsimp only); exact ⟨q1.below hp2 q1.lt, q2.below hp2 q2.lt, q3.below hp2 q3.lt, q4.below hp2 q4.lt, q5.trans (hp2.mono (Nat.le_of_lt q4.lt))⟩)
          clear hK K
          obtain ⟨r1, r2, r3, r4, r5⟩ := hHeld
          refine stepG 6 (by kernel_rfl) (by simp only [List.getElem?_toArray, List.getElem?_cons_succ, List.getElem?_cons_zero]; rfl) (fun K hK => ?_)
          go_simp
          refine hK.out _ _ ?ts37 (fun hHeld => ?_)
          case ts37 => ((try dsimp only); exact ⟨r1, r2, r3, r4, r5⟩)
          clear hK K
          refine stepG 7 (by kernel_rfl) (by simp only [List.getElem?_toArray, List.getElem?_cons_succ, List.getElem?_cons_zero]; rfl) (fun K hK => ?_)
          go_simp
          refine hK.out _ _ ?ts38 (fun hHeld => ?_)
          case ts38 => ((try dsimp only); exact ⟨r1, r2, r3, r4, r5⟩)
          clear hK K
          refine stepG 8 (by kernel_rfl) (by simp only [List.getElem?_toArray, List.getElem?_cons_succ, List.getElem?_cons_zero]; rfl) (fun K hK => ?_)
          go_simp
          refine (known_any _).mono ?_
          rintro e wp3 ⟨rfl, hp3⟩
          refine hK.out _ _ ?ts39 (fun hHeld => ?_)
          case ts39 => ((try dsimp only); exact ⟨r1.below hp3 r1.lt, r2.below hp3 r2.lt, r3.below hp3 r3.lt, r4.below hp3 r4.lt, r5.trans (hp3.mono (Nat.le_of_lt r4.lt))⟩)
          clear hK K
          obtain ⟨t1, t2, t3, t4, t5⟩ := hHeld
          refine stepG 9 (by kernel_rfl) (by simp only [List.getElem?_toArray, List.getElem?_cons_succ, List.getElem?_cons_zero]; rfl) (fun K hK => ?_)
          go_simp
          refine hK.out _ _ ?ts40 (fun hHeld => ?_)
          case ts40 => ((try dsimp only); exact ⟨t1, t2, t3, t4, t5⟩)
          clear hK K
          refine stepG 10 (by kernel_rfl) (by simp only [List.getElem?_toArray, List.getElem?_cons_succ, List.getElem?_cons_zero]; rfl) (fun K hK => ?_)
          go_simp
          refine hK.out _ _ ?ts41 (fun hHeld => ?_)
          case ts41 => ((try dsimp only); exact ⟨t1, t2, t3, t4, t5⟩)
          clear hK K
          refine doneG (by kernel_rfl) ?_ _
          go_wp2
          go_ret
          exact ⟨rfl, by rw [HH.out]; exact t5⟩
end Go.Proofs.Ytikhnjoobhfgdaa
