/- The closures of slot.Decode: pin. -/
import Derived.Test.YtihbpmceggghgaaDecD
import Derived.BigRegion
set_option linter.unusedVariables false
set_option linter.unusedSimpArgs false
namespace Go.Proofs.Ytihbpmceggghgaa
open Go.RowKit

def pn1 (l : List UInt8) : RdSt → RdSt
  | .error f => .error f
  | .ok p => if p + 14 ≤ 224 ∧ zeros ((l.drop p).take 14) = true then .error p else .ok p
def pn2 : RdSt → RdSt
  | .error f => .error f
  | .ok p => if 224 < p + 14 then .error 224 else .ok p
theorem pn3 (l : List UInt8) (s : RdSt) : pnR l s =
    (((tkR l 4 (fun _ => true) (pn2 (pn1 l s))).1, (tkR l 8 (fun _ => true) (tkR l 4 (fun _ => true) (pn2 (pn1 l s))).2).1, (tkR l 2 (fun _ => true) (tkR l 8 (fun _ => true) (tkR l 4 (fun _ => true) (pn2 (pn1 l s))).2).2).1),
      (tkR l 2 (fun _ => true) (tkR l 8 (fun _ => true) (tkR l 4 (fun _ => true) (pn2 (pn1 l s))).2).2).2) := by
  cases s with
  | error f => rfl
  | ok p =>
    by_cases h1 : 224 < p + 14
    · have e1 : pn1 l (.ok p) = .ok p := by unfold pn1; exact if_neg (fun h => by omega)
      have e2 : pn2 (.ok p) = .error 224 := if_pos h1
      rw [e1, e2, pnR_bad (by unfold pn; rw [if_pos h1])]
      rfl
    · by_cases h2 : zeros ((l.drop p).take 14) = true
      · have e1 : pn1 l (.ok p) = .error p := by unfold pn1; exact if_pos ⟨by omega, h2⟩
        rw [e1, pnR_bad (by unfold pn; rw [if_neg h1, if_pos h2])]
        rfl
      · have e1 : pn1 l (.ok p) = .ok p := by unfold pn1; exact if_neg (fun h => h2 h.2)
        have e2 : pn2 (.ok p) = .ok p := if_neg h1
        have t4 : tk l 4 (fun _ => true) p = .ok (num ((l.drop p).take 4), p + 4) := tk_mk (by omega) rfl rfl
        have t8 : tk l 8 (fun _ => true) (p + 4) = .ok (num ((l.drop (p + 4)).take 8), p + 4 + 8) := tk_mk (by omega) rfl rfl
        have t2 : tk l 2 (fun _ => true) (p + 4 + 8) = .ok (num ((l.drop (p + 4 + 8)).take 2), p + 4 + 8 + 2) := tk_mk (by omega) rfl rfl
        rw [e1, e2, tkR_ok t4]
        dsimp only
        rw [tkR_ok t8]
        dsimp only
        rw [tkR_ok t2, pnR_ok (by unfold pn; rw [if_neg h1, if_neg h2])]
def pnB (l : List UInt8) : RdSt → Bool
  | .error _ => false
  | .ok p => decide (p + 14 ≤ 224) && zeros ((l.drop p).take 14)
def pnC : RdSt → Bool
  | .error _ => false
  | .ok p => decide (224 < p + 14)
set_option maxHeartbeats 3200000 in
theorem pin_any (H : Nat) (A : Option Addr) (c : Nat) (l : List UInt8) (s : RdSt) (p : Nat) (w : World) (h : DS w H A c l s p) :
    Calls Try.prog 44 #[ptr (H + 3), ptr (H + 2), ptr H, ptr (H + 4), ptr (H + 5), ptr (H + 6)] w fun e w' => e = .returned (RfV (pnR l s).1) ∧ (∃ p', DS w' H A c l (pnR l s).2 p') ∧ Fr H w w' := by
  have hpl := h.pl
  obtain ⟨W, hW⟩ : ∃ W, W = w.alloc (.cells #[.int .u32 0, .int .u64 0, .int .u16 0] 47) := ⟨_, rfl⟩
  have hwW : Below w.heap.size w W := by rw [hW]; exact below_new1 _ _
  have KY : Hid (Blk W w.heap.size 47 [Value.int .u32 0, .int .u64 0, .int .u16 0].toArray) := by rw [hW]; exact Blk.new _ _ _
  have HD := Lib.hid (h.fr hwW)
  have HW := Lib.hid hW
  have HwW := Lib.hid hwW
  have hws : w.heap.size < W.heap.size := KY.out.lt
  have hHs := h.size
  clear h hW hwW
  go_enter Try.func44, Try.ntmps44
  go_upto_region 1 with fail
  rw [← HW.out]
  go_cut [21] (fun s21 wx => s21 = .bool (pnB l s) ∧ wx = W)
  case first =>
    cases s with
    | error f =>
      have k1 := HD.out.bf.cell 0
      have e1 : stF (.error f) = (f : Int) := rfl
      rw [e1] at k1
      have hf0 : ¬ ((f : Int) < 0) := by omega
      clear e1
      go_wp2_with fail
      go_meet
      exact ⟨rfl, rfl⟩
    | ok q =>
      obtain rfl : p = q := HD.out.at_ _ rfl
      have k1 := HD.out.bf.cell 0
      have e1 : stF (.ok p) = -1 := rfl
      rw [e1] at k1
      have k2 := HD.out.bp.cell 0
      have k3 := HD.out.bb.cell 0
      clear e1
      by_cases h14 : p + 14 ≤ 224
      · have hi : (224 : Int) - (p : Int) ≥ 14 := by omega
        obtain ⟨b, o, rfl, _⟩ := HD.out.rd.at_ (by omega)
        have hcap := HD.out.rd.cap
        have hmax := HD.out.rd.max
        unfold maxLen at hmax
        have hcp : ¬ (c = p) := by omega
        have HC := Lib.hid (nought_any _ _ _ _ W (HD.out.rd.part p 14 (c - p) (some ⟨b, o + p, none⟩) (fun _ => rfl) (by omega) (by omega) (by unfold maxLen; omega)))
        obtain ⟨z, hz⟩ : ∃ z, zeros ((l.drop p).take 14) = z := ⟨_, rfl⟩
        rw [hz] at HC
        have HP : Hid (pnB l (.ok p) = z) := by show _ = _; unfold pnB; dsimp only; rw [hz, decide_eq_true h14]; rfl
        clear hz h14
        go_wp2_with fail
        refine HC.out.mono ?_
        rintro e w1 ⟨rfl, rfl⟩
        go_wp2_with fail
        go_meet
        exact ⟨by rw [HP.out], rfl⟩
      · have hi : ¬ ((224 : Int) - (p : Int) ≥ 14) := by omega
        have HP : Hid (pnB l (.ok p) = false) := by show _ = _; unfold pnB; dsimp only; rw [decide_eq_false h14]; rfl
        go_wp2_with fail
        go_meet
        exact ⟨by rw [HP.out], rfl⟩
  case rest =>
    obtain ⟨rfl, hwc⟩ := hcut
    have hwc2 := hwc.symm
    subst hwc2
    clear hwc
    go_upto_if 21 with fail
    go_cut [7] (fun s7 wx => (∃ p', DS wx H A c l (pn1 l s) p') ∧ Fr H W wx)
    case first =>
      cases hb : pnB l s with
      | true =>
        cases s with
        | error f => cases hb
        | ok q =>
          obtain rfl : p = q := HD.out.at_ _ rfl
          have k2 := HD.out.bp.cell 0
          have k4 := HD.out.bw.cell 0
          have hb2 : pn1 l (.ok p) = .error p := by
            unfold pnB at hb
            rw [Bool.and_eq_true, decide_eq_true_iff] at hb
            unfold pn1
            exact if_pos hb
          have HP := Lib.hid hb2
          have HWr := Lib.hid (wrong_any H _ c l p p W HD.out hpl)
          clear hb hb2
          go_wp2_with fail
          refine HWr.out.mono ?_
          rintro e w1 ⟨rfl, hd1, hf1⟩
          have HD1 := Lib.hid hd1
          have HF1 := Lib.hid hf1
          clear hd1 hf1
          go_wp2_with fail
          go_meet
          rw [HP.out]
          exact ⟨⟨p, HD1.out⟩, HF1.out⟩
      | false =>
        have HP : Hid (pn1 l s = s) := by
          show _ = _
          cases s with
          | error f => rfl
          | ok q =>
            unfold pn1
            refine if_neg fun h => ?_
            unfold pnB at hb
            dsimp only at hb
            rw [decide_eq_true h.1, h.2] at hb
            cases hb
        clear hb
        go_wp2_with fail
        go_meet
        rw [HP.out]
        exact ⟨⟨p, HD.out⟩, Fr.refl _ _⟩
    case rest =>
      obtain ⟨⟨p1, hd1⟩, hf1⟩ := hcut
      obtain ⟨s1, hs1⟩ : ∃ s1, pn1 l s = s1 := ⟨_, rfl⟩
      rw [hs1] at hd1
      have HS1 := Lib.hid hs1
      have HD1 := Lib.hid hd1
      have HF1 := Lib.hid hf1
      clear hd1 hf1 hs1
      have hp1 := HD1.out.pl
      rename_i wc
      obtain ⟨wd, hwd⟩ : ∃ wd, wd = wc := ⟨_, rfl⟩
      rw [← hwd] at HD1 HF1 ⊢
      clear hwd wc
      go_upto_region 3 with fail
      go_cut [31] (fun s31 wx => s31 = .bool (pnC s1) ∧ wx = wd)
      case first =>
        cases s1 with
        | error f =>
          have k1 := HD1.out.bf.cell 0
          have e1 : stF (.error f) = (f : Int) := rfl
          rw [e1] at k1
          have hf0 : ¬ ((f : Int) < 0) := by omega
          clear e1
          go_wp2_with fail
          go_meet
          exact ⟨rfl, rfl⟩
        | ok q =>
          obtain rfl : p1 = q := HD1.out.at_ _ rfl
          have k1 := HD1.out.bf.cell 0
          have e1 : stF (.ok p1) = -1 := rfl
          rw [e1] at k1
          have k2 := HD1.out.bp.cell 0
          clear e1
          by_cases h14 : 224 < p1 + 14
          · have hi : ((224 : Int) - (p1 : Int) < 14) := by omega
            have HP : Hid (pnC (.ok p1) = true) := by show _ = _; unfold pnC; dsimp only; rw [decide_eq_true h14]
            go_wp2_with fail
            go_meet
            exact ⟨by rw [HP.out], rfl⟩
          · have hi : ¬ ((224 : Int) - (p1 : Int) < 14) := by omega
            have HP : Hid (pnC (.ok p1) = false) := by show _ = _; unfold pnC; dsimp only; rw [decide_eq_false h14]
            go_wp2_with fail
            go_meet
            exact ⟨by rw [HP.out], rfl⟩
      case rest =>
        obtain ⟨rfl, hwc⟩ := hcut
        have hwc2 := hwc.symm
        subst hwc2
        clear hwc
        go_upto_if 31 with fail
        go_cut [7] (fun s7 wx => (∃ p', DS wx H A c l (pn2 s1) p') ∧ Fr H W wx)
        case first =>
          cases hb : pnC s1 with
          | true =>
            cases s1 with
            | error f => cases hb
            | ok q =>
              obtain rfl : p1 = q := HD1.out.at_ _ rfl
              have k2 := HD1.out.bp.cell 0
              have k4 := HD1.out.bw.cell 0
              have hb2 : pn2 (.ok p1) = .error 224 := if_pos (of_decide_eq_true hb)
              have HP := Lib.hid hb2
              have HWr := Lib.hid (wrong_any H _ c l p1 224 wd HD1.out (by omega))
              clear hb hb2
              go_wp2_with fail
              refine HWr.out.mono ?_
              rintro e w1 ⟨rfl, hd1, hf1⟩
              have HD2 := Lib.hid hd1
              have HF2 := Lib.hid hf1
              clear hd1 hf1
              go_wp2_with fail
              go_meet
              rw [HP.out]
              exact ⟨⟨p1, HD2.out⟩, HF1.out.trans HF2.out⟩
          | false =>
            have HP : Hid (pn2 s1 = s1) := by
              show _ = _
              cases s1 with
              | error f => rfl
              | ok q => exact if_neg (of_decide_eq_false hb)
            clear hb
            go_wp2_with fail
            go_meet
            rw [HP.out]
            exact ⟨⟨p1, HD1.out⟩, HF1.out⟩
        case rest =>
          obtain ⟨⟨p2, hd2⟩, hf2⟩ := hcut
          obtain ⟨s2, hs2⟩ : ∃ s2, pn2 s1 = s2 := ⟨_, rfl⟩
          rw [hs2] at hd2
          have HS2 := Lib.hid hs2
          have HD2 := Lib.hid hd2
          have HF2 := Lib.hid hf2
          clear hd2 hf2 hs2 HD1 HF1
          rename_i wc
          obtain ⟨we, hwe⟩ : ∃ we, we = wc := ⟨_, rfl⟩
          rw [← hwe] at HD2 HF2 ⊢
          clear hwe wc
          go_upto_region 5 with fail
          have TR : Hid (∀ wx s p, DS wx H A c l s p → wx.cell? ⟨H + 5, 0, none⟩ = some (fnV 39 #[ptr (H + 3), ptr (H + 2), ptr (H + 4), ptr H]) ∧ wx.cell? ⟨H + 6, 0, none⟩ = some (fnV 43 #[])) := fun wx s p h => ⟨h.bt.cell 0, h.ba.cell 0⟩
          refine region_gate 12 (fun wx => wx.cell? ⟨H + 5, 0, none⟩ = some (fnV 39 #[ptr (H + 3), ptr (H + 2), ptr (H + 4), ptr H]) ∧ wx.cell? ⟨H + 6, 0, none⟩ = some (fnV 43 #[])) (by kernel_rfl) ?th1 (fun hHeld => ?tk1)
          case th1 => ((try dsimp only); exact TR.out we _ _ HD2.out)
          refine' takeV 0 (oi := _) (d := _) (v := _) ?ti2 ?td2 (by kernel_rfl) (by kernel_rfl) (by kernel_rfl) (by kernel_rfl) (by decide) (fun _ _ _ _ _ h => h) ?tg2 ?ty2 (by assumption) ?tr2
          case ti2 => (simp only [List.getElem?_toArray, List.getElem?_cons_succ, List.getElem?_cons_zero]; rfl)
          case td2 => exact rfl
          case tg2 => exact rfl
          case ty2 => (intro w hSw; (try dsimp only at hSw); go_split_ands; go_simp; try with_reducible rfl)
          simp only [List.setIfInBounds_toArray, List.set_cons_zero, List.set_cons_succ]
          refine' takeV 1 (oi := _) (d := _) (v := _) ?ti3 ?td3 (by kernel_rfl) (by kernel_rfl) (by kernel_rfl) (by kernel_rfl) (by decide) (fun _ _ _ _ _ h => h) ?tg3 ?ty3 (by assumption) ?tr3
          case ti3 => (simp only [List.getElem?_toArray, List.getElem?_cons_succ, List.getElem?_cons_zero]; rfl)
          case td3 => exact rfl
          case tg3 => exact rfl
          case ty3 => (intro w hSw; (try dsimp only at hSw); go_split_ands; go_simp; try with_reducible rfl)
          simp only [List.setIfInBounds_toArray, List.set_cons_zero, List.set_cons_succ]
          refine' takeV 4 (oi := _) (d := _) (v := _) ?ti4 ?td4 (by kernel_rfl) (by kernel_rfl) (by kernel_rfl) (by kernel_rfl) (by decide) (fun _ _ _ _ _ h => h) ?tg4 ?ty4 (by assumption) ?tr4
          case ti4 => (simp only [List.getElem?_toArray, List.getElem?_cons_succ, List.getElem?_cons_zero]; rfl)
          case td4 => exact rfl
          case tg4 => exact rfl
          case ty4 => (intro w hSw; (try dsimp only at hSw); go_split_ands; go_simp; try with_reducible rfl)
          simp only [List.setIfInBounds_toArray, List.set_cons_zero, List.set_cons_succ]
          refine' takeV 5 (oi := _) (d := _) (v := _) ?ti5 ?td5 (by kernel_rfl) (by kernel_rfl) (by kernel_rfl) (by kernel_rfl) (by decide) (fun _ _ _ _ _ h => h) ?tg5 ?ty5 (by assumption) ?tr5
          case ti5 => (simp only [List.getElem?_toArray, List.getElem?_cons_succ, List.getElem?_cons_zero]; rfl)
          case td5 => exact rfl
          case tg5 => exact rfl
          case ty5 => (intro w hSw; (try dsimp only at hSw); go_split_ands; go_simp; try with_reducible rfl)
          simp only [List.setIfInBounds_toArray, List.set_cons_zero, List.set_cons_succ]
          refine' takeV 7 (oi := _) (d := _) (v := _) ?ti6 ?td6 (by kernel_rfl) (by kernel_rfl) (by kernel_rfl) (by kernel_rfl) (by decide) (fun _ _ _ _ _ h => h) ?tg6 ?ty6 (by assumption) ?tr6
          case ti6 => (simp only [List.getElem?_toArray, List.getElem?_cons_succ, List.getElem?_cons_zero]; rfl)
          case td6 => exact rfl
          case tg6 => exact rfl
          case ty6 => (intro w hSw; (try dsimp only at hSw); go_split_ands; go_simp; try with_reducible rfl)
          simp only [List.setIfInBounds_toArray, List.set_cons_zero, List.set_cons_succ]
          refine' takeV 8 (oi := _) (d := _) (v := _) ?ti7 ?td7 (by kernel_rfl) (by kernel_rfl) (by kernel_rfl) (by kernel_rfl) (by decide) (fun _ _ _ _ _ h => h) ?tg7 ?ty7 (by assumption) ?tr7
          case ti7 => (simp only [List.getElem?_toArray, List.getElem?_cons_succ, List.getElem?_cons_zero]; rfl)
          case td7 => exact rfl
          case tg7 => exact rfl
          case ty7 => (intro w hSw; (try dsimp only at hSw); go_split_ands; go_simp; try with_reducible rfl)
          simp only [List.setIfInBounds_toArray, List.set_cons_zero, List.set_cons_succ]
          obtain ⟨V0, hV0⟩ : ∃ V0, V0 = we.drew := ⟨_, rfl⟩
          have B0 : Below we.heap.size we V0 := by rw [hV0]; exact (Below.refl _ _).drew
          rw [← hV0]
          clear hV0 hHeld
          have HD3 := Lib.hid (HD2.out.fr B0)
          have HF3 := Lib.hid (HF2.out.trans (Fr.of B0))
          clear B0
          obtain ⟨x4, hx4⟩ : ∃ x, (tkR l 4 (fun _ => true) s2).1 = x := ⟨_, rfl⟩
          have l4 := tkR_le (b := l) (size := 4) (may := fun _ => true) (s := s2) (by omega)
          have C4 := take_any 43 #[] (fun _ => true) 4 H A c l s2 p2 V0 HD3.out en_any (fun _ _ => may_any _ _) (by omega) (by omega)
          obtain ⟨s3, hs3⟩ : ∃ s3, (tkR l 4 (fun _ => true) s2).2 = s3 := ⟨_, rfl⟩
          rw [hx4] at C4 l4
          rw [hs3] at C4
          refine stepG 2 (by kernel_rfl) (by simp only [List.getElem?_toArray, List.getElem?_cons_succ, List.getElem?_cons_zero]; rfl) (fun K hK => ?_)
          go_simp
          refine (C4).mono ?_
          rintro e V1 ⟨p3, rfl, hd4, hf4⟩
          refine hK.out _ _ ?ts8 (fun hHeld => ?_)
          case ts8 => ((try dsimp only); exact TR.out _ _ _ hd4)
          clear hK K
          have HD4 := Lib.hid hd4
          have HF4 := Lib.hid (HF3.out.trans hf4)
          clear hd4 hf4 C4
          have m4 : (x4 : Int) ≤ 4294967295 := by omega
          refine' takeV 3 (oi := _) (d := _) (v := _) ?ti9 ?td9 (by kernel_rfl) (by kernel_rfl) (by kernel_rfl) (by kernel_rfl) (by decide) (fun _ _ _ _ _ h => h) ?tg9 ?ty9 (by assumption) ?tr9
          case ti9 => (simp only [List.getElem?_toArray, List.getElem?_cons_succ, List.getElem?_cons_zero]; rfl)
          case td9 => exact rfl
          case tg9 => exact rfl
          case ty9 => (intro w hSw; (try dsimp only at hSw); go_split_ands; go_simp; try with_reducible rfl)
          simp only [List.setIfInBounds_toArray, List.set_cons_zero, List.set_cons_succ]
          clear hHeld
          obtain ⟨x8, hx8⟩ : ∃ x, (tkR l 8 (fun _ => true) s3).1 = x := ⟨_, rfl⟩
          have C8 := take_any 43 #[] (fun _ => true) 8 H A c l s3 p3 V1 HD4.out en_any (fun _ _ => may_any _ _) (by omega) (by omega)
          obtain ⟨s4, hs4⟩ : ∃ s4, (tkR l 8 (fun _ => true) s3).2 = s4 := ⟨_, rfl⟩
          rw [hx8] at C8
          rw [hs4] at C8
          refine stepG 6 (by kernel_rfl) (by simp only [List.getElem?_toArray, List.getElem?_cons_succ, List.getElem?_cons_zero]; rfl) (fun K hK => ?_)
          go_simp
          refine (C8).mono ?_
          rintro e V2 ⟨p4, rfl, hd5, hf5⟩
          refine hK.out _ _ ?ts10 (fun hHeld => ?_)
          case ts10 => ((try dsimp only); exact TR.out _ _ _ hd5)
          clear hK K
          have HD5 := Lib.hid hd5
          have HF5 := Lib.hid (HF4.out.trans hf5)
          clear hd5 hf5 C8 hHeld
          obtain ⟨x2, hx2⟩ : ∃ x, (tkR l 2 (fun _ => true) s4).1 = x := ⟨_, rfl⟩
          have l2 := tkR_le (b := l) (size := 2) (may := fun _ => true) (s := s4) (by omega)
          have C2 := take_any 43 #[] (fun _ => true) 2 H A c l s4 p4 V2 HD5.out en_any (fun _ _ => may_any _ _) (by omega) (by omega)
          obtain ⟨s5, hs5⟩ : ∃ s5, (tkR l 2 (fun _ => true) s4).2 = s5 := ⟨_, rfl⟩
          rw [hx2] at C2 l2
          rw [hs5] at C2
          refine stepG 9 (by kernel_rfl) (by simp only [List.getElem?_toArray, List.getElem?_cons_succ, List.getElem?_cons_zero]; rfl) (fun K hK => ?_)
          go_simp
          refine (C2).mono ?_
          rintro e V3 ⟨p5, rfl, hd6, hf6⟩
          refine hK.out _ _ ?ts11 (fun hHeld => ?_)
          case ts11 => ((try dsimp only); exact TR.out _ _ _ hd6)
          clear hK K
          have HD6 := Lib.hid hd6
          have HF6 := Lib.hid (HF5.out.trans hf6)
          clear hd6 hf6 C2
          have m2 : (x2 : Int) ≤ 65535 := by omega
          refine' takeV 10 (oi := _) (d := _) (v := _) ?ti12 ?td12 (by kernel_rfl) (by kernel_rfl) (by kernel_rfl) (by kernel_rfl) (by decide) (fun _ _ _ _ _ h => h) ?tg12 ?ty12 (by assumption) ?tr12
          case ti12 => (simp only [List.getElem?_toArray, List.getElem?_cons_succ, List.getElem?_cons_zero]; rfl)
          case td12 => exact rfl
          case tg12 => exact rfl
          case ty12 => (intro w hSw; (try dsimp only at hSw); go_split_ands; go_simp; try with_reducible rfl)
          simp only [List.setIfInBounds_toArray, List.set_cons_zero, List.set_cons_succ]
          refine' takeV 11 (oi := _) (d := _) (v := _) ?ti13 ?td13 (by kernel_rfl) (by kernel_rfl) (by kernel_rfl) (by kernel_rfl) (by decide) (fun _ _ _ _ _ h => h) ?tg13 ?ty13 (by assumption) ?tr13
          case ti13 => (simp only [List.getElem?_toArray, List.getElem?_cons_succ, List.getElem?_cons_zero]; rfl)
          case td13 => exact rfl
          case tg13 => exact rfl
          case ty13 => (intro w hSw; (try dsimp only at hSw); go_split_ands; go_simp; try with_reducible rfl)
          simp only [List.setIfInBounds_toArray, List.set_cons_zero, List.set_cons_succ]
          clear hHeld
          have KY6 := Lib.hid (KY.out.fr HF6.out (by omega) (by omega))
          have infoR : (Try.prog.info? 47).map (·.size) = some 3 := by kernel_rfl
          refine stepGate 12 (by kernel_rfl) (by kernel_rfl) (by simp only [List.getElem?_toArray, List.getElem?_cons_succ, List.getElem?_cons_zero]; rfl) (fun K hK => ?_)
          refine step_store_blk rfl 47 (.tmp 6) (.tmp 45) rfl rfl (cs := [.int .u32 (IntKind.u32.wrap (x4 : Int)), .int .u64 (x8 : Int), .int .u16 (IntKind.u16.wrap (x2 : Int))]) rfl KY6.out rfl infoR (by intro v hv; simp at hv; rcases hv with rfl | rfl | rfl <;> rfl) ?_
          intro wa hka hga
          refine hK.out _ _ ?_
          clear hK K
          refine doneG (by kernel_rfl) ?_ _
          go_wp2_with fail
          have w4 : IntKind.u32.wrap (x4 : Int) = (x4 : Int) := IntWalk.u32_in _ (by omega)
          have w2 : IntKind.u16.wrap (x2 : Int) = (x2 : Int) := IntWalk.u16_in _ (by omega)
          rw [w4, w2] at hka
          have hfin : pnR l s = ((x4, x8, x2), s5) := by
            rw [pn3, HS1.out, HS2.out, hx4, hs3, hx8, hs4, hx2, hs5]
          have hYlt : H + 7 ≤ w.heap.size := hHs
          have hF6 : Fr H w V3 := (Fr.of HwW.out).trans HF6.out
          have hFa : Fr H w wa := ⟨hga.os.trans hF6.os, hga.tape.trans hF6.tape, hga.output.trans hF6.output, Nat.le_trans hF6.size hga.size, fun k hk h2 h3 => (hga.block k (Nat.lt_of_lt_of_le hk hF6.size) (by simp; omega)).trans (hF6.block k hk h2 h3)⟩
          rw [hfin]
          refine bodyPost_ret (v := RfV (x4, x8, x2)) (ret_blk (p := 6) rfl rfl hka _ Try.underlying47 rfl (by kernel_rfl)) rfl ⟨rfl, ⟨p5, HD6.out.below ⟨hga.os, hga.tape, hga.output, hga.size, fun k hk => hga.block k (by have := HD6.out.size; omega) (by simp; omega)⟩⟩, hFa⟩
end Go.Proofs.Ytihbpmceggghgaa
