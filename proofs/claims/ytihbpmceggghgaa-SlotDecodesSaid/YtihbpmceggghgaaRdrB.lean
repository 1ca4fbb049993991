/- The reader of the document's answer: its text. -/
import Derived.Test.YtihbpmceggghgaaRdrA
import Derived.Test.YtihbpmceggghgaaOctE
import Derived.Test.YtihbpmceggghgaaEntA
set_option linter.unusedVariables false
set_option linter.unusedSimpArgs false
namespace Go.Proofs.Ytihbpmceggghgaa
open Go.RowKit

theorem rtext_bad (Z : Nat) (A : Option Addr) (c : Nat) (l : List UInt8) (f p : Nat) (w : World) (b : Bool) (x : Int) (h : RDS w Z A c l (.error f) p) :
    Calls Try.prog 61 #[rptr Z, .bool b, .int .i64 x] w fun e w' => e = .returned (.slice none 0 0) ∧ w = w' := by
  have k2 := h.bz.cell 2
  have e1 : rsF (.error f) = (f : Int) := rfl
  rw [e1] at k2
  have hf0 : (0 : Int) ≤ (f : Int) := by omega
  clear h e1
  go_enter Try.func61, Try.ntmps61
  go_wp2_with fail
  go_ret
  exact ⟨rfl, rfl⟩
set_option maxRecDepth 100000 in
set_option maxHeartbeats 3200000 in
theorem rtext_no (Z : Nat) (A : Option Addr) (c : Nat) (l : List UInt8) (p v : Nat) (w : World) (b : Bool) (h : RDS w Z A c l (.ok p) p) (hv : v ≤ 255) (hb : b = false ∨ 224 < p + 1 + v) :
    Calls Try.prog 61 #[rptr Z, .bool b, .int .i64 (v : Int)] w fun e w' => e = .returned (.slice none 0 0) ∧ RDS w' Z A c l (.error p) p ∧ w.grownBy w' (some Z) := by
  have k0 := h.bz.cell 0
  have k1 := h.bz.cell 1
  have k2 := h.bz.cell 2
  have e1 : rsF (.ok p) = -1 := rfl
  rw [e1] at k2
  have hpl := h.pl
  have HD := Lib.hid h
  clear h e1
  cases b with
  | false =>
    go_enter Try.func61, Try.ntmps61
    go_upto_region 3 with fail
    refine region_gate 17 (fun wx => wx.cell? ⟨Z, 0, none⟩ = some (.slice A 224 c) ∧ wx.cell? ⟨Z, 1, none⟩ = some (.int .i64 (p : Int))) (by kernel_rfl) ?th1 (fun hHeld => ?tk1)
    case th1 => ((try dsimp only); exact ⟨k0, k1⟩)
    refine' takeV 0 (oi := _) (d := _) (v := _) ?ti2 ?td2 (by kernel_rfl) (by kernel_rfl) (by kernel_rfl) (by kernel_rfl) (by decide) (fun _ _ _ _ _ h => h) ?tg2 ?ty2 (by assumption) ?tr2
    case ti2 => (simp only [List.getElem?_toArray, List.getElem?_cons_succ, List.getElem?_cons_zero]; rfl)
    case td2 => exact rfl
    case tg2 => exact rfl
    case ty2 => (intro w hSw; (try dsimp only at hSw); go_split_ands; go_simp; try with_reducible rfl)
    simp only [List.setIfInBounds_toArray, List.set_cons_zero, List.set_cons_succ]
    refine' takeV 1 (oi := _) (d := _) (v := _) ?ti3 ?td3 (by kernel_rfl) (by kernel_rfl) (by kernel_rfl) (by kernel_rfl) (by decide) (fun _ _ _ _ _ h => h) ?tg3 ?ty3 (by assumption) ?tr3
    case ti3 => (simp only [List.getElem?_toArray, List.getElem?_cons_succ, List.getElem?_cons_zero]; rfl)
    case td3 => exact rfl
    case tg3 => exact rfl
    case ty3 => (intro w hSw; (try dsimp only at hSw); go_split_ands; go_simp; try with_reducible rfl)
    simp only [List.setIfInBounds_toArray, List.set_cons_zero, List.set_cons_succ]
    refine' takeV 2 (oi := _) (d := _) (v := _) ?ti4 ?td4 (by kernel_rfl) (by kernel_rfl) (by kernel_rfl) (by kernel_rfl) (by decide) (fun _ _ _ _ _ h => h) ?tg4 ?ty4 (by assumption) ?tr4
    case ti4 => (simp only [List.getElem?_toArray, List.getElem?_cons_succ, List.getElem?_cons_zero]; rfl)
    case td4 => exact rfl
    case tg4 => exact rfl
    case ty4 => (intro w hSw; (try dsimp only at hSw); go_split_ands; go_simp; try with_reducible rfl)
    simp only [List.setIfInBounds_toArray, List.set_cons_zero, List.set_cons_succ]
    refine' takeU 3 (oi := _) (d := _) ?ti5 ?td5 (by kernel_rfl) (by kernel_rfl) (by kernel_rfl) (by decide) (fun _ _ _ _ _ h => h) ?tg5 ?tf5 ?tr5
    case ti5 => (simp only [List.getElem?_toArray, List.getElem?_cons_succ, List.getElem?_cons_zero]; rfl)
    case td5 => exact rfl
    case tg5 => exact rfl
    case tf5 => first | (intro _; assumption) | (intro e; exact absurd e (by decide +kernel))
    simp only [List.setIfInBounds_toArray, List.set_cons_zero, List.set_cons_succ]
    refine' takeU 4 (oi := _) (d := _) ?ti6 ?td6 (by kernel_rfl) (by kernel_rfl) (by kernel_rfl) (by decide) (fun _ _ _ _ _ h => h) ?tg6 ?tf6 ?tr6
    case ti6 => (simp only [List.getElem?_toArray, List.getElem?_cons_succ, List.getElem?_cons_zero]; rfl)
    case td6 => exact rfl
    case tg6 => exact rfl
    case tf6 => first | (intro _; assumption) | (intro e; exact absurd e (by decide +kernel))
    simp only [List.setIfInBounds_toArray, List.set_cons_zero, List.set_cons_succ]
    refine' takeU 5 (oi := _) (d := _) ?ti7 ?td7 (by kernel_rfl) (by kernel_rfl) (by kernel_rfl) (by decide) (fun _ _ _ _ _ h => h) ?tg7 ?tf7 ?tr7
    case ti7 => (simp only [List.getElem?_toArray, List.getElem?_cons_succ, List.getElem?_cons_zero]; rfl)
    case td7 => exact rfl
    case tg7 => exact rfl
    case tf7 => first | (intro _; assumption) | (intro e; exact absurd e (by decide +kernel))
    simp only [List.setIfInBounds_toArray, List.set_cons_zero, List.set_cons_succ]
    refine' takeU 6 (oi := _) (d := _) ?ti8 ?td8 (by kernel_rfl) (by kernel_rfl) (by kernel_rfl) (by decide) (fun _ _ _ _ _ h => h) ?tg8 ?tf8 ?tr8
    case ti8 => (simp only [List.getElem?_toArray, List.getElem?_cons_succ, List.getElem?_cons_zero]; rfl)
    case td8 => exact rfl
    case tg8 => exact rfl
    case tf8 => first | (intro _; assumption) | (intro e; exact absurd e (by decide +kernel))
    simp only [List.setIfInBounds_toArray, List.set_cons_zero, List.set_cons_succ]
    refine' takeU 7 (oi := _) (d := _) ?ti9 ?td9 (by kernel_rfl) (by kernel_rfl) (by kernel_rfl) (by decide) (fun _ _ _ _ _ h => h) ?tg9 ?tf9 ?tr9
    case ti9 => (simp only [List.getElem?_toArray, List.getElem?_cons_succ, List.getElem?_cons_zero]; rfl)
    case td9 => exact rfl
    case tg9 => exact rfl
    case tf9 => first | (intro _; assumption) | (intro e; exact absurd e (by decide +kernel))
    simp only [List.setIfInBounds_toArray, List.set_cons_zero, List.set_cons_succ]
    refine' takeU 8 (oi := _) (d := _) ?ti10 ?td10 (by kernel_rfl) (by kernel_rfl) (by kernel_rfl) (by decide) (fun _ _ _ _ _ h => h) ?tg10 ?tf10 ?tr10
    case ti10 => (simp only [List.getElem?_toArray, List.getElem?_cons_succ, List.getElem?_cons_zero]; rfl)
    case td10 => exact rfl
    case tg10 => exact rfl
    case tf10 => first | (intro _; assumption) | (intro e; exact absurd e (by decide +kernel))
    simp only [List.setIfInBounds_toArray, List.set_cons_zero, List.set_cons_succ]
    refine' takeU 9 (oi := _) (d := _) ?ti11 ?td11 (by kernel_rfl) (by kernel_rfl) (by kernel_rfl) (by decide) (fun _ _ _ _ _ h => h) ?tg11 ?tf11 ?tr11
    case ti11 => (simp only [List.getElem?_toArray, List.getElem?_cons_succ, List.getElem?_cons_zero]; rfl)
    case td11 => exact rfl
    case tg11 => exact rfl
    case tf11 => first | (intro _; assumption) | (intro e; exact absurd e (by decide +kernel))
    simp only [List.setIfInBounds_toArray, List.set_cons_zero, List.set_cons_succ]
    refine' takeU 10 (oi := _) (d := _) ?ti12 ?td12 (by kernel_rfl) (by kernel_rfl) (by kernel_rfl) (by decide) (fun _ _ _ _ _ h => h) ?tg12 ?tf12 ?tr12
    case ti12 => (simp only [List.getElem?_toArray, List.getElem?_cons_succ, List.getElem?_cons_zero]; rfl)
    case td12 => exact rfl
    case tg12 => exact rfl
    case tf12 => first | (intro _; assumption) | (intro e; exact absurd e (by decide +kernel))
    simp only [List.setIfInBounds_toArray, List.set_cons_zero, List.set_cons_succ]
    refine' takeU 11 (oi := _) (d := _) ?ti13 ?td13 (by kernel_rfl) (by kernel_rfl) (by kernel_rfl) (by decide) (fun _ _ _ _ _ h => h) ?tg13 ?tf13 ?tr13
    case ti13 => (simp only [List.getElem?_toArray, List.getElem?_cons_succ, List.getElem?_cons_zero]; rfl)
    case td13 => exact rfl
    case tg13 => exact rfl
    case tf13 => first | (intro _; assumption) | (intro e; exact absurd e (by decide +kernel))
    simp only [List.setIfInBounds_toArray, List.set_cons_zero, List.set_cons_succ]
    refine' takeU 12 (oi := _) (d := _) ?ti14 ?td14 (by kernel_rfl) (by kernel_rfl) (by kernel_rfl) (by decide) (fun _ _ _ _ _ h => h) ?tg14 ?tf14 ?tr14
    case ti14 => (simp only [List.getElem?_toArray, List.getElem?_cons_succ, List.getElem?_cons_zero]; rfl)
    case td14 => exact rfl
    case tg14 => exact rfl
    case tf14 => first | (intro _; assumption) | (intro e; exact absurd e (by decide +kernel))
    simp only [List.setIfInBounds_toArray, List.set_cons_zero, List.set_cons_succ]
    refine' takeU 13 (oi := _) (d := _) ?ti15 ?td15 (by kernel_rfl) (by kernel_rfl) (by kernel_rfl) (by decide) (fun _ _ _ _ _ h => h) ?tg15 ?tf15 ?tr15
    case ti15 => (simp only [List.getElem?_toArray, List.getElem?_cons_succ, List.getElem?_cons_zero]; rfl)
    case td15 => exact rfl
    case tg15 => exact rfl
    case tf15 => first | (intro _; assumption) | (intro e; exact absurd e (by decide +kernel))
    simp only [List.setIfInBounds_toArray, List.set_cons_zero, List.set_cons_succ]
    refine' takeU 14 (oi := _) (d := _) ?ti16 ?td16 (by kernel_rfl) (by kernel_rfl) (by kernel_rfl) (by decide) (fun _ _ _ _ _ h => h) ?tg16 ?tf16 ?tr16
    case ti16 => (simp only [List.getElem?_toArray, List.getElem?_cons_succ, List.getElem?_cons_zero]; rfl)
    case td16 => exact rfl
    case tg16 => exact rfl
    case tf16 => first | (intro _; assumption) | (intro e; exact absurd e (by decide +kernel))
    simp only [List.setIfInBounds_toArray, List.set_cons_zero, List.set_cons_succ]
    refine' takeU 15 (oi := _) (d := _) ?ti17 ?td17 (by kernel_rfl) (by kernel_rfl) (by kernel_rfl) (by decide) (fun _ _ _ _ _ h => h) ?tg17 ?tf17 ?tr17
    case ti17 => (simp only [List.getElem?_toArray, List.getElem?_cons_succ, List.getElem?_cons_zero]; rfl)
    case td17 => exact rfl
    case tg17 => exact rfl
    case tf17 => first | (intro _; assumption) | (intro e; exact absurd e (by decide +kernel))
    simp only [List.setIfInBounds_toArray, List.set_cons_zero, List.set_cons_succ]
    refine' takeV 16 (oi := _) (d := _) (v := _) ?ti18 ?td18 (by kernel_rfl) (by kernel_rfl) (by kernel_rfl) (by kernel_rfl) (by decide) (fun _ _ _ _ _ h => h) ?tg18 ?ty18 (by assumption) ?tr18
    case ti18 => (simp only [List.getElem?_toArray, List.getElem?_cons_succ, List.getElem?_cons_zero]; rfl)
    case td18 => exact rfl
    case tg18 => exact rfl
    case ty18 => (intro w hSw; (try dsimp only at hSw); go_split_ands; go_simp; try with_reducible rfl)
    simp only [List.setIfInBounds_toArray, List.set_cons_zero, List.set_cons_succ]
    obtain ⟨V0, hV0⟩ : ∃ V0, V0 = w.drew := ⟨_, rfl⟩
    have B0 : Below w.heap.size w V0 := by rw [hV0]; exact (Below.refl _ _).drew
    rw [← hV0]
    clear hV0 hHeld
    have HD0 := Lib.hid (HD.out.below B0)
    have HG0 : Hid (w.grownBy V0 (some Z)) := gz_of B0 _
    have k1 := HD0.out.bz.cell 1
    have k2 := HD0.out.bz.cell 2
    have f2 := HD0.out.bz.frozen 2
    clear B0
    refine doneG (by kernel_rfl) ?_ _
    go_wp2_with fail
    go_ret
    exact ⟨rfl, HD0.out.fault p, gz_set HG0.out (.inl rfl) _⟩
  | true =>
    have hb2 : 224 < p + 1 + v := by rcases hb with hb | hb; cases hb; exact hb
    have i1 : (p : Int) + 1 + (v : Int) > 224 := by omega
    have i2 : decide ((p : Int) + 1 + (v : Int) > 224) = true := decide_eq_true i1
    have i3 : decide ((224 : Int) < (p : Int) + 1 + (v : Int)) = true := decide_eq_true i1
    have w1 : IntKind.i64.wrap ((p : Int) + 1) = (p : Int) + 1 := IntWalk.i64_in _ (by omega)
    have w2 : IntKind.i64.wrap ((p : Int) + 1 + (v : Int)) = (p : Int) + 1 + (v : Int) := IntWalk.i64_in _ (by omega)
    clear hb hb2
    go_enter Try.func61, Try.ntmps61
    go_upto_region 3 with fail
    refine region_gate 17 (fun wx => wx.cell? ⟨Z, 0, none⟩ = some (.slice A 224 c) ∧ wx.cell? ⟨Z, 1, none⟩ = some (.int .i64 (p : Int))) (by kernel_rfl) ?th19 (fun hHeld => ?tk19)
    case th19 => ((try dsimp only); exact ⟨k0, k1⟩)
    refine' takeV 0 (oi := _) (d := _) (v := _) ?ti20 ?td20 (by kernel_rfl) (by kernel_rfl) (by kernel_rfl) (by kernel_rfl) (by decide) (fun _ _ _ _ _ h => h) ?tg20 ?ty20 (by assumption) ?tr20
    case ti20 => (simp only [List.getElem?_toArray, List.getElem?_cons_succ, List.getElem?_cons_zero]; rfl)
    case td20 => exact rfl
    case tg20 => exact rfl
    case ty20 => (intro w hSw; (try dsimp only at hSw); go_split_ands; go_simp; try with_reducible rfl)
    simp only [List.setIfInBounds_toArray, List.set_cons_zero, List.set_cons_succ]
    refine' takeV 1 (oi := _) (d := _) (v := _) ?ti21 ?td21 (by kernel_rfl) (by kernel_rfl) (by kernel_rfl) (by kernel_rfl) (by decide) (fun _ _ _ _ _ h => h) ?tg21 ?ty21 (by assumption) ?tr21
    case ti21 => (simp only [List.getElem?_toArray, List.getElem?_cons_succ, List.getElem?_cons_zero]; rfl)
    case td21 => exact rfl
    case tg21 => exact rfl
    case ty21 => (intro w hSw; (try dsimp only at hSw); go_split_ands; go_simp; try with_reducible rfl)
    simp only [List.setIfInBounds_toArray, List.set_cons_zero, List.set_cons_succ]
    refine' takeV 2 (oi := _) (d := _) (v := _) ?ti22 ?td22 (by kernel_rfl) (by kernel_rfl) (by kernel_rfl) (by kernel_rfl) (by decide) (fun _ _ _ _ _ h => h) ?tg22 ?ty22 (by assumption) ?tr22
    case ti22 => (simp only [List.getElem?_toArray, List.getElem?_cons_succ, List.getElem?_cons_zero]; rfl)
    case td22 => exact rfl
    case tg22 => exact rfl
    case ty22 => (intro w hSw; (try dsimp only at hSw); go_split_ands; go_simp; try with_reducible rfl)
    simp only [List.setIfInBounds_toArray, List.set_cons_zero, List.set_cons_succ]
    refine' takeVg 3 (oi := _) (d := _) (v := _) ?ti23 ?td23 (by kernel_rfl) (by kernel_rfl) (by kernel_rfl) (by kernel_rfl) (by decide) (fun _ _ _ _ _ h => h) ?tg23 ?ty23 (by assumption) ?tr23
    case ti23 => (simp only [List.getElem?_toArray, List.getElem?_cons_succ, List.getElem?_cons_zero]; rfl)
    case td23 => exact rfl
    case tg23 => exact rfl
    case ty23 => (intro w hSw; (try dsimp only at hSw); go_split_ands; go_simp; try with_reducible rfl)
    simp only [List.setIfInBounds_toArray, List.set_cons_zero, List.set_cons_succ]
    refine' takeVg 4 (oi := _) (d := _) (v := _) ?ti24 ?td24 (by kernel_rfl) (by kernel_rfl) (by kernel_rfl) (by kernel_rfl) (by decide) (fun _ _ _ _ _ h => h) ?tg24 ?ty24 (by assumption) ?tr24
    case ti24 => (simp only [List.getElem?_toArray, List.getElem?_cons_succ, List.getElem?_cons_zero]; rfl)
    case td24 => exact rfl
    case tg24 => exact rfl
    case ty24 => (intro w hSw; (try dsimp only at hSw); go_split_ands; go_simp; try with_reducible rfl)
    simp only [List.setIfInBounds_toArray, List.set_cons_zero, List.set_cons_succ]
    refine' takeVg 5 (oi := _) (d := _) (v := _) ?ti25 ?td25 (by kernel_rfl) (by kernel_rfl) (by kernel_rfl) (by kernel_rfl) (by decide) (fun _ _ _ _ _ h => h) ?tg25 ?ty25 (by assumption) ?tr25
    case ti25 => (simp only [List.getElem?_toArray, List.getElem?_cons_succ, List.getElem?_cons_zero]; rfl)
    case td25 => exact rfl
    case tg25 => exact rfl
    case ty25 => (intro w hSw; (try dsimp only at hSw); go_split_ands; go_simp; try with_reducible rfl)
    simp only [List.setIfInBounds_toArray, List.set_cons_zero, List.set_cons_succ]
    refine' takeVg 6 (oi := _) (d := _) (v := _) ?ti26 ?td26 (by kernel_rfl) (by kernel_rfl) (by kernel_rfl) (by kernel_rfl) (by decide) (fun _ _ _ _ _ h => h) ?tg26 ?ty26 (by assumption) ?tr26
    case ti26 => (simp only [List.getElem?_toArray, List.getElem?_cons_succ, List.getElem?_cons_zero]; rfl)
    case td26 => exact rfl
    case tg26 => exact rfl
    case ty26 => (intro w hSw; (try dsimp only at hSw); go_split_ands; go_simp; try with_reducible rfl)
    simp only [List.setIfInBounds_toArray, List.set_cons_zero, List.set_cons_succ]
    refine' takeVg 7 (oi := _) (d := _) (v := _) ?ti27 ?td27 (by kernel_rfl) (by kernel_rfl) (by kernel_rfl) (by kernel_rfl) (by decide) (fun _ _ _ _ _ h => h) ?tg27 ?ty27 (by assumption) ?tr27
    case ti27 => (simp only [List.getElem?_toArray, List.getElem?_cons_succ, List.getElem?_cons_zero]; rfl)
    case td27 => exact rfl
    case tg27 => exact rfl
    case ty27 => (intro w hSw; (try dsimp only at hSw); go_split_ands; go_simp; try with_reducible rfl)
    simp only [List.setIfInBounds_toArray, List.set_cons_zero, List.set_cons_succ]
    refine' takeVg 8 (oi := _) (d := _) (v := _) ?ti28 ?td28 (by kernel_rfl) (by kernel_rfl) (by kernel_rfl) (by kernel_rfl) (by decide) (fun _ _ _ _ _ h => h) ?tg28 ?ty28 (by assumption) ?tr28
    case ti28 => (simp only [List.getElem?_toArray, List.getElem?_cons_succ, List.getElem?_cons_zero]; rfl)
    case td28 => exact rfl
    case tg28 => exact rfl
    case ty28 => (intro w hSw; (try dsimp only at hSw); go_split_ands; go_simp; try with_reducible rfl)
    simp only [List.setIfInBounds_toArray, List.set_cons_zero, List.set_cons_succ]
    refine' takeVg 9 (oi := _) (d := _) (v := _) ?ti29 ?td29 (by kernel_rfl) (by kernel_rfl) (by kernel_rfl) (by kernel_rfl) (by decide) (fun _ _ _ _ _ h => h) ?tg29 ?ty29 (by assumption) ?tr29
    case ti29 => (simp only [List.getElem?_toArray, List.getElem?_cons_succ, List.getElem?_cons_zero]; rfl)
    case td29 => exact rfl
    case tg29 => exact rfl
    case ty29 => (intro w hSw; (try dsimp only at hSw); go_split_ands; go_simp; try with_reducible rfl)
    simp only [List.setIfInBounds_toArray, List.set_cons_zero, List.set_cons_succ]
    refine' takeVg 10 (oi := _) (d := _) (v := _) ?ti30 ?td30 (by kernel_rfl) (by kernel_rfl) (by kernel_rfl) (by kernel_rfl) (by decide) (fun _ _ _ _ _ h => h) ?tg30 ?ty30 (by assumption) ?tr30
    case ti30 => (simp only [List.getElem?_toArray, List.getElem?_cons_succ, List.getElem?_cons_zero]; rfl)
    case td30 => exact rfl
    case tg30 => exact rfl
    case ty30 => (intro w hSw; (try dsimp only at hSw); go_split_ands; go_simp; try with_reducible rfl)
    simp only [List.setIfInBounds_toArray, List.set_cons_zero, List.set_cons_succ]
    refine' takeVg 11 (oi := _) (d := _) (v := _) ?ti31 ?td31 (by kernel_rfl) (by kernel_rfl) (by kernel_rfl) (by kernel_rfl) (by decide) (fun _ _ _ _ _ h => h) ?tg31 ?ty31 (by assumption) ?tr31
    case ti31 => (simp only [List.getElem?_toArray, List.getElem?_cons_succ, List.getElem?_cons_zero]; rfl)
    case td31 => exact rfl
    case tg31 => exact rfl
    case ty31 => (intro w hSw; (try dsimp only at hSw); go_split_ands; go_simp; try with_reducible rfl)
    simp only [List.setIfInBounds_toArray, List.set_cons_zero, List.set_cons_succ]
    refine' takeVg 12 (oi := _) (d := _) (v := _) ?ti32 ?td32 (by kernel_rfl) (by kernel_rfl) (by kernel_rfl) (by kernel_rfl) (by decide) (fun _ _ _ _ _ h => h) ?tg32 ?ty32 (by assumption) ?tr32
    case ti32 => (simp only [List.getElem?_toArray, List.getElem?_cons_succ, List.getElem?_cons_zero]; rfl)
    case td32 => exact rfl
    case tg32 => exact rfl
    case ty32 => (intro w hSw; (try dsimp only at hSw); go_split_ands; go_simp; try with_reducible rfl)
    simp only [List.setIfInBounds_toArray, List.set_cons_zero, List.set_cons_succ]
    refine' takeVg 13 (oi := _) (d := _) (v := _) ?ti33 ?td33 (by kernel_rfl) (by kernel_rfl) (by kernel_rfl) (by kernel_rfl) (by decide) (fun _ _ _ _ _ h => h) ?tg33 ?ty33 (by assumption) ?tr33
    case ti33 => (simp only [List.getElem?_toArray, List.getElem?_cons_succ, List.getElem?_cons_zero]; rfl)
    case td33 => exact rfl
    case tg33 => exact rfl
    case ty33 => (intro w hSw; (try dsimp only at hSw); go_split_ands; go_simp; try with_reducible rfl)
    simp only [List.setIfInBounds_toArray, List.set_cons_zero, List.set_cons_succ]
    refine' takeVg 14 (oi := _) (d := _) (v := _) ?ti34 ?td34 (by kernel_rfl) (by kernel_rfl) (by kernel_rfl) (by kernel_rfl) (by decide) (fun _ _ _ _ _ h => h) ?tg34 ?ty34 (by assumption) ?tr34
    case ti34 => (simp only [List.getElem?_toArray, List.getElem?_cons_succ, List.getElem?_cons_zero]; rfl)
    case td34 => exact rfl
    case tg34 => exact rfl
    case ty34 => (intro w hSw; (try dsimp only at hSw); go_split_ands; go_simp; try with_reducible rfl)
    simp only [List.setIfInBounds_toArray, List.set_cons_zero, List.set_cons_succ]
    refine' takeVg 15 (oi := _) (d := _) (v := _) ?ti35 ?td35 (by kernel_rfl) (by kernel_rfl) (by kernel_rfl) (by kernel_rfl) (by decide) (fun _ _ _ _ _ h => h) ?tg35 ?ty35 (by assumption) ?tr35
    case ti35 => (simp only [List.getElem?_toArray, List.getElem?_cons_succ, List.getElem?_cons_zero]; rfl)
    case td35 => exact rfl
    case tg35 => exact rfl
    case ty35 => (intro w hSw; (try dsimp only at hSw); go_split_ands; go_simp; try with_reducible rfl)
    simp only [List.setIfInBounds_toArray, List.set_cons_zero, List.set_cons_succ]
    refine' takeV 16 (oi := _) (d := _) (v := _) ?ti36 ?td36 (by kernel_rfl) (by kernel_rfl) (by kernel_rfl) (by kernel_rfl) (by decide) (fun _ _ _ _ _ h => h) ?tg36 ?ty36 (by assumption) ?tr36
    case ti36 => (simp only [List.getElem?_toArray, List.getElem?_cons_succ, List.getElem?_cons_zero]; rfl)
    case td36 => exact rfl
    case tg36 => exact rfl
    case ty36 => (intro w hSw; (try dsimp only at hSw); go_split_ands; go_simp; try with_reducible rfl)
    simp only [List.setIfInBounds_toArray, List.set_cons_zero, List.set_cons_succ]
    obtain ⟨V0, hV0⟩ : ∃ V0, V0 = w.drew := ⟨_, rfl⟩
    have B0 : Below w.heap.size w V0 := by rw [hV0]; exact (Below.refl _ _).drew
    rw [← hV0]
    clear hV0 hHeld
    have HD0 := Lib.hid (HD.out.below B0)
    have HG0 : Hid (w.grownBy V0 (some Z)) := gz_of B0 _
    have k1 := HD0.out.bz.cell 1
    have k2 := HD0.out.bz.cell 2
    have f2 := HD0.out.bz.frozen 2
    clear B0
    refine doneG (by kernel_rfl) ?_ _
    go_wp2_with fail
    go_ret
    exact ⟨rfl, HD0.out.fault p, gz_set HG0.out (.inl rfl) _⟩
set_option maxRecDepth 100000 in
set_option maxHeartbeats 3200000 in
theorem rtext_yes (Z : Nat) (A : Option Addr) (c : Nat) (l : List UInt8) (p v : Nat) (w : World) (h : RDS w Z A c l (.ok p) p) (hb : p + 1 + v ≤ 224) :
    Calls Try.prog 61 #[rptr Z, .bool true, .int .i64 (v : Int)] w fun e w' => ∃ A' c', e = .returned (.slice A' v c') ∧ Own w' w.heap.size A' v c' ((l.drop (p + 1)).take v) ∧ RDS w' Z A c l (.ok (p + 1 + v)) (p + 1 + v) ∧ w.grownBy w' (some Z) := by
  have k0 := h.bz.cell 0
  have k1 := h.bz.cell 1
  have k2 := h.bz.cell 2
  have e1 : rsF (.ok p) = -1 := rfl
  rw [e1] at k2
  have hpl := h.pl
  have HD := Lib.hid h
  clear h e1
  have i1 : ¬ ((p : Int) + 1 + (v : Int) > 224) := by omega
  have i2 : decide ((p : Int) + 1 + (v : Int) > 224) = false := decide_eq_false i1
  have i3 : decide ((224 : Int) < (p : Int) + 1 + (v : Int)) = false := decide_eq_false i1
  have w1 : IntKind.i64.wrap ((p : Int) + 1) = (p : Int) + 1 := IntWalk.i64_in _ (by omega)
  have w2 : IntKind.i64.wrap ((p : Int) + 1 + (v : Int)) = (p : Int) + 1 + (v : Int) := IntWalk.i64_in _ (by omega)
  obtain ⟨b, o, rfl, _⟩ := HD.out.rd.at_ (by omega)
  have hcap := HD.out.rd.cap
  have hmax := HD.out.rd.max
  unfold maxLen at hmax
  go_enter Try.func61, Try.ntmps61
  go_upto_region 3 with fail
  refine region_gate 17 (fun wx => wx.cell? ⟨Z, 0, none⟩ = some (.slice (some ⟨b, o, none⟩) 224 c) ∧ wx.cell? ⟨Z, 1, none⟩ = some (.int .i64 (p : Int))) (by kernel_rfl) ?th37 (fun hHeld => ?tk37)
  case th37 => ((try dsimp only); exact ⟨k0, k1⟩)
  refine' takeV 0 (oi := _) (d := _) (v := _) ?ti38 ?td38 (by kernel_rfl) (by kernel_rfl) (by kernel_rfl) (by kernel_rfl) (by decide) (fun _ _ _ _ _ h => h) ?tg38 ?ty38 (by assumption) ?tr38
  case ti38 => (simp only [List.getElem?_toArray, List.getElem?_cons_succ, List.getElem?_cons_zero]; rfl)
  case td38 => exact rfl
  case tg38 => exact rfl
  case ty38 => (intro w hSw; (try dsimp only at hSw); go_split_ands; go_simp; try with_reducible rfl)
  simp only [List.setIfInBounds_toArray, List.set_cons_zero, List.set_cons_succ]
  refine' takeV 1 (oi := _) (d := _) (v := _) ?ti39 ?td39 (by kernel_rfl) (by kernel_rfl) (by kernel_rfl) (by kernel_rfl) (by decide) (fun _ _ _ _ _ h => h) ?tg39 ?ty39 (by assumption) ?tr39
  case ti39 => (simp only [List.getElem?_toArray, List.getElem?_cons_succ, List.getElem?_cons_zero]; rfl)
  case td39 => exact rfl
  case tg39 => exact rfl
  case ty39 => (intro w hSw; (try dsimp only at hSw); go_split_ands; go_simp; try with_reducible rfl)
  simp only [List.setIfInBounds_toArray, List.set_cons_zero, List.set_cons_succ]
  refine' takeV 2 (oi := _) (d := _) (v := _) ?ti40 ?td40 (by kernel_rfl) (by kernel_rfl) (by kernel_rfl) (by kernel_rfl) (by decide) (fun _ _ _ _ _ h => h) ?tg40 ?ty40 (by assumption) ?tr40
  case ti40 => (simp only [List.getElem?_toArray, List.getElem?_cons_succ, List.getElem?_cons_zero]; rfl)
  case td40 => exact rfl
  case tg40 => exact rfl
  case ty40 => (intro w hSw; (try dsimp only at hSw); go_split_ands; go_simp; try with_reducible rfl)
  simp only [List.setIfInBounds_toArray, List.set_cons_zero, List.set_cons_succ]
  refine' takeVg 3 (oi := _) (d := _) (v := _) ?ti41 ?td41 (by kernel_rfl) (by kernel_rfl) (by kernel_rfl) (by kernel_rfl) (by decide) (fun _ _ _ _ _ h => h) ?tg41 ?ty41 (by assumption) ?tr41
  case ti41 => (simp only [List.getElem?_toArray, List.getElem?_cons_succ, List.getElem?_cons_zero]; rfl)
  case td41 => exact rfl
  case tg41 => exact rfl
  case ty41 => (intro w hSw; (try dsimp only at hSw); go_split_ands; go_simp; try with_reducible rfl)
  simp only [List.setIfInBounds_toArray, List.set_cons_zero, List.set_cons_succ]
  refine' takeVg 4 (oi := _) (d := _) (v := _) ?ti42 ?td42 (by kernel_rfl) (by kernel_rfl) (by kernel_rfl) (by kernel_rfl) (by decide) (fun _ _ _ _ _ h => h) ?tg42 ?ty42 (by assumption) ?tr42
  case ti42 => (simp only [List.getElem?_toArray, List.getElem?_cons_succ, List.getElem?_cons_zero]; rfl)
  case td42 => exact rfl
  case tg42 => exact rfl
  case ty42 => (intro w hSw; (try dsimp only at hSw); go_split_ands; go_simp; try with_reducible rfl)
  simp only [List.setIfInBounds_toArray, List.set_cons_zero, List.set_cons_succ]
  refine' takeVg 5 (oi := _) (d := _) (v := _) ?ti43 ?td43 (by kernel_rfl) (by kernel_rfl) (by kernel_rfl) (by kernel_rfl) (by decide) (fun _ _ _ _ _ h => h) ?tg43 ?ty43 (by assumption) ?tr43
  case ti43 => (simp only [List.getElem?_toArray, List.getElem?_cons_succ, List.getElem?_cons_zero]; rfl)
  case td43 => exact rfl
  case tg43 => exact rfl
  case ty43 => (intro w hSw; (try dsimp only at hSw); go_split_ands; go_simp; try with_reducible rfl)
  simp only [List.setIfInBounds_toArray, List.set_cons_zero, List.set_cons_succ]
  refine' takeVg 6 (oi := _) (d := _) (v := _) ?ti44 ?td44 (by kernel_rfl) (by kernel_rfl) (by kernel_rfl) (by kernel_rfl) (by decide) (fun _ _ _ _ _ h => h) ?tg44 ?ty44 (by assumption) ?tr44
  case ti44 => (simp only [List.getElem?_toArray, List.getElem?_cons_succ, List.getElem?_cons_zero]; rfl)
  case td44 => exact rfl
  case tg44 => exact rfl
  case ty44 => (intro w hSw; (try dsimp only at hSw); go_split_ands; go_simp; try with_reducible rfl)
  simp only [List.setIfInBounds_toArray, List.set_cons_zero, List.set_cons_succ]
  refine' takeVg 7 (oi := _) (d := _) (v := _) ?ti45 ?td45 (by kernel_rfl) (by kernel_rfl) (by kernel_rfl) (by kernel_rfl) (by decide) (fun _ _ _ _ _ h => h) ?tg45 ?ty45 (by assumption) ?tr45
  case ti45 => (simp only [List.getElem?_toArray, List.getElem?_cons_succ, List.getElem?_cons_zero]; rfl)
  case td45 => exact rfl
  case tg45 => exact rfl
  case ty45 => (intro w hSw; (try dsimp only at hSw); go_split_ands; go_simp; try with_reducible rfl)
  simp only [List.setIfInBounds_toArray, List.set_cons_zero, List.set_cons_succ]
  refine' takeVg 8 (oi := _) (d := _) (v := _) ?ti46 ?td46 (by kernel_rfl) (by kernel_rfl) (by kernel_rfl) (by kernel_rfl) (by decide) (fun _ _ _ _ _ h => h) ?tg46 ?ty46 (by assumption) ?tr46
  case ti46 => (simp only [List.getElem?_toArray, List.getElem?_cons_succ, List.getElem?_cons_zero]; rfl)
  case td46 => exact rfl
  case tg46 => exact rfl
  case ty46 => (intro w hSw; (try dsimp only at hSw); go_split_ands; go_simp; try with_reducible rfl)
  simp only [List.setIfInBounds_toArray, List.set_cons_zero, List.set_cons_succ]
  refine' takeVg 9 (oi := _) (d := _) (v := _) ?ti47 ?td47 (by kernel_rfl) (by kernel_rfl) (by kernel_rfl) (by kernel_rfl) (by decide) (fun _ _ _ _ _ h => h) ?tg47 ?ty47 (by assumption) ?tr47
  case ti47 => (simp only [List.getElem?_toArray, List.getElem?_cons_succ, List.getElem?_cons_zero]; rfl)
  case td47 => exact rfl
  case tg47 => exact rfl
  case ty47 => (intro w hSw; (try dsimp only at hSw); go_split_ands; go_simp; try with_reducible rfl)
  simp only [List.setIfInBounds_toArray, List.set_cons_zero, List.set_cons_succ]
  refine' takeVg 10 (oi := _) (d := _) (v := _) ?ti48 ?td48 (by kernel_rfl) (by kernel_rfl) (by kernel_rfl) (by kernel_rfl) (by decide) (fun _ _ _ _ _ h => h) ?tg48 ?ty48 (by assumption) ?tr48
  case ti48 => (simp only [List.getElem?_toArray, List.getElem?_cons_succ, List.getElem?_cons_zero]; rfl)
  case td48 => exact rfl
  case tg48 => exact rfl
  case ty48 => (intro w hSw; (try dsimp only at hSw); go_split_ands; go_simp; try with_reducible rfl)
  simp only [List.setIfInBounds_toArray, List.set_cons_zero, List.set_cons_succ]
  refine' takeVg 11 (oi := _) (d := _) (v := _) ?ti49 ?td49 (by kernel_rfl) (by kernel_rfl) (by kernel_rfl) (by kernel_rfl) (by decide) (fun _ _ _ _ _ h => h) ?tg49 ?ty49 (by assumption) ?tr49
  case ti49 => (simp only [List.getElem?_toArray, List.getElem?_cons_succ, List.getElem?_cons_zero]; rfl)
  case td49 => exact rfl
  case tg49 => exact rfl
  case ty49 => (intro w hSw; (try dsimp only at hSw); go_split_ands; go_simp; try with_reducible rfl)
  simp only [List.setIfInBounds_toArray, List.set_cons_zero, List.set_cons_succ]
  refine' takeVg 12 (oi := _) (d := _) (v := _) ?ti50 ?td50 (by kernel_rfl) (by kernel_rfl) (by kernel_rfl) (by kernel_rfl) (by decide) (fun _ _ _ _ _ h => h) ?tg50 ?ty50 (by assumption) ?tr50
  case ti50 => (simp only [List.getElem?_toArray, List.getElem?_cons_succ, List.getElem?_cons_zero]; rfl)
  case td50 => exact rfl
  case tg50 => exact rfl
  case ty50 => (intro w hSw; (try dsimp only at hSw); go_split_ands; go_simp; try with_reducible rfl)
  simp only [List.setIfInBounds_toArray, List.set_cons_zero, List.set_cons_succ]
  refine' takeVg 13 (oi := _) (d := _) (v := _) ?ti51 ?td51 (by kernel_rfl) (by kernel_rfl) (by kernel_rfl) (by kernel_rfl) (by decide) (fun _ _ _ _ _ h => h) ?tg51 ?ty51 (by assumption) ?tr51
  case ti51 => (simp only [List.getElem?_toArray, List.getElem?_cons_succ, List.getElem?_cons_zero]; rfl)
  case td51 => exact rfl
  case tg51 => exact rfl
  case ty51 => (intro w hSw; (try dsimp only at hSw); go_split_ands; go_simp; try with_reducible rfl)
  simp only [List.setIfInBounds_toArray, List.set_cons_zero, List.set_cons_succ]
  refine' takeVg 14 (oi := _) (d := _) (v := _) ?ti52 ?td52 (by kernel_rfl) (by kernel_rfl) (by kernel_rfl) (by kernel_rfl) (by decide) (fun _ _ _ _ _ h => h) ?tg52 ?ty52 (by assumption) ?tr52
  case ti52 => (simp only [List.getElem?_toArray, List.getElem?_cons_succ, List.getElem?_cons_zero]; rfl)
  case td52 => exact rfl
  case tg52 => exact rfl
  case ty52 => (intro w hSw; (try dsimp only at hSw); go_split_ands; go_simp; try with_reducible rfl)
  simp only [List.setIfInBounds_toArray, List.set_cons_zero, List.set_cons_succ]
  refine' takeVg 15 (oi := _) (d := _) (v := _) ?ti53 ?td53 (by kernel_rfl) (by kernel_rfl) (by kernel_rfl) (by kernel_rfl) (by decide) (fun _ _ _ _ _ h => h) ?tg53 ?ty53 (by assumption) ?tr53
  case ti53 => (simp only [List.getElem?_toArray, List.getElem?_cons_succ, List.getElem?_cons_zero]; rfl)
  case td53 => exact rfl
  case tg53 => exact rfl
  case ty53 => (intro w hSw; (try dsimp only at hSw); go_split_ands; go_simp; try with_reducible rfl)
  simp only [List.setIfInBounds_toArray, List.set_cons_zero, List.set_cons_succ]
  refine' takeV 16 (oi := _) (d := _) (v := _) ?ti54 ?td54 (by kernel_rfl) (by kernel_rfl) (by kernel_rfl) (by kernel_rfl) (by decide) (fun _ _ _ _ _ h => h) ?tg54 ?ty54 (by assumption) ?tr54
  case ti54 => (simp only [List.getElem?_toArray, List.getElem?_cons_succ, List.getElem?_cons_zero]; rfl)
  case td54 => exact rfl
  case tg54 => exact rfl
  case ty54 => (intro w hSw; (try dsimp only at hSw); go_split_ands; go_simp; try with_reducible rfl)
  simp only [List.setIfInBounds_toArray, List.set_cons_zero, List.set_cons_succ]
  obtain ⟨V0, hV0⟩ : ∃ V0, V0 = w.drew := ⟨_, rfl⟩
  have B0 : Below w.heap.size w V0 := by rw [hV0]; exact (Below.refl _ _).drew
  rw [← hV0]
  clear hV0 hHeld
  have HD0 := Lib.hid (HD.out.below B0)
  have HG0 : Hid (w.grownBy V0 (some Z)) := gz_of B0 _
  have k0 := HD0.out.bz.cell 0
  have k1 := HD0.out.bz.cell 1
  have hv0 := B0.size
  clear B0
  refine doneG (by kernel_rfl) ?_ _
  go_upto_region 6 with fail
  have j1 : (0 : Int) ≤ (p : Int) + 1 := by omega
  have j2 : (0 : Int) ≤ (p : Int) + 1 + (v : Int) := by omega
  have j3 : (p : Int) + 1 + (v : Int) ≤ (c : Int) := by omega
  have j4 : ((p : Int) + 1).toNat = p + 1 := by omega
  have j5 : ((p : Int) + 1 + (v : Int)).toNat = p + 1 + v := by omega
  have j6 : p + 1 ≤ p + 1 + v := by omega
  have j7 : p + 1 + v - (p + 1) = v := by omega
  have j8 : (p : Int) + 1 ≤ (p : Int) + 1 + (v : Int) := by omega
  refine region_gate 19 (fun wx => wx.cell? ⟨Z, 0, none⟩ = some (.slice (some ⟨b, o, none⟩) 224 c) ∧ wx.cell? ⟨Z, 1, none⟩ = some (.int .i64 (p : Int))) (by kernel_rfl) ?th55 (fun hHeld => ?tk55)
  case th55 => ((try dsimp only); exact ⟨k0, k1⟩)
  refine' takeV 0 (oi := _) (d := _) (v := _) ?ti56 ?td56 (by kernel_rfl) (by kernel_rfl) (by kernel_rfl) (by kernel_rfl) (by decide) (fun _ _ _ _ _ h => h) ?tg56 ?ty56 (by assumption) ?tr56
  case ti56 => (simp only [List.getElem?_toArray, List.getElem?_cons_succ, List.getElem?_cons_zero]; rfl)
  case td56 => exact rfl
  case tg56 => exact rfl
  case ty56 => (intro w hSw; (try dsimp only at hSw); go_split_ands; go_simp; try with_reducible rfl)
  simp only [List.setIfInBounds_toArray, List.set_cons_zero, List.set_cons_succ]
  refine' takeV 1 (oi := _) (d := _) (v := _) ?ti57 ?td57 (by kernel_rfl) (by kernel_rfl) (by kernel_rfl) (by kernel_rfl) (by decide) (fun _ _ _ _ _ h => h) ?tg57 ?ty57 (by assumption) ?tr57
  case ti57 => (simp only [List.getElem?_toArray, List.getElem?_cons_succ, List.getElem?_cons_zero]; rfl)
  case td57 => exact rfl
  case tg57 => exact rfl
  case ty57 => (intro w hSw; (try dsimp only at hSw); go_split_ands; go_simp; try with_reducible rfl)
  simp only [List.setIfInBounds_toArray, List.set_cons_zero, List.set_cons_succ]
  refine' takeV 2 (oi := _) (d := _) (v := _) ?ti58 ?td58 (by kernel_rfl) (by kernel_rfl) (by kernel_rfl) (by kernel_rfl) (by decide) (fun _ _ _ _ _ h => h) ?tg58 ?ty58 (by assumption) ?tr58
  case ti58 => (simp only [List.getElem?_toArray, List.getElem?_cons_succ, List.getElem?_cons_zero]; rfl)
  case td58 => exact rfl
  case tg58 => exact rfl
  case ty58 => (intro w hSw; (try dsimp only at hSw); go_split_ands; go_simp; try with_reducible rfl)
  simp only [List.setIfInBounds_toArray, List.set_cons_zero, List.set_cons_succ]
  refine' takeV 3 (oi := _) (d := _) (v := _) ?ti59 ?td59 (by kernel_rfl) (by kernel_rfl) (by kernel_rfl) (by kernel_rfl) (by decide) (fun _ _ _ _ _ h => h) ?tg59 ?ty59 (by assumption) ?tr59
  case ti59 => (simp only [List.getElem?_toArray, List.getElem?_cons_succ, List.getElem?_cons_zero]; rfl)
  case td59 => exact rfl
  case tg59 => exact rfl
  case ty59 => (intro w hSw; (try dsimp only at hSw); go_split_ands; go_simp; try with_reducible rfl)
  simp only [List.setIfInBounds_toArray, List.set_cons_zero, List.set_cons_succ]
  refine' takeV 4 (oi := _) (d := _) (v := _) ?ti60 ?td60 (by kernel_rfl) (by kernel_rfl) (by kernel_rfl) (by kernel_rfl) (by decide) (fun _ _ _ _ _ h => h) ?tg60 ?ty60 (by assumption) ?tr60
  case ti60 => (simp only [List.getElem?_toArray, List.getElem?_cons_succ, List.getElem?_cons_zero]; rfl)
  case td60 => exact rfl
  case tg60 => exact rfl
  case ty60 => (intro w hSw; (try dsimp only at hSw); go_split_ands; go_simp; try with_reducible rfl)
  simp only [List.setIfInBounds_toArray, List.set_cons_zero, List.set_cons_succ]
  refine' takeV 5 (oi := _) (d := _) (v := _) ?ti61 ?td61 (by kernel_rfl) (by kernel_rfl) (by kernel_rfl) (by kernel_rfl) (by decide) (fun _ _ _ _ _ h => h) ?tg61 ?ty61 (by assumption) ?tr61
  case ti61 => (simp only [List.getElem?_toArray, List.getElem?_cons_succ, List.getElem?_cons_zero]; rfl)
  case td61 => exact rfl
  case tg61 => exact rfl
  case ty61 => (intro w hSw; (try dsimp only at hSw); go_split_ands; go_simp; try with_reducible rfl)
  simp only [List.setIfInBounds_toArray, List.set_cons_zero, List.set_cons_succ]
  refine' takeV 6 (oi := _) (d := _) (v := _) ?ti62 ?td62 (by kernel_rfl) (by kernel_rfl) (by kernel_rfl) (by kernel_rfl) (by decide) (fun _ _ _ _ _ h => h) ?tg62 ?ty62 (by assumption) ?tr62
  case ti62 => (simp only [List.getElem?_toArray, List.getElem?_cons_succ, List.getElem?_cons_zero]; rfl)
  case td62 => exact rfl
  case tg62 => exact rfl
  case ty62 => (intro w hSw; (try dsimp only at hSw); go_split_ands; go_simp; try with_reducible rfl)
  simp only [List.setIfInBounds_toArray, List.set_cons_zero, List.set_cons_succ]
  refine' takeV 7 (oi := _) (d := _) (v := _) ?ti63 ?td63 (by kernel_rfl) (by kernel_rfl) (by kernel_rfl) (by kernel_rfl) (by decide) (fun _ _ _ _ _ h => h) ?tg63 ?ty63 (by assumption) ?tr63
  case ti63 => (simp only [List.getElem?_toArray, List.getElem?_cons_succ, List.getElem?_cons_zero]; rfl)
  case td63 => exact rfl
  case tg63 => exact rfl
  case ty63 => (intro w hSw; (try dsimp only at hSw); go_split_ands; go_simp; try with_reducible rfl)
  simp only [List.setIfInBounds_toArray, List.set_cons_zero, List.set_cons_succ]
  refine' takeV 8 (oi := _) (d := _) (v := _) ?ti64 ?td64 (by kernel_rfl) (by kernel_rfl) (by kernel_rfl) (by kernel_rfl) (by decide) (fun _ _ _ _ _ h => h) ?tg64 ?ty64 (by assumption) ?tr64
  case ti64 => (simp only [List.getElem?_toArray, List.getElem?_cons_succ, List.getElem?_cons_zero]; rfl)
  case td64 => exact rfl
  case tg64 => exact rfl
  case ty64 => (intro w hSw; (try dsimp only at hSw); go_split_ands; go_simp; try with_reducible rfl)
  simp only [List.setIfInBounds_toArray, List.set_cons_zero, List.set_cons_succ]
  refine' takeV 9 (oi := _) (d := _) (v := _) ?ti65 ?td65 (by kernel_rfl) (by kernel_rfl) (by kernel_rfl) (by kernel_rfl) (by decide) (fun _ _ _ _ _ h => h) ?tg65 ?ty65 (by assumption) ?tr65
  case ti65 => (simp only [List.getElem?_toArray, List.getElem?_cons_succ, List.getElem?_cons_zero]; rfl)
  case td65 => exact rfl
  case tg65 => exact rfl
  case ty65 => (intro w hSw; (try dsimp only at hSw); go_split_ands; go_simp; try with_reducible rfl)
  simp only [List.setIfInBounds_toArray, List.set_cons_zero, List.set_cons_succ]
  refine' takeV 10 (oi := _) (d := _) (v := _) ?ti66 ?td66 (by kernel_rfl) (by kernel_rfl) (by kernel_rfl) (by kernel_rfl) (by decide) (fun _ _ _ _ _ h => h) ?tg66 ?ty66 (by assumption) ?tr66
  case ti66 => (simp only [List.getElem?_toArray, List.getElem?_cons_succ, List.getElem?_cons_zero]; rfl)
  case td66 => exact rfl
  case tg66 => exact rfl
  case ty66 => (intro w hSw; (try dsimp only at hSw); go_split_ands; go_simp; try with_reducible rfl)
  simp only [List.setIfInBounds_toArray, List.set_cons_zero, List.set_cons_succ]
  refine' takeV 11 (oi := _) (d := _) (v := _) ?ti67 ?td67 (by kernel_rfl) (by kernel_rfl) (by kernel_rfl) (by kernel_rfl) (by decide) (fun _ _ _ _ _ h => h) ?tg67 ?ty67 (by assumption) ?tr67
  case ti67 => (simp only [List.getElem?_toArray, List.getElem?_cons_succ, List.getElem?_cons_zero]; rfl)
  case td67 => exact rfl
  case tg67 => exact rfl
  case ty67 => (intro w hSw; (try dsimp only at hSw); go_split_ands; go_simp; try with_reducible rfl)
  simp only [List.setIfInBounds_toArray, List.set_cons_zero, List.set_cons_succ]
  refine' takeV 12 (oi := _) (d := _) (v := _) ?ti68 ?td68 (by kernel_rfl) (by kernel_rfl) (by kernel_rfl) (by kernel_rfl) (by decide) (fun _ _ _ _ _ h => h) ?tg68 ?ty68 (by assumption) ?tr68
  case ti68 => (simp only [List.getElem?_toArray, List.getElem?_cons_succ, List.getElem?_cons_zero]; rfl)
  case td68 => exact rfl
  case tg68 => exact rfl
  case ty68 => (intro w hSw; (try dsimp only at hSw); go_split_ands; go_simp; try with_reducible rfl)
  simp only [List.setIfInBounds_toArray, List.set_cons_zero, List.set_cons_succ]
  refine' takeV 13 (oi := _) (d := _) (v := _) ?ti69 ?td69 (by kernel_rfl) (by kernel_rfl) (by kernel_rfl) (by kernel_rfl) (by decide) (fun _ _ _ _ _ h => h) ?tg69 ?ty69 (by assumption) ?tr69
  case ti69 => (simp only [List.getElem?_toArray, List.getElem?_cons_succ, List.getElem?_cons_zero]; rfl)
  case td69 => exact rfl
  case tg69 => exact rfl
  case ty69 => (intro w hSw; (try dsimp only at hSw); go_split_ands; go_simp; try with_reducible rfl)
  simp only [List.setIfInBounds_toArray, List.set_cons_zero, List.set_cons_succ]
  refine' takeV 14 (oi := _) (d := _) (v := _) ?ti70 ?td70 (by kernel_rfl) (by kernel_rfl) (by kernel_rfl) (by kernel_rfl) (by decide) (fun _ _ _ _ _ h => h) ?tg70 ?ty70 (by assumption) ?tr70
  case ti70 => (simp only [List.getElem?_toArray, List.getElem?_cons_succ, List.getElem?_cons_zero]; rfl)
  case td70 => exact rfl
  case tg70 => exact rfl
  case ty70 => (intro w hSw; (try dsimp only at hSw); go_split_ands; go_simp; try with_reducible rfl)
  simp only [List.setIfInBounds_toArray, List.set_cons_zero, List.set_cons_succ]
  refine' takeV 15 (oi := _) (d := _) (v := _) ?ti71 ?td71 (by kernel_rfl) (by kernel_rfl) (by kernel_rfl) (by kernel_rfl) (by decide) (fun _ _ _ _ _ h => h) ?tg71 ?ty71 (by assumption) ?tr71
  case ti71 => (simp only [List.getElem?_toArray, List.getElem?_cons_succ, List.getElem?_cons_zero]; rfl)
  case td71 => exact rfl
  case tg71 => exact rfl
  case ty71 => (intro w hSw; (try dsimp only at hSw); go_split_ands; go_simp; try with_reducible rfl)
  simp only [List.setIfInBounds_toArray, List.set_cons_zero, List.set_cons_succ]
  refine' takeV 16 (oi := _) (d := _) (v := _) ?ti72 ?td72 (by kernel_rfl) (by kernel_rfl) (by kernel_rfl) (by kernel_rfl) (by decide) (fun _ _ _ _ _ h => h) ?tg72 ?ty72 (by assumption) ?tr72
  case ti72 => (simp only [List.getElem?_toArray, List.getElem?_cons_succ, List.getElem?_cons_zero]; rfl)
  case td72 => exact rfl
  case tg72 => exact rfl
  case ty72 => (intro w hSw; (try dsimp only at hSw); go_split_ands; go_simp; try with_reducible rfl)
  simp only [List.setIfInBounds_toArray, List.set_cons_zero, List.set_cons_succ]
  obtain ⟨V1, hV1⟩ : ∃ V1, V1 = V0.drew := ⟨_, rfl⟩
  have B1 : Below V0.heap.size V0 V1 := by rw [hV1]; exact (Below.refl _ _).drew
  rw [← hV1]
  clear hV1 hHeld
  have HD1 := Lib.hid (HD0.out.below B1)
  have HG1 : Hid (w.grownBy V1 (some Z)) := gz_trans HG0.out (gz_of B1 _)
  have hv1 := B1.size
  clear B1
  obtain ⟨AA, hAA⟩ : ∃ AA : Option Addr, AA = if c = p + 1 then some ⟨b, o, none⟩ else some ⟨b, o + (p + 1), none⟩ := ⟨_, rfl⟩
  have HRP : Hid (Rd V1 AA v (c - (p + 1)) ((l.drop (p + 1)).take v)) := by rw [hAA]; exact HD1.out.rd.part (p + 1) v (c - (p + 1)) _ (fun h0 => if_neg (by omega)) (by omega) (by omega) (by unfold maxLen; omega)
  rw [← hAA]
  clear hAA
  refine stepG 17 (by kernel_rfl) (by simp only [List.getElem?_toArray, List.getElem?_cons_succ, List.getElem?_cons_zero]; rfl) (fun K hK => ?_)
  go_simp
  refine (copy_any _ _ _ _ _ HRP.out (by omega)).mono ?_
  rintro e V2 ⟨A2, c2, rfl, hown, hb⟩
  refine hK.out _ _ ?ts73 (fun hHeld => ?_)
  case ts73 => ((try dsimp only); exact ⟨(HD1.out.below hb).bz.cell 0, (HD1.out.below hb).bz.cell 1⟩)
  clear hK K
  have HO2 : Hid (Own V2 w.heap.size A2 v c2 ((l.drop (p + 1)).take v)) := Own.mono hown (by omega)
  have HD2 := Lib.hid (HD1.out.below hb)
  have HG2 : Hid (w.grownBy V2 (some Z)) := gz_trans HG1.out (gz_of hb _)
  clear hown hb
  refine' takeV 18 (oi := _) (d := _) (v := _) ?ti74 ?td74 (by kernel_rfl) (by kernel_rfl) (by kernel_rfl) (by kernel_rfl) (by decide) (fun _ _ _ _ _ h => h) ?tg74 ?ty74 (by assumption) ?tr74
  case ti74 => (simp only [List.getElem?_toArray, List.getElem?_cons_succ, List.getElem?_cons_zero]; rfl)
  case td74 => exact rfl
  case tg74 => exact rfl
  case ty74 => (intro w hSw; (try dsimp only at hSw); go_split_ands; go_simp; try with_reducible rfl)
  simp only [List.setIfInBounds_toArray, List.set_cons_zero, List.set_cons_succ]
  clear hHeld
  refine doneG (by kernel_rfl) ?_ _
  have k1 := HD2.out.bz.cell 1
  have f1 := HD2.out.bz.frozen 1
  have hZ : Z < w.heap.size := HD.out.bz.lt
  have HM := Lib.hid (HD2.out.move (p + 1 + v) (by omega))
  have HGM : Hid (w.grownBy (V2.setCell ⟨Z, 1, none⟩ (.int .i64 ((p + 1 + v : Nat) : Int))) (some Z)) := gz_set HG2.out (.inl rfl) _
  have HOM : Hid (Own (V2.setCell ⟨Z, 1, none⟩ (.int .i64 ((p + 1 + v : Nat) : Int))) w.heap.size A2 v c2 ((l.drop (p + 1)).take v)) := HO2.out.setLow (p := ⟨Z, 1, none⟩) hZ _
  have hcast : ((p + 1 + v : Nat) : Int) = (p : Int) + 1 + (v : Int) := by omega
  rw [hcast] at HM HGM HOM
  clear hcast
  go_wp2_with fail
  go_ret
  exact ⟨A2, c2, rfl, HOM.out, HM.out, HGM.out⟩
end Go.Proofs.Ytihbpmceggghgaa
