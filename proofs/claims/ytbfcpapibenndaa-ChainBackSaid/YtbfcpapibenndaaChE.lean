/- Contracts: the reference's Read. -/
import Derived.Test.YtbfcpapibenndaaChD
import Derived.Test.YtbfcpapibenndaaReg
import Derived.Deep.RegionHeld3
import Derived.Deep.DeepCutAuto
set_option linter.unusedVariables false
namespace Go.Proofs.Ytbfcpapibenndaa
open Go.RowKit

theorem refread_len (A : Option Addr) (n c : Nat) (w : World) (h : n ≠ 224) (hm : n ≤ 9223372036854775807) :
    Calls Try.prog 22 #[.slice A n c] w fun e w' => e = .returned (.tuple #[.slice none 0 0, Ref0, .int .i64 2]) ∧ Below w.heap.size w w' := by
  have hd : ((n : Int) != 224) = true := by rw [bne_iff_ne]; omega
  have hb := below_new1 w (.cells #[.int .u32 0, .int .u64 0, .int .u16 0] 32)
  go_enter Try.func22, Try.ntmps22
  go_wp2
  have hbk : Blk (w.alloc (.cells #[.int .u32 0, .int .u64 0, .int .u16 0] 32)) w.heap.size 32 #[.int .u32 0, .int .u64 0, .int .u16 0] := Blk.new _ _ _
  have e0 := hbk.cell 0
  have e1 := hbk.cell 1
  have e2 := hbk.cell 2
  refine bodyPost_ret (v := .tuple #[.slice none 0 0, Ref0, .int .i64 2]) ?_ rfl ⟨rfl, hb⟩
  simp [results, Try.results22, go_sem, e0, e1, e2]
theorem number_at {b o c : Nat} {L : List UInt8} {W : World} (h : Rd W (some ⟨b, o, none⟩) 224 c L) (i m x : Nat) (hx : num ((L.drop i).take m) = x) (h8 : m ≤ 8) (hi : i + m ≤ 224) (A : Option Addr) (hA : A = some ⟨b, o + i, none⟩) (c' : Nat) (hc : c' = c - i) :
    Calls Try.prog 28 #[.slice A m c'] W fun e w' => e = .returned (.int .u64 x) ∧ W = w' := by
  subst hx
  have hcap := h.cap
  have hmax := h.max
  exact number_any A m c' _ W (h.part i m c' A (fun _ => hA) hi (by omega) (by omega)) h8
/-- Is a payload right? What is read of it. -/
def rOk (L : List UInt8) : Bool := decide (1 ≤ rSize L) && decide (rSize L ≤ 208) && zeros (L.drop (16 + rSize L))
def rE (n : Nat) (L : List UInt8) : Int := if n = 224 then (if rOk L then 0 else 5) else 2
def rR (n : Nat) (L : List UInt8) : Value := if n = 224 ∧ rOk L = true then RefV (rPage L) (rCommit L) (rGen L) else Ref0
def rP (n : Nat) (L : List UInt8) : List UInt8 := if n = 224 ∧ rOk L = true then rPiece L else []
theorem r_bad (L : List UInt8) (h : rOk L = false) : rE 224 L = 5 ∧ rR 224 L = Ref0 ∧ rP 224 L = [] := by simp [rE, rR, rP, h]
theorem r_len (n : Nat) (L : List UInt8) (h : n ≠ 224) : rE n L = 2 ∧ rR n L = Ref0 ∧ rP n L = [] := by simp [rE, rR, rP, h]
theorem r_ok (L : List UInt8) (h : rOk L = true) : rE 224 L = 0 ∧ rR 224 L = RefV (rPage L) (rCommit L) (rGen L) ∧ rP 224 L = rPiece L := by simp [rE, rR, rP, h]
theorem rOk_iff (L : List UInt8) : rOk L = true ↔ 1 ≤ rSize L ∧ rSize L ≤ 208 ∧ zeros (L.drop (16 + rSize L)) = true := by simp [rOk, and_assoc]
set_option maxHeartbeats 3200000 in
theorem refread_all (A : Option Addr) (c : Nat) (L : List UInt8) (w : World) (h : Rd w A 224 c L) (hcc : c ≤ 140737488355328) :
    Calls Try.prog 22 #[.slice A 224 c] w fun e w' => ∃ A' n' c', e = .returned (.tuple #[.slice A' n' c', rR 224 L, .int .i64 (rE 224 L)]) ∧ Rd w' A' n' c' (rP 224 L) ∧ Below w.heap.size w w' := by
  have hcap := h.cap
  have hmax := h.max
  unfold maxLen at hmax
  obtain ⟨b, o, rfl, _⟩ := h.at_ (by omega)
  have hb := below_new1 w (.cells #[.int .u32 0, .int .u64 0, .int .u16 0] 32)
  obtain ⟨p, hp⟩ : ∃ p, num ((L.drop 0).take 4) = p := ⟨_, rfl⟩
  obtain ⟨q, hq⟩ : ∃ p, num ((L.drop 4).take 8) = p := ⟨_, rfl⟩
  obtain ⟨g, hg⟩ : ∃ p, num ((L.drop 12).take 2) = p := ⟨_, rfl⟩
  obtain ⟨s, hs⟩ : ∃ p, num ((L.drop 14).take 2) = p := ⟨_, rfl⟩
  have G1 := Lib.hid (fun W (h : Rd W (some ⟨b, o, none⟩) 224 c L) => number_at h 0 4 p hp (by omega) (by omega) (some ⟨b, o, none⟩) rfl c rfl)
  have G2 := Lib.hid (fun W (h : Rd W (some ⟨b, o, none⟩) 224 c L) => number_at h 4 8 q hq (by omega) (by omega) (some ⟨b, o + 4, none⟩) rfl (c - 4) rfl)
  have G3 := Lib.hid (fun W (h : Rd W (some ⟨b, o, none⟩) 224 c L) => number_at h 12 2 g hg (by omega) (by omega) (some ⟨b, o + 12, none⟩) rfl (c - 12) rfl)
  have G4 := Lib.hid (fun W (h : Rd W (some ⟨b, o, none⟩) 224 c L) => number_at h 14 2 s hs (by omega) (by omega) (some ⟨b, o + 14, none⟩) rfl (c - 14) rfl)
  have HR := Lib.hid (h.below hb)
  have hwp : IntKind.u32.wrap (p : Int) = (p : Int) := IntWalk.u32_in _ (by have := rPage_lt L; unfold rPage at this; simp at hp; omega)
  have hwg : IntKind.u16.wrap (g : Int) = (g : Int) := IntWalk.u16_in _ (by have := rGen_lt L; unfold rGen at this; omega)
  have HPp := Lib.hid hp
  have HQq := Lib.hid hq
  have HGg := Lib.hid hg
  have HSs := Lib.hid hs
  clear h hp hq hg hs
  have i4 : (4 : Int) ≤ (c : Int) := by omega
  have i12 : (12 : Int) ≤ (c : Int) := by omega
  have i14 : (14 : Int) ≤ (c : Int) := by omega
  have n4 : ¬ c = 4 := by omega
  have n12 : ¬ c = 12 := by omega
  go_enter Try.func22, Try.ntmps22
  go_wp2_with fail
  have hS := (HR.out.below (below_drewN (Below.refl _ _) 1))
  have HD := Lib.hid hS
  refine region_gate 14 (fun w' => Rd w' (some ⟨b, o, none⟩) 224 c L) (by kernel_rfl) ?th1 (fun hHeld => ?tk1)
  case th1 => ((try dsimp only); exact hS)
  refine' takeV 0 (oi := _) (d := _) (v := _) ?ti2 ?td2 (by kernel_rfl) (by kernel_rfl) (by kernel_rfl) (by kernel_rfl) (by decide) (fun _ _ _ _ _ h => h) ?tg2 ?ty2 (by assumption) ?tr2
  case ti2 => (simp only [List.getElem?_toArray, List.getElem?_cons_succ, List.getElem?_cons_zero]; rfl)
  case td2 => exact rfl
  case tg2 => exact rfl
  case ty2 => (intro w hSw; (try dsimp only at hSw); go_split_ands; go_simp; try with_reducible rfl)
  simp only [List.setIfInBounds_toArray, List.set_cons_zero, List.set_cons_succ]
  refine' takeV 1 (oi := _) (d := _) (v := _) ?ti3 ?td3 (by kernel_rfl) (by kernel_rfl) (by kernel_rfl) (by kernel_rfl) (by decide) (fun _ _ _ _ _ h => h) ?tg3 ?ty3 (by assumption) ?tr3
  case ti3 => (simp only [List.getElem?_toArray, List.getElem?_cons_succ, List.getElem?_cons_zero]; rfl)
  case td3 => exact rfl
  case tg3 => exact rfl
  case ty3 => (intro w hSw; (try dsimp only at hSw); go_split_ands; go_simp; try with_reducible rfl)
  simp only [List.setIfInBounds_toArray, List.set_cons_zero, List.set_cons_succ]
  refine' takeC 2 (oi := _) (d := _) (v := _) ?ti4 ?td4 (by kernel_rfl) (by kernel_rfl) (by kernel_rfl) (by kernel_rfl) (by decide) (fun _ _ _ _ _ h => h) ?tg4 ?ty4 (by assumption) ?tr4
  case ti4 => (simp only [List.getElem?_toArray, List.getElem?_cons_succ, List.getElem?_cons_zero]; rfl)
  case td4 => exact rfl
  case tg4 => exact rfl
  case ty4 => (intro w hSw; have hc := G1.out _ hSw; exact OnlyV.call rfl Try.func28 (by kernel_rfl) (by kernel_rfl) (Calls.mono hc (by rintro e w2 ⟨rfl, rfl⟩; constructor <;> rfl)) (by simp only [List.map_toArray, List.map_cons, List.map_nil]; rfl))
  simp only [List.setIfInBounds_toArray, List.set_cons_zero, List.set_cons_succ]
  refine' takeV 3 (oi := _) (d := _) (v := _) ?ti5 ?td5 (by kernel_rfl) (by kernel_rfl) (by kernel_rfl) (by kernel_rfl) (by decide) (fun _ _ _ _ _ h => h) ?tg5 ?ty5 (by assumption) ?tr5
  case ti5 => (simp only [List.getElem?_toArray, List.getElem?_cons_succ, List.getElem?_cons_zero]; rfl)
  case td5 => exact rfl
  case tg5 => exact rfl
  case ty5 => (intro w hSw; (try dsimp only at hSw); go_split_ands; go_simp; try with_reducible rfl)
  simp only [List.setIfInBounds_toArray, List.set_cons_zero, List.set_cons_succ]
  refine' takeV 4 (oi := _) (d := _) (v := _) ?ti6 ?td6 (by kernel_rfl) (by kernel_rfl) (by kernel_rfl) (by kernel_rfl) (by decide) (fun _ _ _ _ _ h => h) ?tg6 ?ty6 (by assumption) ?tr6
  case ti6 => (simp only [List.getElem?_toArray, List.getElem?_cons_succ, List.getElem?_cons_zero]; rfl)
  case td6 => exact rfl
  case tg6 => exact rfl
  case ty6 => (intro w hSw; (try dsimp only at hSw); go_split_ands; go_simp; try with_reducible rfl)
  simp only [List.setIfInBounds_toArray, List.set_cons_zero, List.set_cons_succ]
  refine' takeV 5 (oi := _) (d := _) (v := _) ?ti7 ?td7 (by kernel_rfl) (by kernel_rfl) (by kernel_rfl) (by kernel_rfl) (by decide) (fun _ _ _ _ _ h => h) ?tg7 ?ty7 (by assumption) ?tr7
  case ti7 => (simp only [List.getElem?_toArray, List.getElem?_cons_succ, List.getElem?_cons_zero]; rfl)
  case td7 => exact rfl
  case tg7 => exact rfl
  case ty7 => (intro w hSw; (try dsimp only at hSw); go_split_ands; go_simp; try with_reducible rfl)
  simp only [List.setIfInBounds_toArray, List.set_cons_zero, List.set_cons_succ]
  refine' takeC 6 (oi := _) (d := _) (v := _) ?ti8 ?td8 (by kernel_rfl) (by kernel_rfl) (by kernel_rfl) (by kernel_rfl) (by decide) (fun _ _ _ _ _ h => h) ?tg8 ?ty8 (by assumption) ?tr8
  case ti8 => (simp only [List.getElem?_toArray, List.getElem?_cons_succ, List.getElem?_cons_zero]; rfl)
  case td8 => exact rfl
  case tg8 => exact rfl
  case ty8 => (intro w hSw; have hc := G2.out _ hSw; exact OnlyV.call rfl Try.func28 (by kernel_rfl) (by kernel_rfl) (Calls.mono hc (by rintro e w2 ⟨rfl, rfl⟩; constructor <;> rfl)) (by simp only [List.map_toArray, List.map_cons, List.map_nil]; rfl))
  simp only [List.setIfInBounds_toArray, List.set_cons_zero, List.set_cons_succ]
  refine' takeV 7 (oi := _) (d := _) (v := _) ?ti9 ?td9 (by kernel_rfl) (by kernel_rfl) (by kernel_rfl) (by kernel_rfl) (by decide) (fun _ _ _ _ _ h => h) ?tg9 ?ty9 (by assumption) ?tr9
  case ti9 => (simp only [List.getElem?_toArray, List.getElem?_cons_succ, List.getElem?_cons_zero]; rfl)
  case td9 => exact rfl
  case tg9 => exact rfl
  case ty9 => (intro w hSw; (try dsimp only at hSw); go_split_ands; go_simp; try with_reducible rfl)
  simp only [List.setIfInBounds_toArray, List.set_cons_zero, List.set_cons_succ]
  refine' takeV 8 (oi := _) (d := _) (v := _) ?ti10 ?td10 (by kernel_rfl) (by kernel_rfl) (by kernel_rfl) (by kernel_rfl) (by decide) (fun _ _ _ _ _ h => h) ?tg10 ?ty10 (by assumption) ?tr10
  case ti10 => (simp only [List.getElem?_toArray, List.getElem?_cons_succ, List.getElem?_cons_zero]; rfl)
  case td10 => exact rfl
  case tg10 => exact rfl
  case ty10 => (intro w hSw; (try dsimp only at hSw); go_split_ands; go_simp; try with_reducible rfl)
  simp only [List.setIfInBounds_toArray, List.set_cons_zero, List.set_cons_succ]
  refine' takeC 9 (oi := _) (d := _) (v := _) ?ti11 ?td11 (by kernel_rfl) (by kernel_rfl) (by kernel_rfl) (by kernel_rfl) (by decide) (fun _ _ _ _ _ h => h) ?tg11 ?ty11 (by assumption) ?tr11
  case ti11 => (simp only [List.getElem?_toArray, List.getElem?_cons_succ, List.getElem?_cons_zero]; rfl)
  case td11 => exact rfl
  case tg11 => exact rfl
  case ty11 => (intro w hSw; have hc := G3.out _ hSw; exact OnlyV.call rfl Try.func28 (by kernel_rfl) (by kernel_rfl) (Calls.mono hc (by rintro e w2 ⟨rfl, rfl⟩; constructor <;> rfl)) (by simp only [List.map_toArray, List.map_cons, List.map_nil]; rfl))
  simp only [List.setIfInBounds_toArray, List.set_cons_zero, List.set_cons_succ]
  refine' takeV 10 (oi := _) (d := _) (v := _) ?ti12 ?td12 (by kernel_rfl) (by kernel_rfl) (by kernel_rfl) (by kernel_rfl) (by decide) (fun _ _ _ _ _ h => h) ?tg12 ?ty12 (by assumption) ?tr12
  case ti12 => (simp only [List.getElem?_toArray, List.getElem?_cons_succ, List.getElem?_cons_zero]; rfl)
  case td12 => exact rfl
  case tg12 => exact rfl
  case ty12 => (intro w hSw; (try dsimp only at hSw); go_split_ands; go_simp; try with_reducible rfl)
  simp only [List.setIfInBounds_toArray, List.set_cons_zero, List.set_cons_succ]
  refine' takeV 11 (oi := _) (d := _) (v := _) ?ti13 ?td13 (by kernel_rfl) (by kernel_rfl) (by kernel_rfl) (by kernel_rfl) (by decide) (fun _ _ _ _ _ h => h) ?tg13 ?ty13 (by assumption) ?tr13
  case ti13 => (simp only [List.getElem?_toArray, List.getElem?_cons_succ, List.getElem?_cons_zero]; rfl)
  case td13 => exact rfl
  case tg13 => exact rfl
  case ty13 => (intro w hSw; (try dsimp only at hSw); go_split_ands; go_simp; try with_reducible rfl)
  simp only [List.setIfInBounds_toArray, List.set_cons_zero, List.set_cons_succ]
  refine stepG 12 (by kernel_rfl) (by simp only [List.getElem?_toArray, List.getElem?_cons_succ, List.getElem?_cons_zero]; rfl) (fun K hK => ?_)
  go_simp
  refine hK.out _ _ ?ts14 (fun hHeld => ?_)
  case ts14 => ((try dsimp only); exact Rd.below (by assumption) (below_new1 _ _))
  clear hK K
  refine stepG 13 (by kernel_rfl) (by simp only [List.getElem?_toArray, List.getElem?_cons_succ, List.getElem?_cons_zero]; rfl) (fun K hK => ?_)
  go_simp
  refine hK.out _ _ ?ts15 (fun hHeld => ?_)
  case ts15 => ((try dsimp only); exact Rd.below HD.out (below_new1 _ _))
  clear hK K
  refine doneG (by kernel_rfl) ?_ _
  obtain ⟨W2, hW2⟩ : ∃ W2, W2 = ((w.alloc (.cells #[.int .u32 0, .int .u64 0, .int .u16 0] 32)).alloc (.cells #[.int .u32 p, .int .u64 q, .int .u16 g] 32)).drew := ⟨_, rfl⟩
  have HR2 : Hid (Rd W2 (some ⟨b, o, none⟩) 224 c L) := by rw [hW2]; exact (HR.out.below (below_new1 _ _)).below (below_drewN (Below.refl _ _) 1)
  have HB2 : Hid (Below w.heap.size w W2) := by rw [hW2]; exact below_drewN (hb.alloc (by simp) _) 1
  have HK2 : Hid (Blk W2 w.heap.size 32 #[.int .u32 0, .int .u64 0, .int .u16 0]) := by rw [hW2]; exact ((Blk.new _ _ _).alloc _).drewN 1
  have HN2 : Hid (Blk W2 (w.heap.size + 1) 32 #[.int .u32 p, .int .u64 q, .int .u16 g]) := by rw [hW2]; exact (Blk.new' _ _ _ _ (by simp)).drewN 1
  rw [← hW2]
  clear hW2 hS hHeld hb
  have a0 := HK2.out.cell 0
  have a1 := HK2.out.cell 1
  have a2 := HK2.out.cell 2
  have f0 := HK2.out.frozen 0
  have f1 := HK2.out.frozen 1
  have f2 := HK2.out.frozen 2
  have b0 := HN2.out.cell 0
  have b1 := HN2.out.cell 1
  have b2 := HN2.out.cell 2
  go_wp2_with fail
  refine (G4.out _ HR2.out).mono ?_
  rintro e w' ⟨rfl, rfl⟩
  have hsr : Hid (rSize L = s) := HSs.out
  have hp32 : p < 4294967296 := by have := rPage_lt L; unfold rPage at this; have := HPp.out; simp at this; omega
  have hq64 : q < 18446744073709551616 := by have := rCommit_lt L; unfold rCommit at this; have := HQq.out; omega
  have hg16 : g < 65536 := by have := rGen_lt L; unfold rGen at this; have := HGg.out; omega
  have hs16 : s < 65536 := by have := rSize_lt L; have := hsr.out; omega
  have hws : IntKind.i64.wrap (s : Int) = (s : Int) := IntWalk.i64_in _ (by omega)
  by_cases hs1 : s < 1
  · have hd1 : decide ((s : Int) < 1) = true := decide_eq_true (by omega)
    have HE := Lib.hid (r_bad L (by have := hsr.out; simp [rOk]; omega))
    go_wp2
    have hbk := ((HK2.out.set_ 0 (.int .u32 0)).set_ 1 (.int .u64 0)).set_ 2 (.int .u16 0)
    have e0 := hbk.cell 0
    have e1 := hbk.cell 1
    have e2 := hbk.cell 2
    refine bodyPost_ret (v := .tuple #[.slice none 0 0, Ref0, .int .i64 5]) ?_ rfl ⟨none, 0, 0, by rw [HE.out.1, HE.out.2.1], by rw [HE.out.2.2]; exact Rd.none_ _, ((HB2.out.setCell (Nat.le_refl _) _).setCell (Nat.le_refl _) _).setCell (Nat.le_refl _) _⟩
    simp [results, Try.results22, go_sem, e0, e1, e2]
  · have hd1 : decide ((s : Int) < 1) = false := decide_eq_false (by omega)
    by_cases hs2 : 208 < s
    · have hd2 : decide ((s : Int) > 208) = true := decide_eq_true (by omega)
      have HE := Lib.hid (r_bad L (by have := hsr.out; simp [rOk]; omega))
      go_wp2
      have hbk := ((HK2.out.set_ 0 (.int .u32 0)).set_ 1 (.int .u64 0)).set_ 2 (.int .u16 0)
      have e0 := hbk.cell 0
      have e1 := hbk.cell 1
      have e2 := hbk.cell 2
      refine bodyPost_ret (v := .tuple #[.slice none 0 0, Ref0, .int .i64 5]) ?_ rfl ⟨none, 0, 0, by rw [HE.out.1, HE.out.2.1], by rw [HE.out.2.2]; exact Rd.none_ _, ((HB2.out.setCell (Nat.le_refl _) _).setCell (Nat.le_refl _) _).setCell (Nat.le_refl _) _⟩
      simp [results, Try.results22, go_sem, e0, e1, e2]
    · have hd2 : decide ((s : Int) > 208) = false := decide_eq_false (by omega)
      have hw16 : IntKind.i64.wrap (16 + (s : Int)) = 16 + (s : Int) := IntWalk.i64_in _ (by omega)
      have hle : (16 : Int) + (s : Int) ≤ (c : Int) := by omega
      obtain ⟨PP, HPP⟩ : ∃ PP, Hid (rPiece L = PP) := ⟨_, rfl⟩
      have HPR : Hid (Rd W2 (some ⟨b, o + 16, none⟩) s (c - 16) PP) := by
        have := HR2.out.part 16 s (c - 16) (some ⟨b, o + 16, none⟩) (fun _ => rfl) (by omega) (by omega) (by unfold maxLen; omega)
        rw [← HPP.out]
        unfold rPiece
        rw [hsr.out]
        exact this
      have n16 : ¬ c = 16 := by omega
      go_wp2_with fail
      refine (copy_any (some ⟨b, o + 16, none⟩) s (c - 16) PP W2 HPR.out (by omega)).mono ?_
      rintro e w3 ⟨A3, c3, rfl, hown3, hb3⟩
      have HO3 : Hid (Own w3 W2.heap.size A3 s c3 PP) := hown3
      have HB3 := Lib.hid (HB2.out.trans (hb3.mono HB2.out.size))
      have HK3 := Lib.hid (HK2.out.below hb3 HK2.out.lt)
      have HN3 := Lib.hid (HN2.out.below hb3 HN2.out.lt)
      have HR3 := Lib.hid (HR2.out.below hb3)
      clear hown3 hb3
      have b0 := HN3.out.cell 0
      have b1 := HN3.out.cell 1
      have b2 := HN3.out.cell 2
      go_wp2_with fail
      refine (refpage_any A3 s c3 PP p q g _ HO3.out.rd (by omega) (by omega) hp32 hq64 hg16).mono ?_
      rintro e w4 ⟨A4, c4, rfl, hown4, hb4⟩
      have HG4 := Lib.hid (Own.rd hown4)
      have HO4 := Lib.hid (HO3.out.below hb4)
      have HB4 := Lib.hid (HB3.out.trans (hb4.mono HB3.out.size))
      have HK4 := Lib.hid (HK3.out.below hb4 HK3.out.lt)
      have HN4 := Lib.hid (HN3.out.below hb4 HN3.out.lt)
      have HR4 := Lib.hid (HR3.out.below hb4)
      clear hown4 hb4
      have hz : Hid ((pageB PP p q g == L) = zeros (L.drop (16 + s))) := by
        show _ = _
        have hpr := page_read L HR4.out.len.symm (by rw [hsr.out]; omega)
        have e1 : rPage L = p := HPp.out
        have e2 : rCommit L = q := HQq.out
        have e3 : rGen L = g := HGg.out
        rw [HPP.out, e1, e2, e3, hsr.out] at hpr
        rw [Bool.eq_iff_iff, beq_iff_eq]
        exact hpr
      have a0 := HK4.out.cell 0
      have a1 := HK4.out.cell 1
      have a2 := HK4.out.cell 2
      have f0 := HK4.out.frozen 0
      have f1 := HK4.out.frozen 1
      have f2 := HK4.out.frozen 2
      have b0 := HN4.out.cell 0
      have b1 := HN4.out.cell 1
      have b2 := HN4.out.cell 2
      go_wp2_with fail
      have hsame := same_any A4 224 c4 _ (some ⟨b, o, none⟩) 224 c _ w4 HG4.out HR4.out
      rw [hz.out] at hsame
      cases hzb : zeros (L.drop (16 + s)) with
      | false =>
        have HE := Lib.hid (r_bad L (by have := hsr.out; simp [rOk, this, hzb]))
        rw [hzb] at hsame
        have HS := Lib.hid hsame
        clear hsame hzb
        refine HS.out.mono ?_
        rintro e w' ⟨rfl, rfl⟩
        go_wp2
        have hbk := ((HK4.out.set_ 0 (.int .u32 0)).set_ 1 (.int .u64 0)).set_ 2 (.int .u16 0)
        have e0 := hbk.cell 0
        have e1 := hbk.cell 1
        have e2 := hbk.cell 2
        refine bodyPost_ret (v := .tuple #[.slice none 0 0, Ref0, .int .i64 5]) ?_ rfl ⟨none, 0, 0, by rw [HE.out.1, HE.out.2.1], by rw [HE.out.2.2]; exact Rd.none_ _, ((HB4.out.setCell (Nat.le_refl _) _).setCell (Nat.le_refl _) _).setCell (Nat.le_refl _) _⟩
        simp [results, Try.results22, go_sem, e0, e1, e2]
      | true =>
        have HE := Lib.hid (r_ok L (by have := hsr.out; simp [rOk, this, hzb]; omega))
        rw [hzb] at hsame
        have HS := Lib.hid hsame
        clear hsame hzb
        refine HS.out.mono ?_
        rintro e w' ⟨rfl, rfl⟩
        go_wp2_with fail
        have g0 := HK4.out.drew.cell 0
        have g1 := HK4.out.drew.cell 1
        have g2 := HK4.out.drew.cell 2
        have k0 := HK4.out.drew.frozen 0
        have k1 := HK4.out.drew.frozen 1
        have k2 := HK4.out.drew.frozen 2
        have m0 := HN4.out.drew.cell 0
        have m1 := HN4.out.drew.cell 1
        have m2 := HN4.out.drew.cell 2
        go_region
        all_goals
          go_wp2
          have e0 : (w4.setCell ⟨w.heap.size, 0, none⟩ (.int .u32 p)).cell? ⟨w.heap.size, 0, none⟩ = some (.int .u32 p) := (HK4.out.set_ 0 (.int .u32 p)).cell 0
          have e1 : ((w4.setCell ⟨w.heap.size, 0, none⟩ (.int .u32 p)).setCell ⟨w.heap.size, 1, none⟩ (.int .u64 q)).cell? ⟨w.heap.size, 1, none⟩ = some (.int .u64 q) := ((HK4.out.set_ 0 (.int .u32 p)).set_ 1 (.int .u64 q)).cell 1
          have e2 : (((w4.setCell ⟨w.heap.size, 0, none⟩ (.int .u32 p)).setCell ⟨w.heap.size, 1, none⟩ (.int .u64 q)).setCell ⟨w.heap.size, 2, none⟩ (.int .u16 g)).cell? ⟨w.heap.size, 2, none⟩ = some (.int .u16 g) := (((HK4.out.set_ 0 (.int .u32 p)).set_ 1 (.int .u64 q)).set_ 2 (.int .u16 g)).cell 2
          refine bodyPost_ret (v := .tuple #[.slice A3 s c3, RefV p q g, .int .i64 0]) ?_ rfl ⟨A3, s, c3, ?_, ?_, (((HB4.out.setCell (Nat.le_refl _) _).setCell (Nat.le_refl _) _).setCell (Nat.le_refl _) _).drew⟩
          · simp [results, Try.results22, go_sem, e0, e1, e2]
          · rw [HE.out.1, HE.out.2.1]
            have e4 : rPage L = p := HPp.out
            have e5 : rCommit L = q := HQq.out
            have e6 : rGen L = g := HGg.out
            rw [e4, e5, e6]
          · rw [HE.out.2.2, HPP.out]
            exact ((((HO4.out.setLow HK2.out.lt _).setLow HK2.out.lt _).setLow HK2.out.lt _).below (below_drewN (Below.refl _ _) 1)).rd
end Go.Proofs.Ytbfcpapibenndaa
