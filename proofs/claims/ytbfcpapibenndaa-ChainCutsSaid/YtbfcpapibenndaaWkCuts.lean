/- The walk of ChainCuts. -/
import Derived.Test.YtbfcpapibenndaaChH
import Derived.Test.YtbfcpapibenndaaChF
import Derived.Test.YtbfcpapibenndaaReg
set_option linter.unusedVariables false
namespace Go.Proofs.Ytbfcpapibenndaa
open Go.RowKit

theorem quiet_same {A : Option Addr} {n c : Nat} {l : List UInt8} {A' : Option Addr} {n' c' : Nat} {w : World} (h : Rd w A n c l) (h' : Rd w A' n' c' l) :
    Calls Try.prog 16 #[.slice A n c, .slice A' n' c'] w fun e w' => e = .returned (.bool true) ∧ w' = w :=
  (same_refl A n c l A' n' c' w h h').mono fun e w' ⟨he, hw⟩ => ⟨he, hw.symm⟩
/-- The bytes from some place on turned over. -/
def fl (l : List UInt8) (k : Nat) : List UInt8 := (l.take k).map (· ^^^ 255) ++ l.drop k
theorem fl_zero (l : List UInt8) : fl l 0 = l := by simp [fl]
theorem fl_length (l : List UInt8) (k : Nat) : (fl l k).length = l.length := by simp [fl]; omega
theorem fl_get (l : List UInt8) (k j : Nat) (h : k ≤ j) : (fl l k).getD j 0 = l.getD j 0 := by
  unfold fl
  by_cases hj : j < l.length
  · simp only [List.getD_eq_getElem?_getD]
    rw [List.getElem?_append_right (by simp; omega)]
    simp only [List.length_map, List.length_take, List.getElem?_drop]
    congr 2
    omega
  · rw [List.getD_eq_getElem?_getD, List.getD_eq_getElem?_getD, List.getElem?_eq_none (by simp; omega), List.getElem?_eq_none (by omega)]
theorem fl_succ (l : List UInt8) (k : Nat) (h : k < l.length) : fl l (k + 1) = (fl l k).set k (l.getD k 0 ^^^ 255) := by
  unfold fl
  rw [take_snoc l k h, List.map_append, List.append_assoc]
  have e : l.drop k = l.getD k 0 :: l.drop (k + 1) := by rw [List.drop_eq_getElem_cons h]; simp [List.getD, List.getElem?_eq_getElem h]
  rw [e, List.set_append_right _ _ (by simp; omega)]
  simp only [List.length_map, List.length_take, Nat.min_eq_left (Nat.le_of_lt h), Nat.sub_self, List.set_cons_zero, List.map_cons, List.map_nil, List.cons_append, List.nil_append]
theorem fl_chunk (l : List UInt8) (k j : Nat) (h : k ≤ 208 * j) : ((fl l k).drop (208 * j)).take 208 = chunk l j := by
  unfold chunk
  congr 1
  apply List.ext_getElem?
  intro i
  rw [List.getElem?_drop, List.getElem?_drop]
  have := fl_get l k (208 * j + i) (by omega)
  by_cases hj : 208 * j + i < l.length
  · rw [List.getD_eq_getElem?_getD, List.getD_eq_getElem?_getD, List.getElem?_eq_getElem (by rw [fl_length]; exact hj), List.getElem?_eq_getElem hj] at this
    simp only [Option.getD_some] at this
    rw [List.getElem?_eq_getElem (by rw [fl_length]; exact hj), List.getElem?_eq_getElem hj, this]
  · rw [List.getElem?_eq_none (by rw [fl_length]; omega), List.getElem?_eq_none (by omega)]

/-- What is so while the pieces are turned over: k bytes are. -/
def CutsInv (w : World) (H1 H2 : Nat) (A2 : Option Addr) (n c2 : Nat) (A3 : Option Addr) (c3 : Nat) (A4 : Option Addr) (c4 K : Nat) (l : List UInt8) (k : Nat) : Prop :=
  Own w H1 A2 n c2 (fl l k) ∧ (∀ a, A2 = some a → a.block < H2) ∧ OwnV w H1 A3 K c3 (pcV ((A2.map (·.block)).getD 0) n K) ∧
    ∃ vs, OwnV w H2 A4 K c4 vs ∧ ∀ j, j < K → ∃ A' n' c', vs[j]? = some (.slice A' n' c') ∧ Own w H2 A' n' c' (chunk l j)
theorem CutsInv.flip {w : World} {H1 H2 g n c2 : Nat} {A3 : Option Addr} {c3 : Nat} {A4 : Option Addr} {c4 K : Nat} {l : List UInt8} {k : Nat} (h : CutsInv w H1 H2 (some ⟨g, 0, none⟩) n c2 A3 c3 A4 c4 K l k) (hk : k < l.length) :
    CutsInv (w.setCell ⟨g, k, none⟩ (B8 (l.getD k 0 ^^^ 255))) H1 H2 (some ⟨g, 0, none⟩) n c2 A3 c3 A4 c4 K l (k + 1) := by
  obtain ⟨h1, h2, h3, vs, h4, h5⟩ := h
  have hg : w.grownBy (w.setCell ⟨g, k, none⟩ (B8 (l.getD k 0 ^^^ 255))) ((some (⟨g, 0, none⟩ : Addr)).map (·.block)) := setCell_grown w _ _
  have hlt : g < H2 := h2 _ rfl
  refine ⟨?_, h2, h3.keptO h1 hg, vs, h4.keptO h1 hg, fun j hj => ?_⟩
  · rw [fl_succ l k hk]
    exact own_set h1 k _
  · obtain ⟨A', n', c', a1, a2⟩ := h5 j hj
    exact ⟨A', n', c', a1, a2.setLow hlt _⟩
theorem CutsInv.drewN {w : World} {H1 H2 n c2 : Nat} {A2 A3 : Option Addr} {c3 : Nat} {A4 : Option Addr} {c4 K : Nat} {l : List UInt8} {k : Nat} (h : CutsInv w H1 H2 A2 n c2 A3 c3 A4 c4 K l k) (m : Nat) : CutsInv (w.drewN m) H1 H2 A2 n c2 A3 c3 A4 c4 K l k := h
/-- Piece i, not turned over yet. -/
theorem CutsInv.piece {w : World} {H1 H2 g n c2 : Nat} {A3 : Option Addr} {c3 : Nat} {A4 : Option Addr} {c4 K : Nat} {l : List UInt8} {i : Nat} (h : CutsInv w H1 H2 (some ⟨g, 0, none⟩) n c2 A3 c3 A4 c4 K l (208 * i)) (m : Nat) (hm : m = min 208 (n - 208 * i)) (hi : 208 * i < n) :
    Rd w (some ⟨g, 208 * i, none⟩) m m (chunk l i) := by
  have hl : n = l.length := by have := h.1.len; rwa [fl_length] at this
  have hr := h.1.rd
  have hmx := hr.max
  have hcp := hr.cap
  have := hr.part (208 * i) m m (some ⟨g, 208 * i, none⟩) (fun _ => by rw [Nat.zero_add]) (by omega) (Nat.le_refl _) (by omega)
  have e : ((fl l (208 * i)).drop (208 * i)).take m = chunk l i := by
    rw [← fl_chunk l (208 * i) i (Nat.le_refl _), List.take_eq_take_iff, List.length_drop, fl_length]
    omega
  rw [e] at this
  exact this

set_option maxHeartbeats 6400000 in
theorem chainCuts_walk (A : Option Addr) (n c : Nat) (l : List UInt8) (w : World) (h : Rd w A n c l) (hc : c ≤ 140737488351232) :
    Calls Try.prog 5 #[.slice A n c] w fun e w' => e = .returned (.bool true) ∧ Below w.heap.size w w' := by
  have hcap := h.cap
  by_cases hn : 4096 < n
  · have hd : decide ((n : Int) > 4096) = true := decide_eq_true (by omega)
    clear h
    go_enter Try.func5, Try.ntmps5
    go_wp2_with (go_at_call 12; refine (known_any _).mono ?_; rintro e w3 ⟨rfl, hb3⟩)
    go_ret
    exact ⟨rfl, hb3⟩
  · have hd : decide ((n : Int) > 4096) = false := decide_eq_false (by omega)
    have HR := Lib.hid h
    clear h
    go_enter Try.func5, Try.ntmps5
    go_wp2_with fail
    refine (copy_any A n c l _ HR.out (by omega)).mono ?_
    rintro e w1 ⟨A1, c1, rfl, hown1, hb1⟩
    have HB1 := Lib.hid hb1
    have HI1 := Lib.hid (Own.rd hown1)
    clear hown1 hb1
    by_cases hlong : 1024 < n
    · have hd2 : decide ((n : Int) > 1024) = true := decide_eq_true (by omega)
      have HR1 := Lib.hid (HR.out.below HB1.out)
      go_wp2_with (first
        | (go_at_call 17; refine (cut_long A1 n c1 _ hlong (by omega)).mono ?_; rintro e w2 ⟨rfl, rfl⟩)
        | (go_at_call 16; refine (same_refl A1 n c1 l A n c w1 HI1.out HR1.out).mono ?_; rintro e w' ⟨rfl, rfl⟩)
        | (go_at_call 12; refine (known_any _).mono ?_; rintro e w3 ⟨rfl, hb3⟩))
      go_ret
      exact ⟨rfl, HB1.out.trans (hb3.mono HB1.out.size)⟩
    · have hd2 : decide ((n : Int) > 1024) = false := decide_eq_false (by omega)
      obtain ⟨K, HK⟩ : ∃ K, Hid ((n + 207) / 208 = K) := ⟨_, rfl⟩
      have hK5 : K ≤ 5 := by have := HK.out; omega
      go_wp2_with fail
      refine (cut_any A1 n c1 l _ HI1.out (by omega)).mono ?_
      rw [HK.out]
      rintro e w2 ⟨A2, c2, A3, c3, rfl, hown2, hv2, hb2⟩
      have HB2 := Lib.hid (HB1.out.trans (hb2.mono HB1.out.size))
      have HI2 := Lib.hid (HI1.out.below hb2)
      have HO2 := Lib.hid hown2
      have HV2 := Lib.hid hv2
      have HL2 : Hid (Below w1.heap.size w1 w2) := hb2
      have HR2 := Lib.hid (HR.out.below HB2.out)
      clear hown2 hv2 hb2
      go_wp2_with fail
      refine (refcut_any A n c l _ HR2.out (by omega)).mono ?_
      rw [HK.out]
      rintro e w3 ⟨A4, c4, rfl, hcm, hb3⟩
      have HB3 := Lib.hid (HB2.out.trans (hb3.mono HB2.out.size))
      have HL3 := Lib.hid (HL2.out.trans (hb3.mono HL2.out.size))
      have HI3 := Lib.hid (HI2.out.below hb3)
      have HO3 := Lib.hid (HO2.out.below hb3)
      have HV3 := Lib.hid (HV2.out.below hb3)
      have HC3 := Lib.hid hcm
      have hlow : Hid (∀ a, A2 = some a → a.block < w2.heap.size) := HO2.out.lt
      clear hcm hb3 HO2 HV2
      go_wp2_with fail
      obtain ⟨H1, HH1⟩ : ∃ H, Hid (w1.heap.size = H) := ⟨_, rfl⟩
      obtain ⟨H2, HH2⟩ : ∃ H, Hid (w2.heap.size = H) := ⟨_, rfl⟩
      have hH12 : H1 ≤ H2 := by have := HL2.out.size; rw [HH1.out, HH2.out] at this; exact this
      have HN := Lib.hid HR.out.len
      have hci : Hid (CutsInv w3 H1 H2 A2 n c2 A3 c3 A4 c4 K l 0) := by
        obtain ⟨vs, h1, h2⟩ := CutM.all HC3.out
        rw [HH2.out] at h1 h2
        have ho := HO3.out
        have hv := HV3.out
        have hl := hlow.out
        rw [HH1.out] at ho hv
        rw [HH2.out] at hl
        refine ⟨by rw [fl_zero]; exact ho, hl, hv, vs, h1, fun j hj => ?_⟩
        obtain ⟨A', n', c', a1, a2, _⟩ := h2 j hj
        rw [HN.out, List.take_length] at a2
        exact ⟨A', n', c', a1, a2⟩
      have HL3' : Hid (Below H1 w1 w3) := by have := HL3.out; rw [HH1.out] at this; exact this
      go_loopw [51] (fun s wr => ∃ i : Nat, i ≤ K ∧ s = .int .i64 (i : Int) ∧ CutsInv wr H1 H2 A2 n c2 A3 c3 A4 c4 K l (min (208 * i) n) ∧ Below H1 w1 wr) (fun s _ => K - (intOf s).toNat)
      case atStart => exact ⟨0, Nat.zero_le _, rfl, by simpa using hci.out, HL3'.out⟩
      case round =>
        obtain ⟨i, hi, rfl, hinv, hbel⟩ := hrel
        by_cases hlt : i < K
        · have hlt2 : 208 * i < n := by have := HK.out; omega
          rw [Nat.min_eq_left (Nat.le_of_lt hlt2)] at hinv
          obtain ⟨g, rfl, hg⟩ := hinv.1.split (by omega)
          obtain ⟨g3, rfl, hg3⟩ := hinv.2.2.1.split (by omega)
          obtain ⟨m, hm⟩ : ∃ m, m = min 208 (n - 208 * i) := ⟨_, rfl⟩
          have hpc := hinv.piece m hm hlt2
          obtain ⟨vs, hv4, hp4⟩ := hinv.2.2.2
          obtain ⟨g4, rfl, hg4⟩ := hv4.split (by omega)
          obtain ⟨A', n', c', a1, a2⟩ := hp4 i hlt
          have hc3 : wr.cell? ⟨g3, i, none⟩ = some (.slice (some ⟨g, 208 * i, none⟩) m m) := by
            rw [hinv.2.2.1.cell i _ (pcV_get _ _ _ _ hlt), pcAt, ← hm]; rfl
          have hc4 : wr.cell? ⟨g4, i, none⟩ = some (.slice A' n' c') := hv4.cell i _ a1
          have HP := Lib.hid hpc
          have HQ := Lib.hid a2.rd
          have HIV := Lib.hid hinv
          have HBE := Lib.hid hbel
          have HM := Lib.hid hm
          have hcc3 := hinv.2.2.1.cap.1
          have hcc4 := hv4.cap.1
          clear hpc a1 a2 hinv hbel hm hv4 hp4
          go_wp2_with fail
          have hi1 : (0 : Int) ≤ (i : Int) := by omega
          have hi2 : (i : Int) < (K : Int) := by omega
          refine region_gate 10 (fun w' => w'.cell? ⟨g3, i, none⟩ = some (.slice (some ⟨g, 208 * i, none⟩) m m) ∧ w'.cell? ⟨g4, i, none⟩ = some (.slice A' n' c') ∧ Rd w' (some ⟨g, 208 * i, none⟩) m m (chunk l i) ∧ Rd w' A' n' c' (chunk l i)) (by kernel_rfl) ?th1 (fun hHeld => ?tk1)
          case th1 => ((try dsimp only); exact ⟨hc3, hc4, HP.out.below (below_drewN (Below.refl _ _) 1), HQ.out.below (below_drewN (Below.refl _ _) 1)⟩)
          refine' takeV 0 (oi := _) (d := _) (v := _) ?ti2 ?td2 (by kernel_rfl) (by kernel_rfl) (by kernel_rfl) (by kernel_rfl) (by decide) (fun _ _ _ _ _ h => h) ?tg2 ?ty2 (by assumption) ?tr2
          case ti2 => (simp only [List.getElem?_toArray, List.getElem?_cons_succ, List.getElem?_cons_zero]; rfl)
          case td2 => exact rfl
          case tg2 => exact rfl
          case ty2 => (intro w hSw; (try dsimp only at hSw); go_split_ands; go_simp; try with_reducible rfl)
          simp only [List.setIfInBounds_toArray, List.set_cons_zero, List.set_cons_succ]
          refine' takeV 1 (oi := _) (d := _) (v := _) ?ti3 ?td3 (by kernel_rfl) (by kernel_rfl) (by kernel_rfl) (by kernel_rfl) (by decide) (fun _ _ _ _ _ h => h) ?tg3 ?ty3 (by assumption) ?tr3
          case ti3 => (simp only [List.getElem?_toArray, List.getElem?_cons_succ, List.getElem?_cons_zero]; rfl)
          case td3 => exact rfl
          case tg3 => exact rfl
          case ty3 => (intro w hSw; (try dsimp only at hSw); go_split_ands; go_simp; try with_reducible rfl)
          simp only [List.setIfInBounds_toArray, List.set_cons_zero, List.set_cons_succ]
          refine' takeV 2 (oi := _) (d := _) (v := _) ?ti4 ?td4 (by kernel_rfl) (by kernel_rfl) (by kernel_rfl) (by kernel_rfl) (by decide) (fun _ _ _ _ _ h => h) ?tg4 ?ty4 (by assumption) ?tr4
          case ti4 => (simp only [List.getElem?_toArray, List.getElem?_cons_succ, List.getElem?_cons_zero]; rfl)
          case td4 => exact rfl
          case tg4 => exact rfl
          case ty4 => (intro w hSw; (try dsimp only at hSw); go_split_ands; go_simp; try with_reducible rfl)
          simp only [List.setIfInBounds_toArray, List.set_cons_zero, List.set_cons_succ]
          refine' takeV 3 (oi := _) (d := _) (v := _) ?ti5 ?td5 (by kernel_rfl) (by kernel_rfl) (by kernel_rfl) (by kernel_rfl) (by decide) (fun _ _ _ _ _ h => h) ?tg5 ?ty5 (by assumption) ?tr5
          case ti5 => (simp only [List.getElem?_toArray, List.getElem?_cons_succ, List.getElem?_cons_zero]; rfl)
          case td5 => exact rfl
          case tg5 => exact rfl
          case ty5 => (intro w hSw; (try dsimp only at hSw); go_split_ands; go_simp; try with_reducible rfl)
          simp only [List.setIfInBounds_toArray, List.set_cons_zero, List.set_cons_succ]
          refine' takeV 4 (oi := _) (d := _) (v := _) ?ti6 ?td6 (by kernel_rfl) (by kernel_rfl) (by kernel_rfl) (by kernel_rfl) (by decide) (fun _ _ _ _ _ h => h) ?tg6 ?ty6 (by assumption) ?tr6
          case ti6 => (simp only [List.getElem?_toArray, List.getElem?_cons_succ, List.getElem?_cons_zero]; rfl)
          case td6 => exact rfl
          case tg6 => exact rfl
          case ty6 => (intro w hSw; (try dsimp only at hSw); go_split_ands; go_simp; try with_reducible rfl)
          simp only [List.setIfInBounds_toArray, List.set_cons_zero, List.set_cons_succ]
          refine' takeV 5 (oi := _) (d := _) (v := _) ?ti7 ?td7 (by kernel_rfl) (by kernel_rfl) (by kernel_rfl) (by kernel_rfl) (by decide) (fun _ _ _ _ _ h => h) ?tg7 ?ty7 (by assumption) ?tr7
          case ti7 => (simp only [List.getElem?_toArray, List.getElem?_cons_succ, List.getElem?_cons_zero]; rfl)
          case td7 => exact rfl
          case tg7 => exact rfl
          case ty7 => (intro w hSw; (try dsimp only at hSw); go_split_ands; go_simp; try with_reducible rfl)
          simp only [List.setIfInBounds_toArray, List.set_cons_zero, List.set_cons_succ]
          refine' takeV 6 (oi := _) (d := _) (v := _) ?ti8 ?td8 (by kernel_rfl) (by kernel_rfl) (by kernel_rfl) (by kernel_rfl) (by decide) (fun _ _ _ _ _ h => h) ?tg8 ?ty8 (by assumption) ?tr8
          case ti8 => (simp only [List.getElem?_toArray, List.getElem?_cons_succ, List.getElem?_cons_zero]; rfl)
          case td8 => exact rfl
          case tg8 => exact rfl
          case ty8 => (intro w hSw; (try dsimp only at hSw); go_split_ands; go_simp; try with_reducible rfl)
          simp only [List.setIfInBounds_toArray, List.set_cons_zero, List.set_cons_succ]
          refine' takeV 7 (oi := _) (d := _) (v := _) ?ti9 ?td9 (by kernel_rfl) (by kernel_rfl) (by kernel_rfl) (by kernel_rfl) (by decide) (fun _ _ _ _ _ h => h) ?tg9 ?ty9 (by assumption) ?tr9
          case ti9 => (simp only [List.getElem?_toArray, List.getElem?_cons_succ, List.getElem?_cons_zero]; rfl)
          case td9 => exact rfl
          case tg9 => exact rfl
          case ty9 => (intro w hSw; (try dsimp only at hSw); go_split_ands; go_simp; try with_reducible rfl)
          simp only [List.setIfInBounds_toArray, List.set_cons_zero, List.set_cons_succ]
          refine' takeC 8 (oi := _) (d := _) (v := _) ?ti10 ?td10 (by kernel_rfl) (by kernel_rfl) (by kernel_rfl) (by kernel_rfl) (by decide) (fun _ _ _ _ _ h => h) ?tg10 ?ty10 (by assumption) ?tr10
          case ti10 => (simp only [List.getElem?_toArray, List.getElem?_cons_succ, List.getElem?_cons_zero]; rfl)
          case td10 => exact rfl
          case tg10 => exact rfl
          case ty10 => (intro w hSw; have hc := same_refl _ _ _ (chunk l i) _ _ _ w hSw.2.2.1 hSw.2.2.2; exact OnlyV.call rfl Try.func16 (by kernel_rfl) (by kernel_rfl) (Calls.mono hc (by rintro e w2 ⟨rfl, rfl⟩; constructor <;> rfl)) (by simp only [List.map_toArray, List.map_cons, List.map_nil]; rfl))
          simp only [List.setIfInBounds_toArray, List.set_cons_zero, List.set_cons_succ]
          refine' takeV 9 (oi := _) (d := _) (v := _) ?ti11 ?td11 (by kernel_rfl) (by kernel_rfl) (by kernel_rfl) (by kernel_rfl) (by decide) (fun _ _ _ _ _ h => h) ?tg11 ?ty11 (by assumption) ?tr11
          case ti11 => (simp only [List.getElem?_toArray, List.getElem?_cons_succ, List.getElem?_cons_zero]; rfl)
          case td11 => exact rfl
          case tg11 => exact rfl
          case ty11 => (intro w hSw; (try dsimp only at hSw); go_split_ands; go_simp; try with_reducible rfl)
          simp only [List.setIfInBounds_toArray, List.set_cons_zero, List.set_cons_succ]
          refine doneG (by kernel_rfl) ?_ _
          obtain ⟨wd, hwd⟩ : ∃ wd, wd = wr.drew := ⟨_, rfl⟩
          have HID : Hid (CutsInv wd H1 H2 (some ⟨g, 0, none⟩) n c2 (some ⟨g3, 0, none⟩) c3 (some ⟨g4, 0, none⟩) c4 K l (208 * i)) := by rw [hwd]; exact HIV.out
          have HBD : Hid (Below H1 w1 wd) := by rw [hwd]; exact HBE.out.drew
          rw [← hwd] at hHeld ⊢
          clear hwd hc3 hc4 HIV HBE
          obtain ⟨hd3, hd4, _, _⟩ := hHeld
          go_wp2_with fail
          have hm1 : 208 * i + m ≤ n := by have := HM.out; omega
          have hm2 : m ≤ 208 := by have := HM.out; omega
          clear hd3 hd4
          go_loopw [69] (fun s wr => ∃ k : Nat, k ≤ m ∧ s = .int .i64 (k : Int) ∧ CutsInv wr H1 H2 (some ⟨g, 0, none⟩) n c2 (some ⟨g3, 0, none⟩) c3 (some ⟨g4, 0, none⟩) c4 K l (208 * i + k) ∧ Below H1 w1 wr) (fun s _ => m - (intOf s).toNat)
          case atStart => exact ⟨0, Nat.zero_le _, rfl, HID.out, HBD.out⟩
          case round =>
            obtain ⟨k, hk, rfl, hinv, hbel⟩ := hrel
            have HIV := Lib.hid hinv
            have HBE := Lib.hid hbel
            by_cases hkm : k < m
            · have hc3 : wr.cell? ⟨g3, i, none⟩ = some (.slice (some ⟨g, 208 * i, none⟩) m m) := by
                rw [hinv.2.2.1.cell i _ (pcV_get _ _ _ _ hlt), pcAt, ← HM.out]; rfl
              obtain ⟨x, HX⟩ : ∃ x, Hid (x = l.getD (208 * i + k) 0) := ⟨_, rfl⟩
              have hcx : wr.cell? ⟨g, 208 * i + k, none⟩ = some (B8 x) := by
                rw [own_cell hinv.1 (208 * i + k) (by omega), fl_get _ _ _ (Nat.le_refl _), HX.out]
              have hfr : wr.frozen? ⟨g, 208 * i + k, none⟩ = false := hinv.1.frozenAt _
              have hx := x.toNat_lt
              have hfl := flip255 x
              clear hinv hbel
              go_wp2
              go_roundw
              case rel =>
                refine ⟨k + 1, by omega, by go_num, ?_, HBE.out.setCell hg _⟩
                have := HIV.out.flip (by rw [← HN.out]; omega)
                rw [← HX.out] at this
                exact this
              case measure => first | (simp [intOf]; done) | (simp [intOf]; omega)
            · obtain rfl : k = m := by omega
              clear hinv hbel
              go_wp2_with fail
              go_roundw
              case rel =>
                refine ⟨i + 1, by omega, by go_num, ?_, HBE.out⟩
                rw [show min (208 * (i + 1)) n = 208 * i + k by have := HM.out; omega]
                exact HIV.out
              case measure => first | (simp [intOf]; done) | (simp [intOf]; omega)
        · obtain rfl : i = K := by omega
          have HBW : Hid (Below w1.heap.size w1 wr) := by show Below w1.heap.size w1 wr; rw [HH1.out]; exact hbel
          have HBT : Hid (Below w.heap.size w wr) := HB1.out.trans (HBW.out.mono HB1.out.size)
          have HI5 := Lib.hid (HI1.out.below HBW.out)
          have HR5 := Lib.hid (HR.out.below HBT.out)
          clear hbel hinv
          go_wp2_with (first
            | (go_at_call 16; refine (same_refl A1 n c1 l A n c _ HI5.out HR5.out).mono ?_; rintro e w' ⟨rfl, rfl⟩)
            | (go_at_call 12; refine (known_any _).mono ?_; rintro e w6 ⟨rfl, hb6⟩))
          go_ret
          exact ⟨rfl, HBT.out.trans (hb6.mono HBT.out.size)⟩
end Go.Proofs.Ytbfcpapibenndaa
