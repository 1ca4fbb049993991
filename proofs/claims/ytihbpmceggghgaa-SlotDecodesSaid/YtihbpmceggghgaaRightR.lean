/- Contracts: whether a node is right, as the reference has it. -/
import Derived.Test.YtihbpmceggghgaaRight
set_option linter.unusedVariables false
set_option linter.unusedSimpArgs false
namespace Go.Proofs.Ytihbpmceggghgaa
open Go.RowKit

/-- What a world has that grew out of W: a node's cells, and those of one of its entries. -/
theorem here_all {W wx : World} {B : Nat} {k l : Nat} {A : Option Addr} {n c : Nat} {b o : Nat} {A1 : Option Addr} {n1 c1 : Nat} {A2 : Option Addr} {n2 c2 : Nat} {L : Int} {r s : Rf} (hn : Blk W B 24 #[.int .u8 (k : Int), .int .u8 (l : Int), .slice A n c]) (he : EAt W b o A1 n1 c1 A2 n2 c2 L r s) (hb : Below W.heap.size W wx) :
    wx.cell? ⟨B, 0, none⟩ = some (.int .u8 (k : Int)) ∧ wx.cell? ⟨B, 2, none⟩ = some (.slice A n c) ∧ wx.cell? ⟨b, o, none⟩ = some (.slice A1 n1 c1) ∧ wx.cell? ⟨b, o + 1, none⟩ = some (.slice A2 n2 c2) ∧ wx.cell? ⟨b, o + 2, none⟩ = some (.int .i64 L) ∧
    wx.cell? ⟨b, o + 3, none⟩ = some (.int .u32 (r.1 : Int)) ∧ wx.cell? ⟨b, o + 4, none⟩ = some (.int .u64 (r.2.1 : Int)) ∧ wx.cell? ⟨b, o + 5, none⟩ = some (.int .u16 (r.2.2 : Int)) ∧
    wx.cell? ⟨b, o + 6, none⟩ = some (.int .u32 (s.1 : Int)) ∧ wx.cell? ⟨b, o + 7, none⟩ = some (.int .u64 (s.2.1 : Int)) ∧ wx.cell? ⟨b, o + 8, none⟩ = some (.int .u16 (s.2.2 : Int)) ∧ Below W.heap.size W wx := by
  have hx := he.below hb
  have hk := hn.below hb hn.lt
  exact ⟨hk.cell 0, hk.cell 2, hx.c0, hx.c1, hx.c2, hx.c3, hx.c4, hx.c5, hx.c6, hx.c7, hx.c8, hb⟩

set_option maxRecDepth 100000 in
set_option maxHeartbeats 3200000 in
theorem refright_any (k l : Nat) (A : Option Addr) (n c : Nat) (es : List Ent) (w : World) (h : RdL w A n c es) (hk : k < 256) (hl : l < 256) :
    Calls Try.prog 14 #[NdV k l A n c] w fun e w' => e = .returned (.int .i64 (rE k l es)) ∧ Below w.heap.size w w' := by
  have hcap := h.cap
  have hmax := h.max
  unfold maxLen at hmax
  have HLn := Lib.hid h.len
  obtain ⟨W, hW⟩ : ∃ W, W = w.alloc (.cells #[.int .u8 (k : Int), .int .u8 (l : Int), .slice A n c] 24) := ⟨_, rfl⟩
  have HWB : Hid (Below w.heap.size w W) := by rw [hW]; exact below_new1 _ _
  have KN : Hid (Blk W w.heap.size 24 #[.int .u8 (k : Int), .int .u8 (l : Int), .slice A n c]) := by rw [hW]; exact Blk.new _ _ _
  have HR := Lib.hid (h.below HWB.out)
  have HW := Lib.hid hW
  obtain ⟨q, hq⟩ : ∃ q, shp k l = q := ⟨_, rfl⟩
  have HS := Lib.hid (refshp_any k l W hk hl)
  rw [hq] at HS
  have HQ := Lib.hid hq
  clear h hW hq
  have d0 := KN.out.cell 0
  have d1 := KN.out.cell 1
  have d2 := KN.out.cell 2
  cases q with
  | false =>
    have HE := Lib.hid (rE_shape (es := es) HQ.out)
    rw [HE.out]
    go_enter Try.func14, Try.ntmps14
    go_wp2_with fail
    rw [← HW.out]
    refine HS.out.mono ?_
    rintro e w' ⟨rfl, rfl⟩
    go_wp2_with fail
    go_ret
    exact ⟨rfl, HWB.out⟩
  | true =>
    by_cases h2 : k = 2 ∧ n = 0
    · have HE := Lib.hid (rE_none (k := k) (l := l) (es := es) h2.1 (by rw [← HLn.out]; exact h2.2))
      have hb : ((k : Int) == 2) = true := by rw [beq_iff_eq]; omega
      have hb0 : ((n : Int) == 0) = true := by rw [beq_iff_eq]; omega
      rw [HE.out]
      clear h2
      go_enter Try.func14, Try.ntmps14
      go_wp2_with fail
      rw [← HW.out]
      refine HS.out.mono ?_
      rintro e w' ⟨rfl, rfl⟩
      go_wp2_with fail
      go_ret
      exact ⟨rfl, HWB.out⟩
    · have HE := Lib.hid (rE_go (k := k) (l := l) (es := es) HQ.out (by rw [← HLn.out]; exact h2))
      rw [HE.out]
      have hcase : ((k : Int) == 2) = false ∨ (((k : Int) == 2) = true ∧ ((n : Int) == 0) = false) := by
        by_cases e : k = 2
        · exact .inr ⟨by rw [beq_iff_eq]; omega, by rw [beq_eq_false_iff_ne]; intro e0; exact h2 ⟨e, by omega⟩⟩
        · exact .inl (by rw [beq_eq_false_iff_ne]; omega)
      have HCA := Lib.hid hcase
      clear h2 hcase
      go_enter Try.func14, Try.ntmps14
      go_wp2_with fail
      rw [← HW.out]
      refine HS.out.mono ?_
      rintro e w' ⟨rfl, rfl⟩
      have hWs : w.heap.size < W.heap.size := KN.out.lt
      rcases HCA.out with hb | ⟨hb, hb0⟩
      · go_wp2_with fail
        clear hb d0 d1 d2
        go_loopw [3] (fun z wr => ∃ i : Nat, i ≤ n ∧ z = .int .i64 (i : Int) ∧ rTo k es i = 0 ∧ Below W.heap.size W wr) (fun z _ => n - (intOf z).toNat)
        case atStart => exact ⟨0, Nat.zero_le _, rfl, rfl, Below.refl _ _⟩
        case round =>
          obtain ⟨i, hi, rfl, hto, hbel⟩ := hrel
          have HTO := Lib.hid hto
          have HBE := Lib.hid hbel
          have hbs := hbel.size
          have KNr := Lib.hid (KN.out.below hbel KN.out.lt)
          have d2 := KNr.out.cell 2
          clear hto hbel
          by_cases hlt : i < n
          · obtain ⟨b, o, A1, n1, c1, A2, n2, c2, L, r, s, K, rfl, hat, hrd, hkey, hem, hn1, hn2⟩ := HR.out.here i hlt k
            have TR := Lib.hid (fun wx (hb : Below W.heap.size W wx) => here_all KN.out hat hb)
            obtain ⟨em, hem2⟩ : ∃ em, emay k i (es.getD i ent0) = em := ⟨_, rfl⟩
            have hM := fun V => refemay_any k i A1 n1 c1 A2 n2 c2 L r s V hk (by omega) hn1 hn2
            rw [hem, hem2] at hM
            have M := Lib.hid hM
            have HEM2 := Lib.hid hem2
            have i1 : (0 : Int) ≤ (i : Int) := by omega
            have i2 : (i : Int) < (n : Int) := by omega
            have HKEY := Lib.hid hkey
            have HRD := Lib.hid hrd
            clear hat hrd hkey hem hem2 hM
            go_wp2_with fail
            clear d2
            refine region_gate 10 (fun w' => w'.cell? ⟨w.heap.size, 0, none⟩ = some (.int .u8 (k : Int)) ∧ w'.cell? ⟨w.heap.size, 2, none⟩ = some (.slice (some ⟨b, o, none⟩) n c) ∧ w'.cell? ⟨b, o + i * 9, none⟩ = some (.slice A1 n1 c1) ∧ w'.cell? ⟨b, o + i * 9 + 1, none⟩ = some (.slice A2 n2 c2) ∧ w'.cell? ⟨b, o + i * 9 + 2, none⟩ = some (.int .i64 L) ∧ w'.cell? ⟨b, o + i * 9 + 3, none⟩ = some (.int .u32 (r.1 : Int)) ∧ w'.cell? ⟨b, o + i * 9 + 4, none⟩ = some (.int .u64 (r.2.1 : Int)) ∧ w'.cell? ⟨b, o + i * 9 + 5, none⟩ = some (.int .u16 (r.2.2 : Int)) ∧ w'.cell? ⟨b, o + i * 9 + 6, none⟩ = some (.int .u32 (s.1 : Int)) ∧ w'.cell? ⟨b, o + i * 9 + 7, none⟩ = some (.int .u64 (s.2.1 : Int)) ∧ w'.cell? ⟨b, o + i * 9 + 8, none⟩ = some (.int .u16 (s.2.2 : Int)) ∧ Below W.heap.size W w') (by kernel_rfl) ?th1 (fun hHeld => ?tk1)
            case th1 => ((try dsimp only); exact TR.out _ HBE.out.drew)
            refine' takeV 0 (oi := _) (d := _) (v := _) ?ti2 ?td2 (by kernel_rfl) (by kernel_rfl) (by kernel_rfl) (by kernel_rfl) (by decide) (fun _ _ _ _ _ h => h) ?tg2 ?ty2 (by assumption) ?tr2
            case ti2 => (simp only [List.getElem?_toArray, List.getElem?_cons_succ, List.getElem?_cons_zero]; rfl)
            case td2 => exact rfl
            case tg2 => exact rfl
            case ty2 => (intro w hSw; (try dsimp only at hSw); go_split_ands; go_simp; try with_reducible rfl)
            simp only [List.setIfInBounds_toArray, List.set_cons_zero, List.set_cons_succ]
            refine' takeV 1 (oi := _) (d := _) (v := _) ?ti3 ?td3 (by kernel_rfl) (by kernel_rfl) (by kernel_rfl) (by kernel_rfl) (by decide) (fun _ _ _ _ _ h => h) ?tg3 ?ty3 (by assumption) ?tr3
            case ti3 => (simp only [List.getElem?_toArray, List.getElem?_cons_succ, List.getElem?_cons_zero]; rfl)
            case td3 => exact rfl
            case tg3 => exact rfl
            case ty3 => (intro w hSw; (try dsimp only at hSw); go_split_ands; go_simp; try with_reducible rfl)
            simp only [List.setIfInBounds_toArray, List.set_cons_zero, List.set_cons_succ]
            refine' takeV 2 (oi := _) (d := _) (v := _) ?ti4 ?td4 (by kernel_rfl) (by kernel_rfl) (by kernel_rfl) (by kernel_rfl) (by decide) (fun _ _ _ _ _ h => h) ?tg4 ?ty4 (by assumption) ?tr4
            case ti4 => (simp only [List.getElem?_toArray, List.getElem?_cons_succ, List.getElem?_cons_zero]; rfl)
            case td4 => exact rfl
            case tg4 => exact rfl
            case ty4 => (intro w hSw; (try dsimp only at hSw); go_split_ands; go_simp; try with_reducible rfl)
            simp only [List.setIfInBounds_toArray, List.set_cons_zero, List.set_cons_succ]
            refine' takeV 3 (oi := _) (d := _) (v := _) ?ti5 ?td5 (by kernel_rfl) (by kernel_rfl) (by kernel_rfl) (by kernel_rfl) (by decide) (fun _ _ _ _ _ h => h) ?tg5 ?ty5 (by assumption) ?tr5
            case ti5 => (simp only [List.getElem?_toArray, List.getElem?_cons_succ, List.getElem?_cons_zero]; rfl)
            case td5 => exact rfl
            case tg5 => exact rfl
            case ty5 => (intro w hSw; (try dsimp only at hSw); go_split_ands; go_simp; try with_reducible rfl)
            simp only [List.setIfInBounds_toArray, List.set_cons_zero, List.set_cons_succ]
            refine' takeV 4 (oi := _) (d := _) (v := _) ?ti6 ?td6 (by kernel_rfl) (by kernel_rfl) (by kernel_rfl) (by kernel_rfl) (by decide) (fun _ _ _ _ _ h => h) ?tg6 ?ty6 (by assumption) ?tr6
            case ti6 => (simp only [List.getElem?_toArray, List.getElem?_cons_succ, List.getElem?_cons_zero]; rfl)
            case td6 => exact rfl
            case tg6 => exact rfl
            case ty6 => (intro w hSw; (try dsimp only at hSw); go_split_ands; go_simp; try with_reducible rfl)
            simp only [List.setIfInBounds_toArray, List.set_cons_zero, List.set_cons_succ]
            refine' takeV 5 (oi := _) (d := _) (v := _) ?ti7 ?td7 (by kernel_rfl) (by kernel_rfl) (by kernel_rfl) (by kernel_rfl) (by decide) (fun _ _ _ _ _ h => h) ?tg7 ?ty7 (by assumption) ?tr7
            case ti7 => (simp only [List.getElem?_toArray, List.getElem?_cons_succ, List.getElem?_cons_zero]; rfl)
            case td7 => exact rfl
            case tg7 => exact rfl
            case ty7 => (intro w hSw; (try dsimp only at hSw); go_split_ands; go_simp; try with_reducible rfl)
            simp only [List.setIfInBounds_toArray, List.set_cons_zero, List.set_cons_succ]
            refine' takeV 6 (oi := _) (d := _) (v := _) ?ti8 ?td8 (by kernel_rfl) (by kernel_rfl) (by kernel_rfl) (by kernel_rfl) (by decide) (fun _ _ _ _ _ h => h) ?tg8 ?ty8 (by assumption) ?tr8
            case ti8 => (simp only [List.getElem?_toArray, List.getElem?_cons_succ, List.getElem?_cons_zero]; rfl)
            case td8 => exact rfl
            case tg8 => exact rfl
            case ty8 => (intro w hSw; (try dsimp only at hSw); go_split_ands; go_simp; try with_reducible rfl)
            simp only [List.setIfInBounds_toArray, List.set_cons_zero, List.set_cons_succ]
            refine' takeV 7 (oi := _) (d := _) (v := _) ?ti9 ?td9 (by kernel_rfl) (by kernel_rfl) (by kernel_rfl) (by kernel_rfl) (by decide) (fun _ _ _ _ _ h => h) ?tg9 ?ty9 (by assumption) ?tr9
            case ti9 => (simp only [List.getElem?_toArray, List.getElem?_cons_succ, List.getElem?_cons_zero]; rfl)
            case td9 => exact rfl
            case tg9 => exact rfl
            case ty9 => (intro w hSw; (try dsimp only at hSw); go_split_ands; go_simp; try with_reducible rfl)
            simp only [List.setIfInBounds_toArray, List.set_cons_zero, List.set_cons_succ]
            clear hHeld
            refine stepG 8 (by kernel_rfl) (by simp only [List.getElem?_toArray, List.getElem?_cons_succ, List.getElem?_cons_zero]; rfl) (fun K hK => ?_)
            go_simp
            refine (M.out _).mono ?_
            rintro e w4 ⟨rfl, hb4⟩
            refine hK.out _ _ ?ts10 (fun hHeld => ?_)
            case ts10 => ((try dsimp only); exact TR.out _ (HBE.out.drew.trans (hb4.mono hbs)))
            clear hK K
            have HBT := Lib.hid (HBE.out.drew.trans (hb4.mono hbs))
            clear hb4 M
            refine' takeV 9 (oi := _) (d := _) (v := _) ?ti11 ?td11 (by kernel_rfl) (by kernel_rfl) (by kernel_rfl) (by kernel_rfl) (by decide) (fun _ _ _ _ _ h => h) ?tg11 ?ty11 (by assumption) ?tr11
            case ti11 => (simp only [List.getElem?_toArray, List.getElem?_cons_succ, List.getElem?_cons_zero]; rfl)
            case td11 => exact rfl
            case tg11 => exact rfl
            case ty11 => (intro w hSw; (try dsimp only at hSw); go_split_ands; go_simp; try with_reducible rfl)
            simp only [List.setIfInBounds_toArray, List.set_cons_zero, List.set_cons_succ]
            refine doneG (by kernel_rfl) ?_ _
            clear hHeld
            have hbt := HBT.out.size
            have HRDw := Lib.hid (HRD.out.below HBT.out)
            cases em with
            | false =>
              have HF := Lib.hid (rAt_may HEM2.out)
              have HG := Lib.hid (rTo_at HTO.out (by rw [HF.out]; decide) (by rw [← HLn.out]; exact hlt))
              go_wp2_with fail
              go_ret
              exact ⟨by rw [HG.out, HF.out]; rfl, HWB.out.trans (HBT.out.mono (Nat.le_of_lt hWs))⟩
            | true =>
              by_cases hi0 : i = 0
              · have HF : Hid (rAt k es i = 0) := by
                  have := HEM2.out
                  rw [hi0] at this ⊢
                  exact rAt_zero this
                have HN : Hid (rTo k es (i + 1) = 0) := by show _ = _; rw [rTo, if_pos HTO.out]; exact HF.out
                have hd : decide ((i : Int) > 0) = false := decide_eq_false (by omega)
                have hd1 : decide ((0 : Int) < (i : Int)) = false := decide_eq_false (by omega)
                have hd2 : decide (0 < i) = false := decide_eq_false (by omega)
                clear hi0
                go_wp2_with fail
                refine region_gate 19 (fun w' => Below w4.heap.size w4 w') (by kernel_rfl) ?th12 (fun hHeld => ?tk12)
                case th12 => ((try dsimp only); exact (Below.refl _ _).drew)
                refine' takeV 0 (oi := _) (d := _) (v := _) ?ti13 ?td13 (by kernel_rfl) (by kernel_rfl) (by kernel_rfl) (by kernel_rfl) (by decide) (fun _ _ _ _ _ h => h) ?tg13 ?ty13 (by assumption) ?tr13
                case ti13 => (simp only [List.getElem?_toArray, List.getElem?_cons_succ, List.getElem?_cons_zero]; rfl)
                case td13 => exact rfl
                case tg13 => exact rfl
                case ty13 => (intro w hSw; (try dsimp only at hSw); go_split_ands; go_simp; try with_reducible rfl)
                simp only [List.setIfInBounds_toArray, List.set_cons_zero, List.set_cons_succ]
                refine' takeV 1 (oi := _) (d := _) (v := _) ?ti14 ?td14 (by kernel_rfl) (by kernel_rfl) (by kernel_rfl) (by kernel_rfl) (by decide) (fun _ _ _ _ _ h => h) ?tg14 ?ty14 (by assumption) ?tr14
                case ti14 => (simp only [List.getElem?_toArray, List.getElem?_cons_succ, List.getElem?_cons_zero]; rfl)
                case td14 => exact rfl
                case tg14 => exact rfl
                case ty14 => (intro w hSw; (try dsimp only at hSw); go_split_ands; go_simp; try with_reducible rfl)
                simp only [List.setIfInBounds_toArray, List.set_cons_zero, List.set_cons_succ]
                refine' takeV 2 (oi := _) (d := _) (v := _) ?ti15 ?td15 (by kernel_rfl) (by kernel_rfl) (by kernel_rfl) (by kernel_rfl) (by decide) (fun _ _ _ _ _ h => h) ?tg15 ?ty15 (by assumption) ?tr15
                case ti15 => (simp only [List.getElem?_toArray, List.getElem?_cons_succ, List.getElem?_cons_zero]; rfl)
                case td15 => exact rfl
                case tg15 => exact rfl
                case ty15 => (intro w hSw; (try dsimp only at hSw); go_split_ands; go_simp; try with_reducible rfl)
                simp only [List.setIfInBounds_toArray, List.set_cons_zero, List.set_cons_succ]
                refine' takeU 3 (oi := _) (d := _) ?ti16 ?td16 (by kernel_rfl) (by kernel_rfl) (by kernel_rfl) (by decide) (fun _ _ _ _ _ h => h) ?tg16 ?tf16 ?tr16
                case ti16 => (simp only [List.getElem?_toArray, List.getElem?_cons_succ, List.getElem?_cons_zero]; rfl)
                case td16 => exact rfl
                case tg16 => exact rfl
                case tf16 => first | (intro _; assumption) | (intro e; exact absurd e (by decide +kernel))
                simp only [List.setIfInBounds_toArray, List.set_cons_zero, List.set_cons_succ]
                refine' takeU 4 (oi := _) (d := _) ?ti17 ?td17 (by kernel_rfl) (by kernel_rfl) (by kernel_rfl) (by decide) (fun _ _ _ _ _ h => h) ?tg17 ?tf17 ?tr17
                case ti17 => (simp only [List.getElem?_toArray, List.getElem?_cons_succ, List.getElem?_cons_zero]; rfl)
                case td17 => exact rfl
                case tg17 => exact rfl
                case tf17 => first | (intro _; assumption) | (intro e; exact absurd e (by decide +kernel))
                simp only [List.setIfInBounds_toArray, List.set_cons_zero, List.set_cons_succ]
                refine' takeU 5 (oi := _) (d := _) ?ti18 ?td18 (by kernel_rfl) (by kernel_rfl) (by kernel_rfl) (by decide) (fun _ _ _ _ _ h => h) ?tg18 ?tf18 ?tr18
                case ti18 => (simp only [List.getElem?_toArray, List.getElem?_cons_succ, List.getElem?_cons_zero]; rfl)
                case td18 => exact rfl
                case tg18 => exact rfl
                case tf18 => first | (intro _; assumption) | (intro e; exact absurd e (by decide +kernel))
                simp only [List.setIfInBounds_toArray, List.set_cons_zero, List.set_cons_succ]
                refine' takeU 6 (oi := _) (d := _) ?ti19 ?td19 (by kernel_rfl) (by kernel_rfl) (by kernel_rfl) (by decide) (fun _ _ _ _ _ h => h) ?tg19 ?tf19 ?tr19
                case ti19 => (simp only [List.getElem?_toArray, List.getElem?_cons_succ, List.getElem?_cons_zero]; rfl)
                case td19 => exact rfl
                case tg19 => exact rfl
                case tf19 => first | (intro _; assumption) | (intro e; exact absurd e (by decide +kernel))
                simp only [List.setIfInBounds_toArray, List.set_cons_zero, List.set_cons_succ]
                refine' takeU 7 (oi := _) (d := _) ?ti20 ?td20 (by kernel_rfl) (by kernel_rfl) (by kernel_rfl) (by decide) (fun _ _ _ _ _ h => h) ?tg20 ?tf20 ?tr20
                case ti20 => (simp only [List.getElem?_toArray, List.getElem?_cons_succ, List.getElem?_cons_zero]; rfl)
                case td20 => exact rfl
                case tg20 => exact rfl
                case tf20 => first | (intro _; assumption) | (intro e; exact absurd e (by decide +kernel))
                simp only [List.setIfInBounds_toArray, List.set_cons_zero, List.set_cons_succ]
                refine' takeU 8 (oi := _) (d := _) ?ti21 ?td21 (by kernel_rfl) (by kernel_rfl) (by kernel_rfl) (by decide) (fun _ _ _ _ _ h => h) ?tg21 ?tf21 ?tr21
                case ti21 => (simp only [List.getElem?_toArray, List.getElem?_cons_succ, List.getElem?_cons_zero]; rfl)
                case td21 => exact rfl
                case tg21 => exact rfl
                case tf21 => first | (intro _; assumption) | (intro e; exact absurd e (by decide +kernel))
                simp only [List.setIfInBounds_toArray, List.set_cons_zero, List.set_cons_succ]
                refine' takeU 9 (oi := _) (d := _) ?ti22 ?td22 (by kernel_rfl) (by kernel_rfl) (by kernel_rfl) (by decide) (fun _ _ _ _ _ h => h) ?tg22 ?tf22 ?tr22
                case ti22 => (simp only [List.getElem?_toArray, List.getElem?_cons_succ, List.getElem?_cons_zero]; rfl)
                case td22 => exact rfl
                case tg22 => exact rfl
                case tf22 => first | (intro _; assumption) | (intro e; exact absurd e (by decide +kernel))
                simp only [List.setIfInBounds_toArray, List.set_cons_zero, List.set_cons_succ]
                refine' takeU 10 (oi := _) (d := _) ?ti23 ?td23 (by kernel_rfl) (by kernel_rfl) (by kernel_rfl) (by decide) (fun _ _ _ _ _ h => h) ?tg23 ?tf23 ?tr23
                case ti23 => (simp only [List.getElem?_toArray, List.getElem?_cons_succ, List.getElem?_cons_zero]; rfl)
                case td23 => exact rfl
                case tg23 => exact rfl
                case tf23 => first | (intro _; assumption) | (intro e; exact absurd e (by decide +kernel))
                simp only [List.setIfInBounds_toArray, List.set_cons_zero, List.set_cons_succ]
                refine' takeU 11 (oi := _) (d := _) ?ti24 ?td24 (by kernel_rfl) (by kernel_rfl) (by kernel_rfl) (by decide) (fun _ _ _ _ _ h => h) ?tg24 ?tf24 ?tr24
                case ti24 => (simp only [List.getElem?_toArray, List.getElem?_cons_succ, List.getElem?_cons_zero]; rfl)
                case td24 => exact rfl
                case tg24 => exact rfl
                case tf24 => first | (intro _; assumption) | (intro e; exact absurd e (by decide +kernel))
                simp only [List.setIfInBounds_toArray, List.set_cons_zero, List.set_cons_succ]
                refine' takeU 12 (oi := _) (d := _) ?ti25 ?td25 (by kernel_rfl) (by kernel_rfl) (by kernel_rfl) (by decide) (fun _ _ _ _ _ h => h) ?tg25 ?tf25 ?tr25
                case ti25 => (simp only [List.getElem?_toArray, List.getElem?_cons_succ, List.getElem?_cons_zero]; rfl)
                case td25 => exact rfl
                case tg25 => exact rfl
                case tf25 => first | (intro _; assumption) | (intro e; exact absurd e (by decide +kernel))
                simp only [List.setIfInBounds_toArray, List.set_cons_zero, List.set_cons_succ]
                refine' takeU 13 (oi := _) (d := _) ?ti26 ?td26 (by kernel_rfl) (by kernel_rfl) (by kernel_rfl) (by decide) (fun _ _ _ _ _ h => h) ?tg26 ?tf26 ?tr26
                case ti26 => (simp only [List.getElem?_toArray, List.getElem?_cons_succ, List.getElem?_cons_zero]; rfl)
                case td26 => exact rfl
                case tg26 => exact rfl
                case tf26 => first | (intro _; assumption) | (intro e; exact absurd e (by decide +kernel))
                simp only [List.setIfInBounds_toArray, List.set_cons_zero, List.set_cons_succ]
                refine' takeU 14 (oi := _) (d := _) ?ti27 ?td27 (by kernel_rfl) (by kernel_rfl) (by kernel_rfl) (by decide) (fun _ _ _ _ _ h => h) ?tg27 ?tf27 ?tr27
                case ti27 => (simp only [List.getElem?_toArray, List.getElem?_cons_succ, List.getElem?_cons_zero]; rfl)
                case td27 => exact rfl
                case tg27 => exact rfl
                case tf27 => first | (intro _; assumption) | (intro e; exact absurd e (by decide +kernel))
                simp only [List.setIfInBounds_toArray, List.set_cons_zero, List.set_cons_succ]
                refine' takeU 15 (oi := _) (d := _) ?ti28 ?td28 (by kernel_rfl) (by kernel_rfl) (by kernel_rfl) (by decide) (fun _ _ _ _ _ h => h) ?tg28 ?tf28 ?tr28
                case ti28 => (simp only [List.getElem?_toArray, List.getElem?_cons_succ, List.getElem?_cons_zero]; rfl)
                case td28 => exact rfl
                case tg28 => exact rfl
                case tf28 => first | (intro _; assumption) | (intro e; exact absurd e (by decide +kernel))
                simp only [List.setIfInBounds_toArray, List.set_cons_zero, List.set_cons_succ]
                refine' takeU 16 (oi := _) (d := _) ?ti29 ?td29 (by kernel_rfl) (by kernel_rfl) (by kernel_rfl) (by decide) (fun _ _ _ _ _ h => h) ?tg29 ?tf29 ?tr29
                case ti29 => (simp only [List.getElem?_toArray, List.getElem?_cons_succ, List.getElem?_cons_zero]; rfl)
                case td29 => exact rfl
                case tg29 => exact rfl
                case tf29 => first | (intro _; assumption) | (intro e; exact absurd e (by decide +kernel))
                simp only [List.setIfInBounds_toArray, List.set_cons_zero, List.set_cons_succ]
                refine' takeU 17 (oi := _) (d := _) ?ti30 ?td30 (by kernel_rfl) (by kernel_rfl) (by kernel_rfl) (by decide) (fun _ _ _ _ _ h => h) ?tg30 ?tf30 ?tr30
                case ti30 => (simp only [List.getElem?_toArray, List.getElem?_cons_succ, List.getElem?_cons_zero]; rfl)
                case td30 => exact rfl
                case tg30 => exact rfl
                case tf30 => first | (intro _; assumption) | (intro e; exact absurd e (by decide +kernel))
                simp only [List.setIfInBounds_toArray, List.set_cons_zero, List.set_cons_succ]
                refine' takeV 18 (oi := _) (d := _) (v := _) ?ti31 ?td31 (by kernel_rfl) (by kernel_rfl) (by kernel_rfl) (by kernel_rfl) (by decide) (fun _ _ _ _ _ h => h) ?tg31 ?ty31 (by assumption) ?tr31
                case ti31 => (simp only [List.getElem?_toArray, List.getElem?_cons_succ, List.getElem?_cons_zero]; rfl)
                case td31 => exact rfl
                case tg31 => exact rfl
                case ty31 => (intro w hSw; (try dsimp only at hSw); go_split_ands; go_simp; try with_reducible rfl)
                simp only [List.setIfInBounds_toArray, List.set_cons_zero, List.set_cons_succ]
                refine doneG (by kernel_rfl) ?_ _
                go_wp2_with fail
                go_roundw
                case rel => exact ⟨i + 1, by omega, by go_num, HN.out, HBT.out.drew⟩
                case measure => first | (simp [intOf]; done) | (simp [intOf]; omega)
              · obtain ⟨q, rfl⟩ : ∃ q, i = q + 1 := ⟨i - 1, by omega⟩
                obtain ⟨b', o', A3, n3, c3, A4, n4, c4, L', r', s', K', hAA, hat', hrd', hkey', _, _, _⟩ := HR.out.here q (by omega) k
                injection hAA with hAA
                injection hAA with e1 e2 _
                subst e1
                subst e2
                have TR2 := Lib.hid (fun wx (hb : Below W.heap.size W wx) => here_all KN.out hat' hb)
                have HRP := Lib.hid (hrd'.below HBT.out)
                have HKEY' := Lib.hid hkey'
                obtain ⟨bl, hbl⟩ : ∃ bl, less K' K = bl := ⟨_, rfl⟩
                have HBL := Lib.hid hbl
                have hrat := rAt_succ HEM2.out bl (by rw [HKEY'.out, HKEY.out]; exact hbl)
                have HRAT := Lib.hid hrat
                have hML := refless_any A3 n3 c3 K' A1 n1 c1 K w4.drew (HRP.out.below (below_drewN (Below.refl _ _) 1)) (HRDw.out.below (below_drewN (Below.refl _ _) 1))
                rw [hbl] at hML
                have ML := Lib.hid hML
                have hdd : decide (((q + 1 : Nat) : Int) > 0) = true := decide_eq_true (by omega)
                have hw1 : IntKind.i64.wrap ((q : Int)) = (q : Int) := IntWalk.i64_in _ (by omega)
                have hw2 : IntKind.i64.wrap ((q : Int) + 1 - 1) = (q : Int) := by rw [show (q : Int) + 1 - 1 = (q : Int) by omega]; exact hw1
                have j1 : (0 : Int) ≤ (q : Int) := by omega
                have j2 : (q : Int) < (n : Int) := by omega
                have j3 : (0 : Int) ≤ (q : Int) + 1 := by omega
                have j4 : (q : Int) + 1 < (n : Int) := by omega
                clear hat' hrd' hkey' hbl hrat hi0 i1 hML
                cases bl with
                | false =>
                  have HG := Lib.hid (rTo_at HTO.out (by rw [HRAT.out]; decide) (by rw [← HLn.out]; exact hlt))
                  go_wp2_with fail
                  refine region_gate 19 (fun w' => w'.cell? ⟨w.heap.size, 2, none⟩ = some (.slice (some ⟨b, o, none⟩) n c) ∧ w'.cell? ⟨b, o + q * 9, none⟩ = some (.slice A3 n3 c3) ∧ w'.cell? ⟨b, o + (q + 1) * 9, none⟩ = some (.slice A1 n1 c1) ∧ Below W.heap.size W w') (by kernel_rfl) ?th32 (fun hHeld => ?tk32)
                  case th32 => ((try dsimp only); exact ⟨(TR2.out _ HBT.out.drew).2.1, (TR2.out _ HBT.out.drew).2.2.1, (TR.out _ HBT.out.drew).2.2.1, HBT.out.drew⟩)
                  refine' takeV 0 (oi := _) (d := _) (v := _) ?ti33 ?td33 (by kernel_rfl) (by kernel_rfl) (by kernel_rfl) (by kernel_rfl) (by decide) (fun _ _ _ _ _ h => h) ?tg33 ?ty33 (by assumption) ?tr33
                  case ti33 => (simp only [List.getElem?_toArray, List.getElem?_cons_succ, List.getElem?_cons_zero]; rfl)
                  case td33 => exact rfl
                  case tg33 => exact rfl
                  case ty33 => (intro w hSw; (try dsimp only at hSw); go_split_ands; go_simp; try with_reducible rfl)
                  simp only [List.setIfInBounds_toArray, List.set_cons_zero, List.set_cons_succ]
                  refine' takeV 1 (oi := _) (d := _) (v := _) ?ti34 ?td34 (by kernel_rfl) (by kernel_rfl) (by kernel_rfl) (by kernel_rfl) (by decide) (fun _ _ _ _ _ h => h) ?tg34 ?ty34 (by assumption) ?tr34
                  case ti34 => (simp only [List.getElem?_toArray, List.getElem?_cons_succ, List.getElem?_cons_zero]; rfl)
                  case td34 => exact rfl
                  case tg34 => exact rfl
                  case ty34 => (intro w hSw; (try dsimp only at hSw); go_split_ands; go_simp; try with_reducible rfl)
                  simp only [List.setIfInBounds_toArray, List.set_cons_zero, List.set_cons_succ]
                  refine' takeV 2 (oi := _) (d := _) (v := _) ?ti35 ?td35 (by kernel_rfl) (by kernel_rfl) (by kernel_rfl) (by kernel_rfl) (by decide) (fun _ _ _ _ _ h => h) ?tg35 ?ty35 (by assumption) ?tr35
                  case ti35 => (simp only [List.getElem?_toArray, List.getElem?_cons_succ, List.getElem?_cons_zero]; rfl)
                  case td35 => exact rfl
                  case tg35 => exact rfl
                  case ty35 => (intro w hSw; (try dsimp only at hSw); go_split_ands; go_simp; try with_reducible rfl)
                  simp only [List.setIfInBounds_toArray, List.set_cons_zero, List.set_cons_succ]
                  refine' takeVg 3 (oi := _) (d := _) (v := _) ?ti36 ?td36 (by kernel_rfl) (by kernel_rfl) (by kernel_rfl) (by kernel_rfl) (by decide) (fun _ _ _ _ _ h => h) ?tg36 ?ty36 (by assumption) ?tr36
                  case ti36 => (simp only [List.getElem?_toArray, List.getElem?_cons_succ, List.getElem?_cons_zero]; rfl)
                  case td36 => exact rfl
                  case tg36 => exact rfl
                  case ty36 => (intro w hSw; (try dsimp only at hSw); go_split_ands; go_simp; try with_reducible rfl)
                  simp only [List.setIfInBounds_toArray, List.set_cons_zero, List.set_cons_succ]
                  refine' takeVg 4 (oi := _) (d := _) (v := _) ?ti37 ?td37 (by kernel_rfl) (by kernel_rfl) (by kernel_rfl) (by kernel_rfl) (by decide) (fun _ _ _ _ _ h => h) ?tg37 ?ty37 (by assumption) ?tr37
                  case ti37 => (simp only [List.getElem?_toArray, List.getElem?_cons_succ, List.getElem?_cons_zero]; rfl)
                  case td37 => exact rfl
                  case tg37 => exact rfl
                  case ty37 => (intro w hSw; (try dsimp only at hSw); go_split_ands; go_simp; try with_reducible rfl)
                  simp only [List.setIfInBounds_toArray, List.set_cons_zero, List.set_cons_succ]
                  refine' takeVg 5 (oi := _) (d := _) (v := _) ?ti38 ?td38 (by kernel_rfl) (by kernel_rfl) (by kernel_rfl) (by kernel_rfl) (by decide) (fun _ _ _ _ _ h => h) ?tg38 ?ty38 (by assumption) ?tr38
                  case ti38 => (simp only [List.getElem?_toArray, List.getElem?_cons_succ, List.getElem?_cons_zero]; rfl)
                  case td38 => exact rfl
                  case tg38 => exact rfl
                  case ty38 => (intro w hSw; (try dsimp only at hSw); go_split_ands; go_simp; try with_reducible rfl)
                  simp only [List.setIfInBounds_toArray, List.set_cons_zero, List.set_cons_succ]
                  refine' takeVg 6 (oi := _) (d := _) (v := _) ?ti39 ?td39 (by kernel_rfl) (by kernel_rfl) (by kernel_rfl) (by kernel_rfl) (by decide) (fun _ _ _ _ _ h => h) ?tg39 ?ty39 (by assumption) ?tr39
                  case ti39 => (simp only [List.getElem?_toArray, List.getElem?_cons_succ, List.getElem?_cons_zero]; rfl)
                  case td39 => exact rfl
                  case tg39 => exact rfl
                  case ty39 => (intro w hSw; (try dsimp only at hSw); go_split_ands; go_simp; try with_reducible rfl)
                  simp only [List.setIfInBounds_toArray, List.set_cons_zero, List.set_cons_succ]
                  refine' takeVg 7 (oi := _) (d := _) (v := _) ?ti40 ?td40 (by kernel_rfl) (by kernel_rfl) (by kernel_rfl) (by kernel_rfl) (by decide) (fun _ _ _ _ _ h => h) ?tg40 ?ty40 (by assumption) ?tr40
                  case ti40 => (simp only [List.getElem?_toArray, List.getElem?_cons_succ, List.getElem?_cons_zero]; rfl)
                  case td40 => exact rfl
                  case tg40 => exact rfl
                  case ty40 => (intro w hSw; (try dsimp only at hSw); go_split_ands; go_simp; try with_reducible rfl)
                  simp only [List.setIfInBounds_toArray, List.set_cons_zero, List.set_cons_succ]
                  refine' takeVg 8 (oi := _) (d := _) (v := _) ?ti41 ?td41 (by kernel_rfl) (by kernel_rfl) (by kernel_rfl) (by kernel_rfl) (by decide) (fun _ _ _ _ _ h => h) ?tg41 ?ty41 (by assumption) ?tr41
                  case ti41 => (simp only [List.getElem?_toArray, List.getElem?_cons_succ, List.getElem?_cons_zero]; rfl)
                  case td41 => exact rfl
                  case tg41 => exact rfl
                  case ty41 => (intro w hSw; (try dsimp only at hSw); go_split_ands; go_simp; try with_reducible rfl)
                  simp only [List.setIfInBounds_toArray, List.set_cons_zero, List.set_cons_succ]
                  refine' takeVg 9 (oi := _) (d := _) (v := _) ?ti42 ?td42 (by kernel_rfl) (by kernel_rfl) (by kernel_rfl) (by kernel_rfl) (by decide) (fun _ _ _ _ _ h => h) ?tg42 ?ty42 (by assumption) ?tr42
                  case ti42 => (simp only [List.getElem?_toArray, List.getElem?_cons_succ, List.getElem?_cons_zero]; rfl)
                  case td42 => exact rfl
                  case tg42 => exact rfl
                  case ty42 => (intro w hSw; (try dsimp only at hSw); go_split_ands; go_simp; try with_reducible rfl)
                  simp only [List.setIfInBounds_toArray, List.set_cons_zero, List.set_cons_succ]
                  refine' takeVg 10 (oi := _) (d := _) (v := _) ?ti43 ?td43 (by kernel_rfl) (by kernel_rfl) (by kernel_rfl) (by kernel_rfl) (by decide) (fun _ _ _ _ _ h => h) ?tg43 ?ty43 (by assumption) ?tr43
                  case ti43 => (simp only [List.getElem?_toArray, List.getElem?_cons_succ, List.getElem?_cons_zero]; rfl)
                  case td43 => exact rfl
                  case tg43 => exact rfl
                  case ty43 => (intro w hSw; (try dsimp only at hSw); go_split_ands; go_simp; try with_reducible rfl)
                  simp only [List.setIfInBounds_toArray, List.set_cons_zero, List.set_cons_succ]
                  refine' takeVg 11 (oi := _) (d := _) (v := _) ?ti44 ?td44 (by kernel_rfl) (by kernel_rfl) (by kernel_rfl) (by kernel_rfl) (by decide) (fun _ _ _ _ _ h => h) ?tg44 ?ty44 (by assumption) ?tr44
                  case ti44 => (simp only [List.getElem?_toArray, List.getElem?_cons_succ, List.getElem?_cons_zero]; rfl)
                  case td44 => exact rfl
                  case tg44 => exact rfl
                  case ty44 => (intro w hSw; (try dsimp only at hSw); go_split_ands; go_simp; try with_reducible rfl)
                  simp only [List.setIfInBounds_toArray, List.set_cons_zero, List.set_cons_succ]
                  refine' takeVg 12 (oi := _) (d := _) (v := _) ?ti45 ?td45 (by kernel_rfl) (by kernel_rfl) (by kernel_rfl) (by kernel_rfl) (by decide) (fun _ _ _ _ _ h => h) ?tg45 ?ty45 (by assumption) ?tr45
                  case ti45 => (simp only [List.getElem?_toArray, List.getElem?_cons_succ, List.getElem?_cons_zero]; rfl)
                  case td45 => exact rfl
                  case tg45 => exact rfl
                  case ty45 => (intro w hSw; (try dsimp only at hSw); go_split_ands; go_simp; try with_reducible rfl)
                  simp only [List.setIfInBounds_toArray, List.set_cons_zero, List.set_cons_succ]
                  refine' takeVg 13 (oi := _) (d := _) (v := _) ?ti46 ?td46 (by kernel_rfl) (by kernel_rfl) (by kernel_rfl) (by kernel_rfl) (by decide) (fun _ _ _ _ _ h => h) ?tg46 ?ty46 (by assumption) ?tr46
                  case ti46 => (simp only [List.getElem?_toArray, List.getElem?_cons_succ, List.getElem?_cons_zero]; rfl)
                  case td46 => exact rfl
                  case tg46 => exact rfl
                  case ty46 => (intro w hSw; (try dsimp only at hSw); go_split_ands; go_simp; try with_reducible rfl)
                  simp only [List.setIfInBounds_toArray, List.set_cons_zero, List.set_cons_succ]
                  refine' takeVg 14 (oi := _) (d := _) (v := _) ?ti47 ?td47 (by kernel_rfl) (by kernel_rfl) (by kernel_rfl) (by kernel_rfl) (by decide) (fun _ _ _ _ _ h => h) ?tg47 ?ty47 (by assumption) ?tr47
                  case ti47 => (simp only [List.getElem?_toArray, List.getElem?_cons_succ, List.getElem?_cons_zero]; rfl)
                  case td47 => exact rfl
                  case tg47 => exact rfl
                  case ty47 => (intro w hSw; (try dsimp only at hSw); go_split_ands; go_simp; try with_reducible rfl)
                  simp only [List.setIfInBounds_toArray, List.set_cons_zero, List.set_cons_succ]
                  refine' takeVg 15 (oi := _) (d := _) (v := _) ?ti48 ?td48 (by kernel_rfl) (by kernel_rfl) (by kernel_rfl) (by kernel_rfl) (by decide) (fun _ _ _ _ _ h => h) ?tg48 ?ty48 (by assumption) ?tr48
                  case ti48 => (simp only [List.getElem?_toArray, List.getElem?_cons_succ, List.getElem?_cons_zero]; rfl)
                  case td48 => exact rfl
                  case tg48 => exact rfl
                  case ty48 => (intro w hSw; (try dsimp only at hSw); go_split_ands; go_simp; try with_reducible rfl)
                  simp only [List.setIfInBounds_toArray, List.set_cons_zero, List.set_cons_succ]
                  clear hHeld
                  refine stepG 16 (by kernel_rfl) (by simp only [List.getElem?_toArray, List.getElem?_cons_succ, List.getElem?_cons_zero]; rfl) (fun K hK => ?_)
                  go_simp
                  refine (ML.out).mono ?_
                  rintro e w5 ⟨rfl, hdr⟩
                  refine hK.out _ _ ?ts49 (fun hHeld => ?_)
                  case ts49 => ((try dsimp only); exact ⟨(TR2.out _ (HBT.out.drew.trans (hdr.below.mono hbt))).2.1, (TR2.out _ (HBT.out.drew.trans (hdr.below.mono hbt))).2.2.1, (TR.out _ (HBT.out.drew.trans (hdr.below.mono hbt))).2.2.1, HBT.out.drew.trans (hdr.below.mono hbt)⟩)
                  clear hK K
                  have HB5 := Lib.hid hHeld.2.2.2
                  refine' takeVg 17 (oi := _) (d := _) (v := _) ?ti50 ?td50 (by kernel_rfl) (by kernel_rfl) (by kernel_rfl) (by kernel_rfl) (by decide) (fun _ _ _ _ _ h => h) ?tg50 ?ty50 (by assumption) ?tr50
                  case ti50 => (simp only [List.getElem?_toArray, List.getElem?_cons_succ, List.getElem?_cons_zero]; rfl)
                  case td50 => exact rfl
                  case tg50 => exact rfl
                  case ty50 => (intro w hSw; (try dsimp only at hSw); go_split_ands; go_simp; try with_reducible rfl)
                  simp only [List.setIfInBounds_toArray, List.set_cons_zero, List.set_cons_succ]
                  refine' takeV 18 (oi := _) (d := _) (v := _) ?ti51 ?td51 (by kernel_rfl) (by kernel_rfl) (by kernel_rfl) (by kernel_rfl) (by decide) (fun _ _ _ _ _ h => h) ?tg51 ?ty51 (by assumption) ?tr51
                  case ti51 => (simp only [List.getElem?_toArray, List.getElem?_cons_succ, List.getElem?_cons_zero]; rfl)
                  case td51 => exact rfl
                  case tg51 => exact rfl
                  case ty51 => (intro w hSw; (try dsimp only at hSw); go_split_ands; go_simp; try with_reducible rfl)
                  simp only [List.setIfInBounds_toArray, List.set_cons_zero, List.set_cons_succ]
                  refine doneG (by kernel_rfl) ?_ _
                  go_wp2_with fail
                  go_ret
                  exact ⟨by rw [HG.out, HRAT.out]; rfl, HWB.out.trans (HB5.out.mono (Nat.le_of_lt hWs))⟩
                | true =>
                  have HN : Hid (rTo k es (q + 1 + 1) = 0) := by show _ = _; rw [rTo, if_pos HTO.out]; exact HRAT.out
                  go_wp2_with fail
                  refine region_gate 19 (fun w' => w'.cell? ⟨w.heap.size, 2, none⟩ = some (.slice (some ⟨b, o, none⟩) n c) ∧ w'.cell? ⟨b, o + q * 9, none⟩ = some (.slice A3 n3 c3) ∧ w'.cell? ⟨b, o + (q + 1) * 9, none⟩ = some (.slice A1 n1 c1) ∧ Below W.heap.size W w') (by kernel_rfl) ?th52 (fun hHeld => ?tk52)
                  case th52 => ((try dsimp only); exact ⟨(TR2.out _ HBT.out.drew).2.1, (TR2.out _ HBT.out.drew).2.2.1, (TR.out _ HBT.out.drew).2.2.1, HBT.out.drew⟩)
                  refine' takeV 0 (oi := _) (d := _) (v := _) ?ti53 ?td53 (by kernel_rfl) (by kernel_rfl) (by kernel_rfl) (by kernel_rfl) (by decide) (fun _ _ _ _ _ h => h) ?tg53 ?ty53 (by assumption) ?tr53
                  case ti53 => (simp only [List.getElem?_toArray, List.getElem?_cons_succ, List.getElem?_cons_zero]; rfl)
                  case td53 => exact rfl
                  case tg53 => exact rfl
                  case ty53 => (intro w hSw; (try dsimp only at hSw); go_split_ands; go_simp; try with_reducible rfl)
                  simp only [List.setIfInBounds_toArray, List.set_cons_zero, List.set_cons_succ]
                  refine' takeV 1 (oi := _) (d := _) (v := _) ?ti54 ?td54 (by kernel_rfl) (by kernel_rfl) (by kernel_rfl) (by kernel_rfl) (by decide) (fun _ _ _ _ _ h => h) ?tg54 ?ty54 (by assumption) ?tr54
                  case ti54 => (simp only [List.getElem?_toArray, List.getElem?_cons_succ, List.getElem?_cons_zero]; rfl)
                  case td54 => exact rfl
                  case tg54 => exact rfl
                  case ty54 => (intro w hSw; (try dsimp only at hSw); go_split_ands; go_simp; try with_reducible rfl)
                  simp only [List.setIfInBounds_toArray, List.set_cons_zero, List.set_cons_succ]
                  refine' takeV 2 (oi := _) (d := _) (v := _) ?ti55 ?td55 (by kernel_rfl) (by kernel_rfl) (by kernel_rfl) (by kernel_rfl) (by decide) (fun _ _ _ _ _ h => h) ?tg55 ?ty55 (by assumption) ?tr55
                  case ti55 => (simp only [List.getElem?_toArray, List.getElem?_cons_succ, List.getElem?_cons_zero]; rfl)
                  case td55 => exact rfl
                  case tg55 => exact rfl
                  case ty55 => (intro w hSw; (try dsimp only at hSw); go_split_ands; go_simp; try with_reducible rfl)
                  simp only [List.setIfInBounds_toArray, List.set_cons_zero, List.set_cons_succ]
                  refine' takeVg 3 (oi := _) (d := _) (v := _) ?ti56 ?td56 (by kernel_rfl) (by kernel_rfl) (by kernel_rfl) (by kernel_rfl) (by decide) (fun _ _ _ _ _ h => h) ?tg56 ?ty56 (by assumption) ?tr56
                  case ti56 => (simp only [List.getElem?_toArray, List.getElem?_cons_succ, List.getElem?_cons_zero]; rfl)
                  case td56 => exact rfl
                  case tg56 => exact rfl
                  case ty56 => (intro w hSw; (try dsimp only at hSw); go_split_ands; go_simp; try with_reducible rfl)
                  simp only [List.setIfInBounds_toArray, List.set_cons_zero, List.set_cons_succ]
                  refine' takeVg 4 (oi := _) (d := _) (v := _) ?ti57 ?td57 (by kernel_rfl) (by kernel_rfl) (by kernel_rfl) (by kernel_rfl) (by decide) (fun _ _ _ _ _ h => h) ?tg57 ?ty57 (by assumption) ?tr57
                  case ti57 => (simp only [List.getElem?_toArray, List.getElem?_cons_succ, List.getElem?_cons_zero]; rfl)
                  case td57 => exact rfl
                  case tg57 => exact rfl
                  case ty57 => (intro w hSw; (try dsimp only at hSw); go_split_ands; go_simp; try with_reducible rfl)
                  simp only [List.setIfInBounds_toArray, List.set_cons_zero, List.set_cons_succ]
                  refine' takeVg 5 (oi := _) (d := _) (v := _) ?ti58 ?td58 (by kernel_rfl) (by kernel_rfl) (by kernel_rfl) (by kernel_rfl) (by decide) (fun _ _ _ _ _ h => h) ?tg58 ?ty58 (by assumption) ?tr58
                  case ti58 => (simp only [List.getElem?_toArray, List.getElem?_cons_succ, List.getElem?_cons_zero]; rfl)
                  case td58 => exact rfl
                  case tg58 => exact rfl
                  case ty58 => (intro w hSw; (try dsimp only at hSw); go_split_ands; go_simp; try with_reducible rfl)
                  simp only [List.setIfInBounds_toArray, List.set_cons_zero, List.set_cons_succ]
                  refine' takeVg 6 (oi := _) (d := _) (v := _) ?ti59 ?td59 (by kernel_rfl) (by kernel_rfl) (by kernel_rfl) (by kernel_rfl) (by decide) (fun _ _ _ _ _ h => h) ?tg59 ?ty59 (by assumption) ?tr59
                  case ti59 => (simp only [List.getElem?_toArray, List.getElem?_cons_succ, List.getElem?_cons_zero]; rfl)
                  case td59 => exact rfl
                  case tg59 => exact rfl
                  case ty59 => (intro w hSw; (try dsimp only at hSw); go_split_ands; go_simp; try with_reducible rfl)
                  simp only [List.setIfInBounds_toArray, List.set_cons_zero, List.set_cons_succ]
                  refine' takeVg 7 (oi := _) (d := _) (v := _) ?ti60 ?td60 (by kernel_rfl) (by kernel_rfl) (by kernel_rfl) (by kernel_rfl) (by decide) (fun _ _ _ _ _ h => h) ?tg60 ?ty60 (by assumption) ?tr60
                  case ti60 => (simp only [List.getElem?_toArray, List.getElem?_cons_succ, List.getElem?_cons_zero]; rfl)
                  case td60 => exact rfl
                  case tg60 => exact rfl
                  case ty60 => (intro w hSw; (try dsimp only at hSw); go_split_ands; go_simp; try with_reducible rfl)
                  simp only [List.setIfInBounds_toArray, List.set_cons_zero, List.set_cons_succ]
                  refine' takeVg 8 (oi := _) (d := _) (v := _) ?ti61 ?td61 (by kernel_rfl) (by kernel_rfl) (by kernel_rfl) (by kernel_rfl) (by decide) (fun _ _ _ _ _ h => h) ?tg61 ?ty61 (by assumption) ?tr61
                  case ti61 => (simp only [List.getElem?_toArray, List.getElem?_cons_succ, List.getElem?_cons_zero]; rfl)
                  case td61 => exact rfl
                  case tg61 => exact rfl
                  case ty61 => (intro w hSw; (try dsimp only at hSw); go_split_ands; go_simp; try with_reducible rfl)
                  simp only [List.setIfInBounds_toArray, List.set_cons_zero, List.set_cons_succ]
                  refine' takeVg 9 (oi := _) (d := _) (v := _) ?ti62 ?td62 (by kernel_rfl) (by kernel_rfl) (by kernel_rfl) (by kernel_rfl) (by decide) (fun _ _ _ _ _ h => h) ?tg62 ?ty62 (by assumption) ?tr62
                  case ti62 => (simp only [List.getElem?_toArray, List.getElem?_cons_succ, List.getElem?_cons_zero]; rfl)
                  case td62 => exact rfl
                  case tg62 => exact rfl
                  case ty62 => (intro w hSw; (try dsimp only at hSw); go_split_ands; go_simp; try with_reducible rfl)
                  simp only [List.setIfInBounds_toArray, List.set_cons_zero, List.set_cons_succ]
                  refine' takeVg 10 (oi := _) (d := _) (v := _) ?ti63 ?td63 (by kernel_rfl) (by kernel_rfl) (by kernel_rfl) (by kernel_rfl) (by decide) (fun _ _ _ _ _ h => h) ?tg63 ?ty63 (by assumption) ?tr63
                  case ti63 => (simp only [List.getElem?_toArray, List.getElem?_cons_succ, List.getElem?_cons_zero]; rfl)
                  case td63 => exact rfl
                  case tg63 => exact rfl
                  case ty63 => (intro w hSw; (try dsimp only at hSw); go_split_ands; go_simp; try with_reducible rfl)
                  simp only [List.setIfInBounds_toArray, List.set_cons_zero, List.set_cons_succ]
                  refine' takeVg 11 (oi := _) (d := _) (v := _) ?ti64 ?td64 (by kernel_rfl) (by kernel_rfl) (by kernel_rfl) (by kernel_rfl) (by decide) (fun _ _ _ _ _ h => h) ?tg64 ?ty64 (by assumption) ?tr64
                  case ti64 => (simp only [List.getElem?_toArray, List.getElem?_cons_succ, List.getElem?_cons_zero]; rfl)
                  case td64 => exact rfl
                  case tg64 => exact rfl
                  case ty64 => (intro w hSw; (try dsimp only at hSw); go_split_ands; go_simp; try with_reducible rfl)
                  simp only [List.setIfInBounds_toArray, List.set_cons_zero, List.set_cons_succ]
                  refine' takeVg 12 (oi := _) (d := _) (v := _) ?ti65 ?td65 (by kernel_rfl) (by kernel_rfl) (by kernel_rfl) (by kernel_rfl) (by decide) (fun _ _ _ _ _ h => h) ?tg65 ?ty65 (by assumption) ?tr65
                  case ti65 => (simp only [List.getElem?_toArray, List.getElem?_cons_succ, List.getElem?_cons_zero]; rfl)
                  case td65 => exact rfl
                  case tg65 => exact rfl
                  case ty65 => (intro w hSw; (try dsimp only at hSw); go_split_ands; go_simp; try with_reducible rfl)
                  simp only [List.setIfInBounds_toArray, List.set_cons_zero, List.set_cons_succ]
                  refine' takeVg 13 (oi := _) (d := _) (v := _) ?ti66 ?td66 (by kernel_rfl) (by kernel_rfl) (by kernel_rfl) (by kernel_rfl) (by decide) (fun _ _ _ _ _ h => h) ?tg66 ?ty66 (by assumption) ?tr66
                  case ti66 => (simp only [List.getElem?_toArray, List.getElem?_cons_succ, List.getElem?_cons_zero]; rfl)
                  case td66 => exact rfl
                  case tg66 => exact rfl
                  case ty66 => (intro w hSw; (try dsimp only at hSw); go_split_ands; go_simp; try with_reducible rfl)
                  simp only [List.setIfInBounds_toArray, List.set_cons_zero, List.set_cons_succ]
                  refine' takeVg 14 (oi := _) (d := _) (v := _) ?ti67 ?td67 (by kernel_rfl) (by kernel_rfl) (by kernel_rfl) (by kernel_rfl) (by decide) (fun _ _ _ _ _ h => h) ?tg67 ?ty67 (by assumption) ?tr67
                  case ti67 => (simp only [List.getElem?_toArray, List.getElem?_cons_succ, List.getElem?_cons_zero]; rfl)
                  case td67 => exact rfl
                  case tg67 => exact rfl
                  case ty67 => (intro w hSw; (try dsimp only at hSw); go_split_ands; go_simp; try with_reducible rfl)
                  simp only [List.setIfInBounds_toArray, List.set_cons_zero, List.set_cons_succ]
                  refine' takeVg 15 (oi := _) (d := _) (v := _) ?ti68 ?td68 (by kernel_rfl) (by kernel_rfl) (by kernel_rfl) (by kernel_rfl) (by decide) (fun _ _ _ _ _ h => h) ?tg68 ?ty68 (by assumption) ?tr68
                  case ti68 => (simp only [List.getElem?_toArray, List.getElem?_cons_succ, List.getElem?_cons_zero]; rfl)
                  case td68 => exact rfl
                  case tg68 => exact rfl
                  case ty68 => (intro w hSw; (try dsimp only at hSw); go_split_ands; go_simp; try with_reducible rfl)
                  simp only [List.setIfInBounds_toArray, List.set_cons_zero, List.set_cons_succ]
                  clear hHeld
                  refine stepG 16 (by kernel_rfl) (by simp only [List.getElem?_toArray, List.getElem?_cons_succ, List.getElem?_cons_zero]; rfl) (fun K hK => ?_)
                  go_simp
                  refine (ML.out).mono ?_
                  rintro e w5 ⟨rfl, hdr⟩
                  refine hK.out _ _ ?ts69 (fun hHeld => ?_)
                  case ts69 => ((try dsimp only); exact ⟨(TR2.out _ (HBT.out.drew.trans (hdr.below.mono hbt))).2.1, (TR2.out _ (HBT.out.drew.trans (hdr.below.mono hbt))).2.2.1, (TR.out _ (HBT.out.drew.trans (hdr.below.mono hbt))).2.2.1, HBT.out.drew.trans (hdr.below.mono hbt)⟩)
                  clear hK K
                  have HB5 := Lib.hid hHeld.2.2.2
                  refine' takeVg 17 (oi := _) (d := _) (v := _) ?ti70 ?td70 (by kernel_rfl) (by kernel_rfl) (by kernel_rfl) (by kernel_rfl) (by decide) (fun _ _ _ _ _ h => h) ?tg70 ?ty70 (by assumption) ?tr70
                  case ti70 => (simp only [List.getElem?_toArray, List.getElem?_cons_succ, List.getElem?_cons_zero]; rfl)
                  case td70 => exact rfl
                  case tg70 => exact rfl
                  case ty70 => (intro w hSw; (try dsimp only at hSw); go_split_ands; go_simp; try with_reducible rfl)
                  simp only [List.setIfInBounds_toArray, List.set_cons_zero, List.set_cons_succ]
                  refine' takeV 18 (oi := _) (d := _) (v := _) ?ti71 ?td71 (by kernel_rfl) (by kernel_rfl) (by kernel_rfl) (by kernel_rfl) (by decide) (fun _ _ _ _ _ h => h) ?tg71 ?ty71 (by assumption) ?tr71
                  case ti71 => (simp only [List.getElem?_toArray, List.getElem?_cons_succ, List.getElem?_cons_zero]; rfl)
                  case td71 => exact rfl
                  case tg71 => exact rfl
                  case ty71 => (intro w hSw; (try dsimp only at hSw); go_split_ands; go_simp; try with_reducible rfl)
                  simp only [List.setIfInBounds_toArray, List.set_cons_zero, List.set_cons_succ]
                  refine doneG (by kernel_rfl) ?_ _
                  go_wp2_with fail
                  go_roundw
                  case rel => exact ⟨q + 1 + 1, by omega, by go_num, HN.out, HB5.out⟩
                  case measure => first | (simp [intOf]; done) | (simp [intOf]; omega)
          · obtain rfl : i = n := by omega
            have HT := HTO.out
            rw [HLn.out] at HT
            have HF := Lib.hid HT
            clear HT hi hlt
            go_wp2_with fail
            go_ret
            exact ⟨by rw [HF.out]; rfl, HWB.out.trans (HBE.out.mono (Nat.le_of_lt hWs))⟩
      · go_wp2_with fail
        clear hb d0 d1 d2
        go_loopw [3] (fun z wr => ∃ i : Nat, i ≤ n ∧ z = .int .i64 (i : Int) ∧ rTo k es i = 0 ∧ Below W.heap.size W wr) (fun z _ => n - (intOf z).toNat)
        case atStart => exact ⟨0, Nat.zero_le _, rfl, rfl, Below.refl _ _⟩
        case round =>
          obtain ⟨i, hi, rfl, hto, hbel⟩ := hrel
          have HTO := Lib.hid hto
          have HBE := Lib.hid hbel
          have hbs := hbel.size
          have KNr := Lib.hid (KN.out.below hbel KN.out.lt)
          have d2 := KNr.out.cell 2
          clear hto hbel
          by_cases hlt : i < n
          · obtain ⟨b, o, A1, n1, c1, A2, n2, c2, L, r, s, K, rfl, hat, hrd, hkey, hem, hn1, hn2⟩ := HR.out.here i hlt k
            have TR := Lib.hid (fun wx (hb : Below W.heap.size W wx) => here_all KN.out hat hb)
            obtain ⟨em, hem2⟩ : ∃ em, emay k i (es.getD i ent0) = em := ⟨_, rfl⟩
            have hM := fun V => refemay_any k i A1 n1 c1 A2 n2 c2 L r s V hk (by omega) hn1 hn2
            rw [hem, hem2] at hM
            have M := Lib.hid hM
            have HEM2 := Lib.hid hem2
            have i1 : (0 : Int) ≤ (i : Int) := by omega
            have i2 : (i : Int) < (n : Int) := by omega
            have HKEY := Lib.hid hkey
            have HRD := Lib.hid hrd
            clear hat hrd hkey hem hem2 hM
            go_wp2_with fail
            clear d2
            refine region_gate 10 (fun w' => w'.cell? ⟨w.heap.size, 0, none⟩ = some (.int .u8 (k : Int)) ∧ w'.cell? ⟨w.heap.size, 2, none⟩ = some (.slice (some ⟨b, o, none⟩) n c) ∧ w'.cell? ⟨b, o + i * 9, none⟩ = some (.slice A1 n1 c1) ∧ w'.cell? ⟨b, o + i * 9 + 1, none⟩ = some (.slice A2 n2 c2) ∧ w'.cell? ⟨b, o + i * 9 + 2, none⟩ = some (.int .i64 L) ∧ w'.cell? ⟨b, o + i * 9 + 3, none⟩ = some (.int .u32 (r.1 : Int)) ∧ w'.cell? ⟨b, o + i * 9 + 4, none⟩ = some (.int .u64 (r.2.1 : Int)) ∧ w'.cell? ⟨b, o + i * 9 + 5, none⟩ = some (.int .u16 (r.2.2 : Int)) ∧ w'.cell? ⟨b, o + i * 9 + 6, none⟩ = some (.int .u32 (s.1 : Int)) ∧ w'.cell? ⟨b, o + i * 9 + 7, none⟩ = some (.int .u64 (s.2.1 : Int)) ∧ w'.cell? ⟨b, o + i * 9 + 8, none⟩ = some (.int .u16 (s.2.2 : Int)) ∧ Below W.heap.size W w') (by kernel_rfl) ?th72 (fun hHeld => ?tk72)
            case th72 => ((try dsimp only); exact TR.out _ HBE.out.drew)
            refine' takeV 0 (oi := _) (d := _) (v := _) ?ti73 ?td73 (by kernel_rfl) (by kernel_rfl) (by kernel_rfl) (by kernel_rfl) (by decide) (fun _ _ _ _ _ h => h) ?tg73 ?ty73 (by assumption) ?tr73
            case ti73 => (simp only [List.getElem?_toArray, List.getElem?_cons_succ, List.getElem?_cons_zero]; rfl)
            case td73 => exact rfl
            case tg73 => exact rfl
            case ty73 => (intro w hSw; (try dsimp only at hSw); go_split_ands; go_simp; try with_reducible rfl)
            simp only [List.setIfInBounds_toArray, List.set_cons_zero, List.set_cons_succ]
            refine' takeV 1 (oi := _) (d := _) (v := _) ?ti74 ?td74 (by kernel_rfl) (by kernel_rfl) (by kernel_rfl) (by kernel_rfl) (by decide) (fun _ _ _ _ _ h => h) ?tg74 ?ty74 (by assumption) ?tr74
            case ti74 => (simp only [List.getElem?_toArray, List.getElem?_cons_succ, List.getElem?_cons_zero]; rfl)
            case td74 => exact rfl
            case tg74 => exact rfl
            case ty74 => (intro w hSw; (try dsimp only at hSw); go_split_ands; go_simp; try with_reducible rfl)
            simp only [List.setIfInBounds_toArray, List.set_cons_zero, List.set_cons_succ]
            refine' takeV 2 (oi := _) (d := _) (v := _) ?ti75 ?td75 (by kernel_rfl) (by kernel_rfl) (by kernel_rfl) (by kernel_rfl) (by decide) (fun _ _ _ _ _ h => h) ?tg75 ?ty75 (by assumption) ?tr75
            case ti75 => (simp only [List.getElem?_toArray, List.getElem?_cons_succ, List.getElem?_cons_zero]; rfl)
            case td75 => exact rfl
            case tg75 => exact rfl
            case ty75 => (intro w hSw; (try dsimp only at hSw); go_split_ands; go_simp; try with_reducible rfl)
            simp only [List.setIfInBounds_toArray, List.set_cons_zero, List.set_cons_succ]
            refine' takeV 3 (oi := _) (d := _) (v := _) ?ti76 ?td76 (by kernel_rfl) (by kernel_rfl) (by kernel_rfl) (by kernel_rfl) (by decide) (fun _ _ _ _ _ h => h) ?tg76 ?ty76 (by assumption) ?tr76
            case ti76 => (simp only [List.getElem?_toArray, List.getElem?_cons_succ, List.getElem?_cons_zero]; rfl)
            case td76 => exact rfl
            case tg76 => exact rfl
            case ty76 => (intro w hSw; (try dsimp only at hSw); go_split_ands; go_simp; try with_reducible rfl)
            simp only [List.setIfInBounds_toArray, List.set_cons_zero, List.set_cons_succ]
            refine' takeV 4 (oi := _) (d := _) (v := _) ?ti77 ?td77 (by kernel_rfl) (by kernel_rfl) (by kernel_rfl) (by kernel_rfl) (by decide) (fun _ _ _ _ _ h => h) ?tg77 ?ty77 (by assumption) ?tr77
            case ti77 => (simp only [List.getElem?_toArray, List.getElem?_cons_succ, List.getElem?_cons_zero]; rfl)
            case td77 => exact rfl
            case tg77 => exact rfl
            case ty77 => (intro w hSw; (try dsimp only at hSw); go_split_ands; go_simp; try with_reducible rfl)
            simp only [List.setIfInBounds_toArray, List.set_cons_zero, List.set_cons_succ]
            refine' takeV 5 (oi := _) (d := _) (v := _) ?ti78 ?td78 (by kernel_rfl) (by kernel_rfl) (by kernel_rfl) (by kernel_rfl) (by decide) (fun _ _ _ _ _ h => h) ?tg78 ?ty78 (by assumption) ?tr78
            case ti78 => (simp only [List.getElem?_toArray, List.getElem?_cons_succ, List.getElem?_cons_zero]; rfl)
            case td78 => exact rfl
            case tg78 => exact rfl
            case ty78 => (intro w hSw; (try dsimp only at hSw); go_split_ands; go_simp; try with_reducible rfl)
            simp only [List.setIfInBounds_toArray, List.set_cons_zero, List.set_cons_succ]
            refine' takeV 6 (oi := _) (d := _) (v := _) ?ti79 ?td79 (by kernel_rfl) (by kernel_rfl) (by kernel_rfl) (by kernel_rfl) (by decide) (fun _ _ _ _ _ h => h) ?tg79 ?ty79 (by assumption) ?tr79
            case ti79 => (simp only [List.getElem?_toArray, List.getElem?_cons_succ, List.getElem?_cons_zero]; rfl)
            case td79 => exact rfl
            case tg79 => exact rfl
            case ty79 => (intro w hSw; (try dsimp only at hSw); go_split_ands; go_simp; try with_reducible rfl)
            simp only [List.setIfInBounds_toArray, List.set_cons_zero, List.set_cons_succ]
            refine' takeV 7 (oi := _) (d := _) (v := _) ?ti80 ?td80 (by kernel_rfl) (by kernel_rfl) (by kernel_rfl) (by kernel_rfl) (by decide) (fun _ _ _ _ _ h => h) ?tg80 ?ty80 (by assumption) ?tr80
            case ti80 => (simp only [List.getElem?_toArray, List.getElem?_cons_succ, List.getElem?_cons_zero]; rfl)
            case td80 => exact rfl
            case tg80 => exact rfl
            case ty80 => (intro w hSw; (try dsimp only at hSw); go_split_ands; go_simp; try with_reducible rfl)
            simp only [List.setIfInBounds_toArray, List.set_cons_zero, List.set_cons_succ]
            clear hHeld
            refine stepG 8 (by kernel_rfl) (by simp only [List.getElem?_toArray, List.getElem?_cons_succ, List.getElem?_cons_zero]; rfl) (fun K hK => ?_)
            go_simp
            refine (M.out _).mono ?_
            rintro e w4 ⟨rfl, hb4⟩
            refine hK.out _ _ ?ts81 (fun hHeld => ?_)
            case ts81 => ((try dsimp only); exact TR.out _ (HBE.out.drew.trans (hb4.mono hbs)))
            clear hK K
            have HBT := Lib.hid (HBE.out.drew.trans (hb4.mono hbs))
            clear hb4 M
            refine' takeV 9 (oi := _) (d := _) (v := _) ?ti82 ?td82 (by kernel_rfl) (by kernel_rfl) (by kernel_rfl) (by kernel_rfl) (by decide) (fun _ _ _ _ _ h => h) ?tg82 ?ty82 (by assumption) ?tr82
            case ti82 => (simp only [List.getElem?_toArray, List.getElem?_cons_succ, List.getElem?_cons_zero]; rfl)
            case td82 => exact rfl
            case tg82 => exact rfl
            case ty82 => (intro w hSw; (try dsimp only at hSw); go_split_ands; go_simp; try with_reducible rfl)
            simp only [List.setIfInBounds_toArray, List.set_cons_zero, List.set_cons_succ]
            refine doneG (by kernel_rfl) ?_ _
            clear hHeld
            have hbt := HBT.out.size
            have HRDw := Lib.hid (HRD.out.below HBT.out)
            cases em with
            | false =>
              have HF := Lib.hid (rAt_may HEM2.out)
              have HG := Lib.hid (rTo_at HTO.out (by rw [HF.out]; decide) (by rw [← HLn.out]; exact hlt))
              go_wp2_with fail
              go_ret
              exact ⟨by rw [HG.out, HF.out]; rfl, HWB.out.trans (HBT.out.mono (Nat.le_of_lt hWs))⟩
            | true =>
              by_cases hi0 : i = 0
              · have HF : Hid (rAt k es i = 0) := by
                  have := HEM2.out
                  rw [hi0] at this ⊢
                  exact rAt_zero this
                have HN : Hid (rTo k es (i + 1) = 0) := by show _ = _; rw [rTo, if_pos HTO.out]; exact HF.out
                have hd : decide ((i : Int) > 0) = false := decide_eq_false (by omega)
                have hd1 : decide ((0 : Int) < (i : Int)) = false := decide_eq_false (by omega)
                have hd2 : decide (0 < i) = false := decide_eq_false (by omega)
                clear hi0
                go_wp2_with fail
                refine region_gate 19 (fun w' => Below w4.heap.size w4 w') (by kernel_rfl) ?th83 (fun hHeld => ?tk83)
                case th83 => ((try dsimp only); exact (Below.refl _ _).drew)
                refine' takeV 0 (oi := _) (d := _) (v := _) ?ti84 ?td84 (by kernel_rfl) (by kernel_rfl) (by kernel_rfl) (by kernel_rfl) (by decide) (fun _ _ _ _ _ h => h) ?tg84 ?ty84 (by assumption) ?tr84
                case ti84 => (simp only [List.getElem?_toArray, List.getElem?_cons_succ, List.getElem?_cons_zero]; rfl)
                case td84 => exact rfl
                case tg84 => exact rfl
                case ty84 => (intro w hSw; (try dsimp only at hSw); go_split_ands; go_simp; try with_reducible rfl)
                simp only [List.setIfInBounds_toArray, List.set_cons_zero, List.set_cons_succ]
                refine' takeV 1 (oi := _) (d := _) (v := _) ?ti85 ?td85 (by kernel_rfl) (by kernel_rfl) (by kernel_rfl) (by kernel_rfl) (by decide) (fun _ _ _ _ _ h => h) ?tg85 ?ty85 (by assumption) ?tr85
                case ti85 => (simp only [List.getElem?_toArray, List.getElem?_cons_succ, List.getElem?_cons_zero]; rfl)
                case td85 => exact rfl
                case tg85 => exact rfl
                case ty85 => (intro w hSw; (try dsimp only at hSw); go_split_ands; go_simp; try with_reducible rfl)
                simp only [List.setIfInBounds_toArray, List.set_cons_zero, List.set_cons_succ]
                refine' takeV 2 (oi := _) (d := _) (v := _) ?ti86 ?td86 (by kernel_rfl) (by kernel_rfl) (by kernel_rfl) (by kernel_rfl) (by decide) (fun _ _ _ _ _ h => h) ?tg86 ?ty86 (by assumption) ?tr86
                case ti86 => (simp only [List.getElem?_toArray, List.getElem?_cons_succ, List.getElem?_cons_zero]; rfl)
                case td86 => exact rfl
                case tg86 => exact rfl
                case ty86 => (intro w hSw; (try dsimp only at hSw); go_split_ands; go_simp; try with_reducible rfl)
                simp only [List.setIfInBounds_toArray, List.set_cons_zero, List.set_cons_succ]
                refine' takeU 3 (oi := _) (d := _) ?ti87 ?td87 (by kernel_rfl) (by kernel_rfl) (by kernel_rfl) (by decide) (fun _ _ _ _ _ h => h) ?tg87 ?tf87 ?tr87
                case ti87 => (simp only [List.getElem?_toArray, List.getElem?_cons_succ, List.getElem?_cons_zero]; rfl)
                case td87 => exact rfl
                case tg87 => exact rfl
                case tf87 => first | (intro _; assumption) | (intro e; exact absurd e (by decide +kernel))
                simp only [List.setIfInBounds_toArray, List.set_cons_zero, List.set_cons_succ]
                refine' takeU 4 (oi := _) (d := _) ?ti88 ?td88 (by kernel_rfl) (by kernel_rfl) (by kernel_rfl) (by decide) (fun _ _ _ _ _ h => h) ?tg88 ?tf88 ?tr88
                case ti88 => (simp only [List.getElem?_toArray, List.getElem?_cons_succ, List.getElem?_cons_zero]; rfl)
                case td88 => exact rfl
                case tg88 => exact rfl
                case tf88 => first | (intro _; assumption) | (intro e; exact absurd e (by decide +kernel))
                simp only [List.setIfInBounds_toArray, List.set_cons_zero, List.set_cons_succ]
                refine' takeU 5 (oi := _) (d := _) ?ti89 ?td89 (by kernel_rfl) (by kernel_rfl) (by kernel_rfl) (by decide) (fun _ _ _ _ _ h => h) ?tg89 ?tf89 ?tr89
                case ti89 => (simp only [List.getElem?_toArray, List.getElem?_cons_succ, List.getElem?_cons_zero]; rfl)
                case td89 => exact rfl
                case tg89 => exact rfl
                case tf89 => first | (intro _; assumption) | (intro e; exact absurd e (by decide +kernel))
                simp only [List.setIfInBounds_toArray, List.set_cons_zero, List.set_cons_succ]
                refine' takeU 6 (oi := _) (d := _) ?ti90 ?td90 (by kernel_rfl) (by kernel_rfl) (by kernel_rfl) (by decide) (fun _ _ _ _ _ h => h) ?tg90 ?tf90 ?tr90
                case ti90 => (simp only [List.getElem?_toArray, List.getElem?_cons_succ, List.getElem?_cons_zero]; rfl)
                case td90 => exact rfl
                case tg90 => exact rfl
                case tf90 => first | (intro _; assumption) | (intro e; exact absurd e (by decide +kernel))
                simp only [List.setIfInBounds_toArray, List.set_cons_zero, List.set_cons_succ]
                refine' takeU 7 (oi := _) (d := _) ?ti91 ?td91 (by kernel_rfl) (by kernel_rfl) (by kernel_rfl) (by decide) (fun _ _ _ _ _ h => h) ?tg91 ?tf91 ?tr91
                case ti91 => (simp only [List.getElem?_toArray, List.getElem?_cons_succ, List.getElem?_cons_zero]; rfl)
                case td91 => exact rfl
                case tg91 => exact rfl
                case tf91 => first | (intro _; assumption) | (intro e; exact absurd e (by decide +kernel))
                simp only [List.setIfInBounds_toArray, List.set_cons_zero, List.set_cons_succ]
                refine' takeU 8 (oi := _) (d := _) ?ti92 ?td92 (by kernel_rfl) (by kernel_rfl) (by kernel_rfl) (by decide) (fun _ _ _ _ _ h => h) ?tg92 ?tf92 ?tr92
                case ti92 => (simp only [List.getElem?_toArray, List.getElem?_cons_succ, List.getElem?_cons_zero]; rfl)
                case td92 => exact rfl
                case tg92 => exact rfl
                case tf92 => first | (intro _; assumption) | (intro e; exact absurd e (by decide +kernel))
                simp only [List.setIfInBounds_toArray, List.set_cons_zero, List.set_cons_succ]
                refine' takeU 9 (oi := _) (d := _) ?ti93 ?td93 (by kernel_rfl) (by kernel_rfl) (by kernel_rfl) (by decide) (fun _ _ _ _ _ h => h) ?tg93 ?tf93 ?tr93
                case ti93 => (simp only [List.getElem?_toArray, List.getElem?_cons_succ, List.getElem?_cons_zero]; rfl)
                case td93 => exact rfl
                case tg93 => exact rfl
                case tf93 => first | (intro _; assumption) | (intro e; exact absurd e (by decide +kernel))
                simp only [List.setIfInBounds_toArray, List.set_cons_zero, List.set_cons_succ]
                refine' takeU 10 (oi := _) (d := _) ?ti94 ?td94 (by kernel_rfl) (by kernel_rfl) (by kernel_rfl) (by decide) (fun _ _ _ _ _ h => h) ?tg94 ?tf94 ?tr94
                case ti94 => (simp only [List.getElem?_toArray, List.getElem?_cons_succ, List.getElem?_cons_zero]; rfl)
                case td94 => exact rfl
                case tg94 => exact rfl
                case tf94 => first | (intro _; assumption) | (intro e; exact absurd e (by decide +kernel))
                simp only [List.setIfInBounds_toArray, List.set_cons_zero, List.set_cons_succ]
                refine' takeU 11 (oi := _) (d := _) ?ti95 ?td95 (by kernel_rfl) (by kernel_rfl) (by kernel_rfl) (by decide) (fun _ _ _ _ _ h => h) ?tg95 ?tf95 ?tr95
                case ti95 => (simp only [List.getElem?_toArray, List.getElem?_cons_succ, List.getElem?_cons_zero]; rfl)
                case td95 => exact rfl
                case tg95 => exact rfl
                case tf95 => first | (intro _; assumption) | (intro e; exact absurd e (by decide +kernel))
                simp only [List.setIfInBounds_toArray, List.set_cons_zero, List.set_cons_succ]
                refine' takeU 12 (oi := _) (d := _) ?ti96 ?td96 (by kernel_rfl) (by kernel_rfl) (by kernel_rfl) (by decide) (fun _ _ _ _ _ h => h) ?tg96 ?tf96 ?tr96
                case ti96 => (simp only [List.getElem?_toArray, List.getElem?_cons_succ, List.getElem?_cons_zero]; rfl)
                case td96 => exact rfl
                case tg96 => exact rfl
                case tf96 => first | (intro _; assumption) | (intro e; exact absurd e (by decide +kernel))
                simp only [List.setIfInBounds_toArray, List.set_cons_zero, List.set_cons_succ]
                refine' takeU 13 (oi := _) (d := _) ?ti97 ?td97 (by kernel_rfl) (by kernel_rfl) (by kernel_rfl) (by decide) (fun _ _ _ _ _ h => h) ?tg97 ?tf97 ?tr97
                case ti97 => (simp only [List.getElem?_toArray, List.getElem?_cons_succ, List.getElem?_cons_zero]; rfl)
                case td97 => exact rfl
                case tg97 => exact rfl
                case tf97 => first | (intro _; assumption) | (intro e; exact absurd e (by decide +kernel))
                simp only [List.setIfInBounds_toArray, List.set_cons_zero, List.set_cons_succ]
                refine' takeU 14 (oi := _) (d := _) ?ti98 ?td98 (by kernel_rfl) (by kernel_rfl) (by kernel_rfl) (by decide) (fun _ _ _ _ _ h => h) ?tg98 ?tf98 ?tr98
                case ti98 => (simp only [List.getElem?_toArray, List.getElem?_cons_succ, List.getElem?_cons_zero]; rfl)
                case td98 => exact rfl
                case tg98 => exact rfl
                case tf98 => first | (intro _; assumption) | (intro e; exact absurd e (by decide +kernel))
                simp only [List.setIfInBounds_toArray, List.set_cons_zero, List.set_cons_succ]
                refine' takeU 15 (oi := _) (d := _) ?ti99 ?td99 (by kernel_rfl) (by kernel_rfl) (by kernel_rfl) (by decide) (fun _ _ _ _ _ h => h) ?tg99 ?tf99 ?tr99
                case ti99 => (simp only [List.getElem?_toArray, List.getElem?_cons_succ, List.getElem?_cons_zero]; rfl)
                case td99 => exact rfl
                case tg99 => exact rfl
                case tf99 => first | (intro _; assumption) | (intro e; exact absurd e (by decide +kernel))
                simp only [List.setIfInBounds_toArray, List.set_cons_zero, List.set_cons_succ]
                refine' takeU 16 (oi := _) (d := _) ?ti100 ?td100 (by kernel_rfl) (by kernel_rfl) (by kernel_rfl) (by decide) (fun _ _ _ _ _ h => h) ?tg100 ?tf100 ?tr100
                case ti100 => (simp only [List.getElem?_toArray, List.getElem?_cons_succ, List.getElem?_cons_zero]; rfl)
                case td100 => exact rfl
                case tg100 => exact rfl
                case tf100 => first | (intro _; assumption) | (intro e; exact absurd e (by decide +kernel))
                simp only [List.setIfInBounds_toArray, List.set_cons_zero, List.set_cons_succ]
                refine' takeU 17 (oi := _) (d := _) ?ti101 ?td101 (by kernel_rfl) (by kernel_rfl) (by kernel_rfl) (by decide) (fun _ _ _ _ _ h => h) ?tg101 ?tf101 ?tr101
                case ti101 => (simp only [List.getElem?_toArray, List.getElem?_cons_succ, List.getElem?_cons_zero]; rfl)
                case td101 => exact rfl
                case tg101 => exact rfl
                case tf101 => first | (intro _; assumption) | (intro e; exact absurd e (by decide +kernel))
                simp only [List.setIfInBounds_toArray, List.set_cons_zero, List.set_cons_succ]
                refine' takeV 18 (oi := _) (d := _) (v := _) ?ti102 ?td102 (by kernel_rfl) (by kernel_rfl) (by kernel_rfl) (by kernel_rfl) (by decide) (fun _ _ _ _ _ h => h) ?tg102 ?ty102 (by assumption) ?tr102
                case ti102 => (simp only [List.getElem?_toArray, List.getElem?_cons_succ, List.getElem?_cons_zero]; rfl)
                case td102 => exact rfl
                case tg102 => exact rfl
                case ty102 => (intro w hSw; (try dsimp only at hSw); go_split_ands; go_simp; try with_reducible rfl)
                simp only [List.setIfInBounds_toArray, List.set_cons_zero, List.set_cons_succ]
                refine doneG (by kernel_rfl) ?_ _
                go_wp2_with fail
                go_roundw
                case rel => exact ⟨i + 1, by omega, by go_num, HN.out, HBT.out.drew⟩
                case measure => first | (simp [intOf]; done) | (simp [intOf]; omega)
              · obtain ⟨q, rfl⟩ : ∃ q, i = q + 1 := ⟨i - 1, by omega⟩
                obtain ⟨b', o', A3, n3, c3, A4, n4, c4, L', r', s', K', hAA, hat', hrd', hkey', _, _, _⟩ := HR.out.here q (by omega) k
                injection hAA with hAA
                injection hAA with e1 e2 _
                subst e1
                subst e2
                have TR2 := Lib.hid (fun wx (hb : Below W.heap.size W wx) => here_all KN.out hat' hb)
                have HRP := Lib.hid (hrd'.below HBT.out)
                have HKEY' := Lib.hid hkey'
                obtain ⟨bl, hbl⟩ : ∃ bl, less K' K = bl := ⟨_, rfl⟩
                have HBL := Lib.hid hbl
                have hrat := rAt_succ HEM2.out bl (by rw [HKEY'.out, HKEY.out]; exact hbl)
                have HRAT := Lib.hid hrat
                have hML := refless_any A3 n3 c3 K' A1 n1 c1 K w4.drew (HRP.out.below (below_drewN (Below.refl _ _) 1)) (HRDw.out.below (below_drewN (Below.refl _ _) 1))
                rw [hbl] at hML
                have ML := Lib.hid hML
                have hdd : decide (((q + 1 : Nat) : Int) > 0) = true := decide_eq_true (by omega)
                have hw1 : IntKind.i64.wrap ((q : Int)) = (q : Int) := IntWalk.i64_in _ (by omega)
                have hw2 : IntKind.i64.wrap ((q : Int) + 1 - 1) = (q : Int) := by rw [show (q : Int) + 1 - 1 = (q : Int) by omega]; exact hw1
                have j1 : (0 : Int) ≤ (q : Int) := by omega
                have j2 : (q : Int) < (n : Int) := by omega
                have j3 : (0 : Int) ≤ (q : Int) + 1 := by omega
                have j4 : (q : Int) + 1 < (n : Int) := by omega
                clear hat' hrd' hkey' hbl hrat hi0 i1 hML
                cases bl with
                | false =>
                  have HG := Lib.hid (rTo_at HTO.out (by rw [HRAT.out]; decide) (by rw [← HLn.out]; exact hlt))
                  go_wp2_with fail
                  refine region_gate 19 (fun w' => w'.cell? ⟨w.heap.size, 2, none⟩ = some (.slice (some ⟨b, o, none⟩) n c) ∧ w'.cell? ⟨b, o + q * 9, none⟩ = some (.slice A3 n3 c3) ∧ w'.cell? ⟨b, o + (q + 1) * 9, none⟩ = some (.slice A1 n1 c1) ∧ Below W.heap.size W w') (by kernel_rfl) ?th103 (fun hHeld => ?tk103)
                  case th103 => ((try dsimp only); exact ⟨(TR2.out _ HBT.out.drew).2.1, (TR2.out _ HBT.out.drew).2.2.1, (TR.out _ HBT.out.drew).2.2.1, HBT.out.drew⟩)
                  refine' takeV 0 (oi := _) (d := _) (v := _) ?ti104 ?td104 (by kernel_rfl) (by kernel_rfl) (by kernel_rfl) (by kernel_rfl) (by decide) (fun _ _ _ _ _ h => h) ?tg104 ?ty104 (by assumption) ?tr104
                  case ti104 => (simp only [List.getElem?_toArray, List.getElem?_cons_succ, List.getElem?_cons_zero]; rfl)
                  case td104 => exact rfl
                  case tg104 => exact rfl
                  case ty104 => (intro w hSw; (try dsimp only at hSw); go_split_ands; go_simp; try with_reducible rfl)
                  simp only [List.setIfInBounds_toArray, List.set_cons_zero, List.set_cons_succ]
                  refine' takeV 1 (oi := _) (d := _) (v := _) ?ti105 ?td105 (by kernel_rfl) (by kernel_rfl) (by kernel_rfl) (by kernel_rfl) (by decide) (fun _ _ _ _ _ h => h) ?tg105 ?ty105 (by assumption) ?tr105
                  case ti105 => (simp only [List.getElem?_toArray, List.getElem?_cons_succ, List.getElem?_cons_zero]; rfl)
                  case td105 => exact rfl
                  case tg105 => exact rfl
                  case ty105 => (intro w hSw; (try dsimp only at hSw); go_split_ands; go_simp; try with_reducible rfl)
                  simp only [List.setIfInBounds_toArray, List.set_cons_zero, List.set_cons_succ]
                  refine' takeV 2 (oi := _) (d := _) (v := _) ?ti106 ?td106 (by kernel_rfl) (by kernel_rfl) (by kernel_rfl) (by kernel_rfl) (by decide) (fun _ _ _ _ _ h => h) ?tg106 ?ty106 (by assumption) ?tr106
                  case ti106 => (simp only [List.getElem?_toArray, List.getElem?_cons_succ, List.getElem?_cons_zero]; rfl)
                  case td106 => exact rfl
                  case tg106 => exact rfl
                  case ty106 => (intro w hSw; (try dsimp only at hSw); go_split_ands; go_simp; try with_reducible rfl)
                  simp only [List.setIfInBounds_toArray, List.set_cons_zero, List.set_cons_succ]
                  refine' takeVg 3 (oi := _) (d := _) (v := _) ?ti107 ?td107 (by kernel_rfl) (by kernel_rfl) (by kernel_rfl) (by kernel_rfl) (by decide) (fun _ _ _ _ _ h => h) ?tg107 ?ty107 (by assumption) ?tr107
                  case ti107 => (simp only [List.getElem?_toArray, List.getElem?_cons_succ, List.getElem?_cons_zero]; rfl)
                  case td107 => exact rfl
                  case tg107 => exact rfl
                  case ty107 => (intro w hSw; (try dsimp only at hSw); go_split_ands; go_simp; try with_reducible rfl)
                  simp only [List.setIfInBounds_toArray, List.set_cons_zero, List.set_cons_succ]
                  refine' takeVg 4 (oi := _) (d := _) (v := _) ?ti108 ?td108 (by kernel_rfl) (by kernel_rfl) (by kernel_rfl) (by kernel_rfl) (by decide) (fun _ _ _ _ _ h => h) ?tg108 ?ty108 (by assumption) ?tr108
                  case ti108 => (simp only [List.getElem?_toArray, List.getElem?_cons_succ, List.getElem?_cons_zero]; rfl)
                  case td108 => exact rfl
                  case tg108 => exact rfl
                  case ty108 => (intro w hSw; (try dsimp only at hSw); go_split_ands; go_simp; try with_reducible rfl)
                  simp only [List.setIfInBounds_toArray, List.set_cons_zero, List.set_cons_succ]
                  refine' takeVg 5 (oi := _) (d := _) (v := _) ?ti109 ?td109 (by kernel_rfl) (by kernel_rfl) (by kernel_rfl) (by kernel_rfl) (by decide) (fun _ _ _ _ _ h => h) ?tg109 ?ty109 (by assumption) ?tr109
                  case ti109 => (simp only [List.getElem?_toArray, List.getElem?_cons_succ, List.getElem?_cons_zero]; rfl)
                  case td109 => exact rfl
                  case tg109 => exact rfl
                  case ty109 => (intro w hSw; (try dsimp only at hSw); go_split_ands; go_simp; try with_reducible rfl)
                  simp only [List.setIfInBounds_toArray, List.set_cons_zero, List.set_cons_succ]
                  refine' takeVg 6 (oi := _) (d := _) (v := _) ?ti110 ?td110 (by kernel_rfl) (by kernel_rfl) (by kernel_rfl) (by kernel_rfl) (by decide) (fun _ _ _ _ _ h => h) ?tg110 ?ty110 (by assumption) ?tr110
                  case ti110 => (simp only [List.getElem?_toArray, List.getElem?_cons_succ, List.getElem?_cons_zero]; rfl)
                  case td110 => exact rfl
                  case tg110 => exact rfl
                  case ty110 => (intro w hSw; (try dsimp only at hSw); go_split_ands; go_simp; try with_reducible rfl)
                  simp only [List.setIfInBounds_toArray, List.set_cons_zero, List.set_cons_succ]
                  refine' takeVg 7 (oi := _) (d := _) (v := _) ?ti111 ?td111 (by kernel_rfl) (by kernel_rfl) (by kernel_rfl) (by kernel_rfl) (by decide) (fun _ _ _ _ _ h => h) ?tg111 ?ty111 (by assumption) ?tr111
                  case ti111 => (simp only [List.getElem?_toArray, List.getElem?_cons_succ, List.getElem?_cons_zero]; rfl)
                  case td111 => exact rfl
                  case tg111 => exact rfl
                  case ty111 => (intro w hSw; (try dsimp only at hSw); go_split_ands; go_simp; try with_reducible rfl)
                  simp only [List.setIfInBounds_toArray, List.set_cons_zero, List.set_cons_succ]
                  refine' takeVg 8 (oi := _) (d := _) (v := _) ?ti112 ?td112 (by kernel_rfl) (by kernel_rfl) (by kernel_rfl) (by kernel_rfl) (by decide) (fun _ _ _ _ _ h => h) ?tg112 ?ty112 (by assumption) ?tr112
                  case ti112 => (simp only [List.getElem?_toArray, List.getElem?_cons_succ, List.getElem?_cons_zero]; rfl)
                  case td112 => exact rfl
                  case tg112 => exact rfl
                  case ty112 => (intro w hSw; (try dsimp only at hSw); go_split_ands; go_simp; try with_reducible rfl)
                  simp only [List.setIfInBounds_toArray, List.set_cons_zero, List.set_cons_succ]
                  refine' takeVg 9 (oi := _) (d := _) (v := _) ?ti113 ?td113 (by kernel_rfl) (by kernel_rfl) (by kernel_rfl) (by kernel_rfl) (by decide) (fun _ _ _ _ _ h => h) ?tg113 ?ty113 (by assumption) ?tr113
                  case ti113 => (simp only [List.getElem?_toArray, List.getElem?_cons_succ, List.getElem?_cons_zero]; rfl)
                  case td113 => exact rfl
                  case tg113 => exact rfl
                  case ty113 => (intro w hSw; (try dsimp only at hSw); go_split_ands; go_simp; try with_reducible rfl)
                  simp only [List.setIfInBounds_toArray, List.set_cons_zero, List.set_cons_succ]
                  refine' takeVg 10 (oi := _) (d := _) (v := _) ?ti114 ?td114 (by kernel_rfl) (by kernel_rfl) (by kernel_rfl) (by kernel_rfl) (by decide) (fun _ _ _ _ _ h => h) ?tg114 ?ty114 (by assumption) ?tr114
                  case ti114 => (simp only [List.getElem?_toArray, List.getElem?_cons_succ, List.getElem?_cons_zero]; rfl)
                  case td114 => exact rfl
                  case tg114 => exact rfl
                  case ty114 => (intro w hSw; (try dsimp only at hSw); go_split_ands; go_simp; try with_reducible rfl)
                  simp only [List.setIfInBounds_toArray, List.set_cons_zero, List.set_cons_succ]
                  refine' takeVg 11 (oi := _) (d := _) (v := _) ?ti115 ?td115 (by kernel_rfl) (by kernel_rfl) (by kernel_rfl) (by kernel_rfl) (by decide) (fun _ _ _ _ _ h => h) ?tg115 ?ty115 (by assumption) ?tr115
                  case ti115 => (simp only [List.getElem?_toArray, List.getElem?_cons_succ, List.getElem?_cons_zero]; rfl)
                  case td115 => exact rfl
                  case tg115 => exact rfl
                  case ty115 => (intro w hSw; (try dsimp only at hSw); go_split_ands; go_simp; try with_reducible rfl)
                  simp only [List.setIfInBounds_toArray, List.set_cons_zero, List.set_cons_succ]
                  refine' takeVg 12 (oi := _) (d := _) (v := _) ?ti116 ?td116 (by kernel_rfl) (by kernel_rfl) (by kernel_rfl) (by kernel_rfl) (by decide) (fun _ _ _ _ _ h => h) ?tg116 ?ty116 (by assumption) ?tr116
                  case ti116 => (simp only [List.getElem?_toArray, List.getElem?_cons_succ, List.getElem?_cons_zero]; rfl)
                  case td116 => exact rfl
                  case tg116 => exact rfl
                  case ty116 => (intro w hSw; (try dsimp only at hSw); go_split_ands; go_simp; try with_reducible rfl)
                  simp only [List.setIfInBounds_toArray, List.set_cons_zero, List.set_cons_succ]
                  refine' takeVg 13 (oi := _) (d := _) (v := _) ?ti117 ?td117 (by kernel_rfl) (by kernel_rfl) (by kernel_rfl) (by kernel_rfl) (by decide) (fun _ _ _ _ _ h => h) ?tg117 ?ty117 (by assumption) ?tr117
                  case ti117 => (simp only [List.getElem?_toArray, List.getElem?_cons_succ, List.getElem?_cons_zero]; rfl)
                  case td117 => exact rfl
                  case tg117 => exact rfl
                  case ty117 => (intro w hSw; (try dsimp only at hSw); go_split_ands; go_simp; try with_reducible rfl)
                  simp only [List.setIfInBounds_toArray, List.set_cons_zero, List.set_cons_succ]
                  refine' takeVg 14 (oi := _) (d := _) (v := _) ?ti118 ?td118 (by kernel_rfl) (by kernel_rfl) (by kernel_rfl) (by kernel_rfl) (by decide) (fun _ _ _ _ _ h => h) ?tg118 ?ty118 (by assumption) ?tr118
                  case ti118 => (simp only [List.getElem?_toArray, List.getElem?_cons_succ, List.getElem?_cons_zero]; rfl)
                  case td118 => exact rfl
                  case tg118 => exact rfl
                  case ty118 => (intro w hSw; (try dsimp only at hSw); go_split_ands; go_simp; try with_reducible rfl)
                  simp only [List.setIfInBounds_toArray, List.set_cons_zero, List.set_cons_succ]
                  refine' takeVg 15 (oi := _) (d := _) (v := _) ?ti119 ?td119 (by kernel_rfl) (by kernel_rfl) (by kernel_rfl) (by kernel_rfl) (by decide) (fun _ _ _ _ _ h => h) ?tg119 ?ty119 (by assumption) ?tr119
                  case ti119 => (simp only [List.getElem?_toArray, List.getElem?_cons_succ, List.getElem?_cons_zero]; rfl)
                  case td119 => exact rfl
                  case tg119 => exact rfl
                  case ty119 => (intro w hSw; (try dsimp only at hSw); go_split_ands; go_simp; try with_reducible rfl)
                  simp only [List.setIfInBounds_toArray, List.set_cons_zero, List.set_cons_succ]
                  clear hHeld
                  refine stepG 16 (by kernel_rfl) (by simp only [List.getElem?_toArray, List.getElem?_cons_succ, List.getElem?_cons_zero]; rfl) (fun K hK => ?_)
                  go_simp
                  refine (ML.out).mono ?_
                  rintro e w5 ⟨rfl, hdr⟩
                  refine hK.out _ _ ?ts120 (fun hHeld => ?_)
                  case ts120 => ((try dsimp only); exact ⟨(TR2.out _ (HBT.out.drew.trans (hdr.below.mono hbt))).2.1, (TR2.out _ (HBT.out.drew.trans (hdr.below.mono hbt))).2.2.1, (TR.out _ (HBT.out.drew.trans (hdr.below.mono hbt))).2.2.1, HBT.out.drew.trans (hdr.below.mono hbt)⟩)
                  clear hK K
                  have HB5 := Lib.hid hHeld.2.2.2
                  refine' takeVg 17 (oi := _) (d := _) (v := _) ?ti121 ?td121 (by kernel_rfl) (by kernel_rfl) (by kernel_rfl) (by kernel_rfl) (by decide) (fun _ _ _ _ _ h => h) ?tg121 ?ty121 (by assumption) ?tr121
                  case ti121 => (simp only [List.getElem?_toArray, List.getElem?_cons_succ, List.getElem?_cons_zero]; rfl)
                  case td121 => exact rfl
                  case tg121 => exact rfl
                  case ty121 => (intro w hSw; (try dsimp only at hSw); go_split_ands; go_simp; try with_reducible rfl)
                  simp only [List.setIfInBounds_toArray, List.set_cons_zero, List.set_cons_succ]
                  refine' takeV 18 (oi := _) (d := _) (v := _) ?ti122 ?td122 (by kernel_rfl) (by kernel_rfl) (by kernel_rfl) (by kernel_rfl) (by decide) (fun _ _ _ _ _ h => h) ?tg122 ?ty122 (by assumption) ?tr122
                  case ti122 => (simp only [List.getElem?_toArray, List.getElem?_cons_succ, List.getElem?_cons_zero]; rfl)
                  case td122 => exact rfl
                  case tg122 => exact rfl
                  case ty122 => (intro w hSw; (try dsimp only at hSw); go_split_ands; go_simp; try with_reducible rfl)
                  simp only [List.setIfInBounds_toArray, List.set_cons_zero, List.set_cons_succ]
                  refine doneG (by kernel_rfl) ?_ _
                  go_wp2_with fail
                  go_ret
                  exact ⟨by rw [HG.out, HRAT.out]; rfl, HWB.out.trans (HB5.out.mono (Nat.le_of_lt hWs))⟩
                | true =>
                  have HN : Hid (rTo k es (q + 1 + 1) = 0) := by show _ = _; rw [rTo, if_pos HTO.out]; exact HRAT.out
                  go_wp2_with fail
                  refine region_gate 19 (fun w' => w'.cell? ⟨w.heap.size, 2, none⟩ = some (.slice (some ⟨b, o, none⟩) n c) ∧ w'.cell? ⟨b, o + q * 9, none⟩ = some (.slice A3 n3 c3) ∧ w'.cell? ⟨b, o + (q + 1) * 9, none⟩ = some (.slice A1 n1 c1) ∧ Below W.heap.size W w') (by kernel_rfl) ?th123 (fun hHeld => ?tk123)
                  case th123 => ((try dsimp only); exact ⟨(TR2.out _ HBT.out.drew).2.1, (TR2.out _ HBT.out.drew).2.2.1, (TR.out _ HBT.out.drew).2.2.1, HBT.out.drew⟩)
                  refine' takeV 0 (oi := _) (d := _) (v := _) ?ti124 ?td124 (by kernel_rfl) (by kernel_rfl) (by kernel_rfl) (by kernel_rfl) (by decide) (fun _ _ _ _ _ h => h) ?tg124 ?ty124 (by assumption) ?tr124
                  case ti124 => (simp only [List.getElem?_toArray, List.getElem?_cons_succ, List.getElem?_cons_zero]; rfl)
                  case td124 => exact rfl
                  case tg124 => exact rfl
                  case ty124 => (intro w hSw; (try dsimp only at hSw); go_split_ands; go_simp; try with_reducible rfl)
                  simp only [List.setIfInBounds_toArray, List.set_cons_zero, List.set_cons_succ]
                  refine' takeV 1 (oi := _) (d := _) (v := _) ?ti125 ?td125 (by kernel_rfl) (by kernel_rfl) (by kernel_rfl) (by kernel_rfl) (by decide) (fun _ _ _ _ _ h => h) ?tg125 ?ty125 (by assumption) ?tr125
                  case ti125 => (simp only [List.getElem?_toArray, List.getElem?_cons_succ, List.getElem?_cons_zero]; rfl)
                  case td125 => exact rfl
                  case tg125 => exact rfl
                  case ty125 => (intro w hSw; (try dsimp only at hSw); go_split_ands; go_simp; try with_reducible rfl)
                  simp only [List.setIfInBounds_toArray, List.set_cons_zero, List.set_cons_succ]
                  refine' takeV 2 (oi := _) (d := _) (v := _) ?ti126 ?td126 (by kernel_rfl) (by kernel_rfl) (by kernel_rfl) (by kernel_rfl) (by decide) (fun _ _ _ _ _ h => h) ?tg126 ?ty126 (by assumption) ?tr126
                  case ti126 => (simp only [List.getElem?_toArray, List.getElem?_cons_succ, List.getElem?_cons_zero]; rfl)
                  case td126 => exact rfl
                  case tg126 => exact rfl
                  case ty126 => (intro w hSw; (try dsimp only at hSw); go_split_ands; go_simp; try with_reducible rfl)
                  simp only [List.setIfInBounds_toArray, List.set_cons_zero, List.set_cons_succ]
                  refine' takeVg 3 (oi := _) (d := _) (v := _) ?ti127 ?td127 (by kernel_rfl) (by kernel_rfl) (by kernel_rfl) (by kernel_rfl) (by decide) (fun _ _ _ _ _ h => h) ?tg127 ?ty127 (by assumption) ?tr127
                  case ti127 => (simp only [List.getElem?_toArray, List.getElem?_cons_succ, List.getElem?_cons_zero]; rfl)
                  case td127 => exact rfl
                  case tg127 => exact rfl
                  case ty127 => (intro w hSw; (try dsimp only at hSw); go_split_ands; go_simp; try with_reducible rfl)
                  simp only [List.setIfInBounds_toArray, List.set_cons_zero, List.set_cons_succ]
                  refine' takeVg 4 (oi := _) (d := _) (v := _) ?ti128 ?td128 (by kernel_rfl) (by kernel_rfl) (by kernel_rfl) (by kernel_rfl) (by decide) (fun _ _ _ _ _ h => h) ?tg128 ?ty128 (by assumption) ?tr128
                  case ti128 => (simp only [List.getElem?_toArray, List.getElem?_cons_succ, List.getElem?_cons_zero]; rfl)
                  case td128 => exact rfl
                  case tg128 => exact rfl
                  case ty128 => (intro w hSw; (try dsimp only at hSw); go_split_ands; go_simp; try with_reducible rfl)
                  simp only [List.setIfInBounds_toArray, List.set_cons_zero, List.set_cons_succ]
                  refine' takeVg 5 (oi := _) (d := _) (v := _) ?ti129 ?td129 (by kernel_rfl) (by kernel_rfl) (by kernel_rfl) (by kernel_rfl) (by decide) (fun _ _ _ _ _ h => h) ?tg129 ?ty129 (by assumption) ?tr129
                  case ti129 => (simp only [List.getElem?_toArray, List.getElem?_cons_succ, List.getElem?_cons_zero]; rfl)
                  case td129 => exact rfl
                  case tg129 => exact rfl
                  case ty129 => (intro w hSw; (try dsimp only at hSw); go_split_ands; go_simp; try with_reducible rfl)
                  simp only [List.setIfInBounds_toArray, List.set_cons_zero, List.set_cons_succ]
                  refine' takeVg 6 (oi := _) (d := _) (v := _) ?ti130 ?td130 (by kernel_rfl) (by kernel_rfl) (by kernel_rfl) (by kernel_rfl) (by decide) (fun _ _ _ _ _ h => h) ?tg130 ?ty130 (by assumption) ?tr130
                  case ti130 => (simp only [List.getElem?_toArray, List.getElem?_cons_succ, List.getElem?_cons_zero]; rfl)
                  case td130 => exact rfl
                  case tg130 => exact rfl
                  case ty130 => (intro w hSw; (try dsimp only at hSw); go_split_ands; go_simp; try with_reducible rfl)
                  simp only [List.setIfInBounds_toArray, List.set_cons_zero, List.set_cons_succ]
                  refine' takeVg 7 (oi := _) (d := _) (v := _) ?ti131 ?td131 (by kernel_rfl) (by kernel_rfl) (by kernel_rfl) (by kernel_rfl) (by decide) (fun _ _ _ _ _ h => h) ?tg131 ?ty131 (by assumption) ?tr131
                  case ti131 => (simp only [List.getElem?_toArray, List.getElem?_cons_succ, List.getElem?_cons_zero]; rfl)
                  case td131 => exact rfl
                  case tg131 => exact rfl
                  case ty131 => (intro w hSw; (try dsimp only at hSw); go_split_ands; go_simp; try with_reducible rfl)
                  simp only [List.setIfInBounds_toArray, List.set_cons_zero, List.set_cons_succ]
                  refine' takeVg 8 (oi := _) (d := _) (v := _) ?ti132 ?td132 (by kernel_rfl) (by kernel_rfl) (by kernel_rfl) (by kernel_rfl) (by decide) (fun _ _ _ _ _ h => h) ?tg132 ?ty132 (by assumption) ?tr132
                  case ti132 => (simp only [List.getElem?_toArray, List.getElem?_cons_succ, List.getElem?_cons_zero]; rfl)
                  case td132 => exact rfl
                  case tg132 => exact rfl
                  case ty132 => (intro w hSw; (try dsimp only at hSw); go_split_ands; go_simp; try with_reducible rfl)
                  simp only [List.setIfInBounds_toArray, List.set_cons_zero, List.set_cons_succ]
                  refine' takeVg 9 (oi := _) (d := _) (v := _) ?ti133 ?td133 (by kernel_rfl) (by kernel_rfl) (by kernel_rfl) (by kernel_rfl) (by decide) (fun _ _ _ _ _ h => h) ?tg133 ?ty133 (by assumption) ?tr133
                  case ti133 => (simp only [List.getElem?_toArray, List.getElem?_cons_succ, List.getElem?_cons_zero]; rfl)
                  case td133 => exact rfl
                  case tg133 => exact rfl
                  case ty133 => (intro w hSw; (try dsimp only at hSw); go_split_ands; go_simp; try with_reducible rfl)
                  simp only [List.setIfInBounds_toArray, List.set_cons_zero, List.set_cons_succ]
                  refine' takeVg 10 (oi := _) (d := _) (v := _) ?ti134 ?td134 (by kernel_rfl) (by kernel_rfl) (by kernel_rfl) (by kernel_rfl) (by decide) (fun _ _ _ _ _ h => h) ?tg134 ?ty134 (by assumption) ?tr134
                  case ti134 => (simp only [List.getElem?_toArray, List.getElem?_cons_succ, List.getElem?_cons_zero]; rfl)
                  case td134 => exact rfl
                  case tg134 => exact rfl
                  case ty134 => (intro w hSw; (try dsimp only at hSw); go_split_ands; go_simp; try with_reducible rfl)
                  simp only [List.setIfInBounds_toArray, List.set_cons_zero, List.set_cons_succ]
                  refine' takeVg 11 (oi := _) (d := _) (v := _) ?ti135 ?td135 (by kernel_rfl) (by kernel_rfl) (by kernel_rfl) (by kernel_rfl) (by decide) (fun _ _ _ _ _ h => h) ?tg135 ?ty135 (by assumption) ?tr135
                  case ti135 => (simp only [List.getElem?_toArray, List.getElem?_cons_succ, List.getElem?_cons_zero]; rfl)
                  case td135 => exact rfl
                  case tg135 => exact rfl
                  case ty135 => (intro w hSw; (try dsimp only at hSw); go_split_ands; go_simp; try with_reducible rfl)
                  simp only [List.setIfInBounds_toArray, List.set_cons_zero, List.set_cons_succ]
                  refine' takeVg 12 (oi := _) (d := _) (v := _) ?ti136 ?td136 (by kernel_rfl) (by kernel_rfl) (by kernel_rfl) (by kernel_rfl) (by decide) (fun _ _ _ _ _ h => h) ?tg136 ?ty136 (by assumption) ?tr136
                  case ti136 => (simp only [List.getElem?_toArray, List.getElem?_cons_succ, List.getElem?_cons_zero]; rfl)
                  case td136 => exact rfl
                  case tg136 => exact rfl
                  case ty136 => (intro w hSw; (try dsimp only at hSw); go_split_ands; go_simp; try with_reducible rfl)
                  simp only [List.setIfInBounds_toArray, List.set_cons_zero, List.set_cons_succ]
                  refine' takeVg 13 (oi := _) (d := _) (v := _) ?ti137 ?td137 (by kernel_rfl) (by kernel_rfl) (by kernel_rfl) (by kernel_rfl) (by decide) (fun _ _ _ _ _ h => h) ?tg137 ?ty137 (by assumption) ?tr137
                  case ti137 => (simp only [List.getElem?_toArray, List.getElem?_cons_succ, List.getElem?_cons_zero]; rfl)
                  case td137 => exact rfl
                  case tg137 => exact rfl
                  case ty137 => (intro w hSw; (try dsimp only at hSw); go_split_ands; go_simp; try with_reducible rfl)
                  simp only [List.setIfInBounds_toArray, List.set_cons_zero, List.set_cons_succ]
                  refine' takeVg 14 (oi := _) (d := _) (v := _) ?ti138 ?td138 (by kernel_rfl) (by kernel_rfl) (by kernel_rfl) (by kernel_rfl) (by decide) (fun _ _ _ _ _ h => h) ?tg138 ?ty138 (by assumption) ?tr138
                  case ti138 => (simp only [List.getElem?_toArray, List.getElem?_cons_succ, List.getElem?_cons_zero]; rfl)
                  case td138 => exact rfl
                  case tg138 => exact rfl
                  case ty138 => (intro w hSw; (try dsimp only at hSw); go_split_ands; go_simp; try with_reducible rfl)
                  simp only [List.setIfInBounds_toArray, List.set_cons_zero, List.set_cons_succ]
                  refine' takeVg 15 (oi := _) (d := _) (v := _) ?ti139 ?td139 (by kernel_rfl) (by kernel_rfl) (by kernel_rfl) (by kernel_rfl) (by decide) (fun _ _ _ _ _ h => h) ?tg139 ?ty139 (by assumption) ?tr139
                  case ti139 => (simp only [List.getElem?_toArray, List.getElem?_cons_succ, List.getElem?_cons_zero]; rfl)
                  case td139 => exact rfl
                  case tg139 => exact rfl
                  case ty139 => (intro w hSw; (try dsimp only at hSw); go_split_ands; go_simp; try with_reducible rfl)
                  simp only [List.setIfInBounds_toArray, List.set_cons_zero, List.set_cons_succ]
                  clear hHeld
                  refine stepG 16 (by kernel_rfl) (by simp only [List.getElem?_toArray, List.getElem?_cons_succ, List.getElem?_cons_zero]; rfl) (fun K hK => ?_)
                  go_simp
                  refine (ML.out).mono ?_
                  rintro e w5 ⟨rfl, hdr⟩
                  refine hK.out _ _ ?ts140 (fun hHeld => ?_)
                  case ts140 => ((try dsimp only); exact ⟨(TR2.out _ (HBT.out.drew.trans (hdr.below.mono hbt))).2.1, (TR2.out _ (HBT.out.drew.trans (hdr.below.mono hbt))).2.2.1, (TR.out _ (HBT.out.drew.trans (hdr.below.mono hbt))).2.2.1, HBT.out.drew.trans (hdr.below.mono hbt)⟩)
                  clear hK K
                  have HB5 := Lib.hid hHeld.2.2.2
                  refine' takeVg 17 (oi := _) (d := _) (v := _) ?ti141 ?td141 (by kernel_rfl) (by kernel_rfl) (by kernel_rfl) (by kernel_rfl) (by decide) (fun _ _ _ _ _ h => h) ?tg141 ?ty141 (by assumption) ?tr141
                  case ti141 => (simp only [List.getElem?_toArray, List.getElem?_cons_succ, List.getElem?_cons_zero]; rfl)
                  case td141 => exact rfl
                  case tg141 => exact rfl
                  case ty141 => (intro w hSw; (try dsimp only at hSw); go_split_ands; go_simp; try with_reducible rfl)
                  simp only [List.setIfInBounds_toArray, List.set_cons_zero, List.set_cons_succ]
                  refine' takeV 18 (oi := _) (d := _) (v := _) ?ti142 ?td142 (by kernel_rfl) (by kernel_rfl) (by kernel_rfl) (by kernel_rfl) (by decide) (fun _ _ _ _ _ h => h) ?tg142 ?ty142 (by assumption) ?tr142
                  case ti142 => (simp only [List.getElem?_toArray, List.getElem?_cons_succ, List.getElem?_cons_zero]; rfl)
                  case td142 => exact rfl
                  case tg142 => exact rfl
                  case ty142 => (intro w hSw; (try dsimp only at hSw); go_split_ands; go_simp; try with_reducible rfl)
                  simp only [List.setIfInBounds_toArray, List.set_cons_zero, List.set_cons_succ]
                  refine doneG (by kernel_rfl) ?_ _
                  go_wp2_with fail
                  go_roundw
                  case rel => exact ⟨q + 1 + 1, by omega, by go_num, HN.out, HB5.out⟩
                  case measure => first | (simp [intOf]; done) | (simp [intOf]; omega)
          · obtain rfl : i = n := by omega
            have HT := HTO.out
            rw [HLn.out] at HT
            have HF := Lib.hid HT
            clear HT hi hlt
            go_wp2_with fail
            go_ret
            exact ⟨by rw [HF.out]; rfl, HWB.out.trans (HBE.out.mono (Nat.le_of_lt hWs))⟩
end Go.Proofs.Ytihbpmceggghgaa
