/- Contracts: donjonref14.Split. -/
import Derived.Test.YtgihcjmcefdkiaaGrPart
set_option linter.unusedVariables false
set_option linter.unusedSimpArgs false
namespace Go.Proofs.Ytgihcjmcefdkiaa
open Go.RowKit

/-- A right node's beginning: the first key is struck already. -/
theorem part_take {kd l : Nat} {es : List Ent} (h : rE kd l es = 0) (i : Nat) (hi : i ≤ es.length) : mE kd (segE es 0 i) = es.take i := by
  have hs : segE es 0 i = es.take i := by rw [segE]; rfl
  rw [hs, mE]
  split
  · rename_i hk
    subst hk
    obtain ⟨_, _, h2, h3⟩ := right_may h
    have h0 := (h3 0 (h2 rfl)).1
    have hkey : (es.getD 0 ent0).key = [] := by
      unfold emay emayL kmay at h0
      rw [Bool.and_eq_true, if_pos ⟨rfl, rfl⟩] at h0
      exact List.eq_nil_of_length_eq_zero (by simpa using h0.1)
    cases es with
    | nil => simp [nk]
    | cons x r =>
      cases i with
      | zero => rfl
      | succ i =>
        simp only [List.take_succ_cons, nk]
        have : x.key = [] := hkey
        cases x
        simp only at this
        subst this
        rfl
  · rfl
theorem part_drop (kd : Nat) (es : List Ent) (i : Nat) : mE kd (segE es i es.length) = cutB kd es i := by
  have hs : segE es i es.length = es.drop i := by rw [segE, List.take_of_length_le (by rw [List.length_drop]; exact Nat.le_refl _)]
  rw [hs]; rfl
set_option maxRecDepth 100000 in
set_option maxHeartbeats 6400000 in
theorem refsplit_any (k l : Nat) (A : Option Addr) (n c : Nat) (es : List Ent) (w : World) (h : RdL w A n c es) (hk : k < 256) (hl : l < 256) (hin : esIn es) (hN : n ≤ 9000) (hs : shortE es) :
    Calls Try.prog 16 #[NdV k l A n c] w (SplP k l es w) := by
  have hcap := h.cap
  have hmax := h.max
  unfold maxLen at hmax
  have HLn := Lib.hid h.len
  have HS := Lib.hid hs
  have HIN := Lib.hid hin
  obtain ⟨W, hW⟩ : ∃ W, W = ((w.alloc (.cells #[.int .u8 (k : Int), .int .u8 (l : Int), .slice A n c] 24)).alloc (.cells #[.int .u8 0, .int .u8 0, .slice none 0 0] 24)).alloc (.cells #[.int .u8 0, .int .u8 0, .slice none 0 0] 24) := ⟨_, rfl⟩
  have HWB : Hid (Below w.heap.size w W) := by rw [hW]; exact ((below_new _ _).alloc (by simp) _).alloc (by simp; omega) _
  have KN : Hid (Blk W w.heap.size 24 (ndA k l A n c)) := by rw [hW]; exact ((Blk.new _ _ _).alloc _).alloc _
  have KZ1 : Hid (Blk W (w.heap.size + 1) 24 [Value.int .u8 0, .int .u8 0, .slice none 0 0].toArray) := by rw [hW]; exact (Blk.new' _ _ _ _ (by simp)).alloc _
  have KZ2 : Hid (Blk W (w.heap.size + 1 + 1) 24 [Value.int .u8 0, .int .u8 0, .slice none 0 0].toArray) := by rw [hW]; exact Blk.new' _ _ _ _ (by simp)
  have HR := Lib.hid (h.below HWB.out)
  have HRw := Lib.hid h
  have HW := Lib.hid hW
  have hWs := KZ2.out.lt
  have HM := Lib.hid (refright_any k l A n c es W HR.out hk hl)
  have hNN : rE k l es = 0 → 3 + (entsB k es).length ≤ 140737488355328 := right_reach (by rw [← HLn.out]; omega)
  clear h hs hW hin
  have d0 : W.cell? ⟨w.heap.size, 0, none⟩ = some (.int .u8 (k : Int)) := KN.out.cell 0
  have d1 : W.cell? ⟨w.heap.size, 1, none⟩ = some (.int .u8 (l : Int)) := KN.out.cell 1
  have d2 : W.cell? ⟨w.heap.size, 2, none⟩ = some (.slice A n c) := KN.out.cell 2
  by_cases hr : rE k l es = 0
  · have hsz : sizeV k l es = 3 + (entsB k es).length := by rw [sizeV, if_pos hr]
    rw [hr] at HM
    obtain ⟨t, ht⟩ : ∃ t, 3 + (entsB k es).length = t := ⟨_, rfl⟩
    have HRR := Lib.hid hr
    have HNN := Lib.hid (hNN hr)
    have HSZ : Hid (sizeV k l es = t) := by show _ = _; rw [hsz, ht]
    have HT := Lib.hid ht
    clear hr hsz ht hNN
    go_enter Try.func16, Try.ntmps16
    go_wp2_with fail
    rw [← HW.out]
    refine HM.out.mono ?_
    rintro e w1 ⟨rfl, hb1⟩
    have HB1 := Lib.hid hb1
    have s1 := hb1.size
    have KN1 := Lib.hid (KN.out.below hb1 KN.out.lt)
    have HC := Lib.hid (refsize_any k l A n c es w1 (HR.out.below hb1) hk hl HIN.out HRR.out HNN.out)
    rw [HSZ.out] at HC
    clear hb1 HM d0 d1 d2
    have d0 : w1.cell? ⟨w.heap.size, 0, none⟩ = some (.int .u8 (k : Int)) := KN1.out.cell 0
    have d1 : w1.cell? ⟨w.heap.size, 1, none⟩ = some (.int .u8 (l : Int)) := KN1.out.cell 1
    have d2 : w1.cell? ⟨w.heap.size, 2, none⟩ = some (.slice A n c) := KN1.out.cell 2
    go_wp2_with fail
    refine HC.out.mono ?_
    rintro e w2 ⟨rfl, hb2⟩
    have HB2 : Hid (Below W.heap.size W w2) := HB1.out.trans (hb2.mono s1)
    clear hb2 HC d0 d1 d2
    by_cases h224 : t ≤ 224
    · have hd : decide ((t : Int) ≤ 224) = true := decide_eq_true (by omega)
      have HE : Hid (splE k l es = 7) := by show _ = _; rw [splE, if_pos HRR.out, if_pos (by rw [HT.out]; exact h224)]
      have kz1 := Lib.hid (KZ1.out.below HB2.out KZ1.out.lt)
      have kz2 := Lib.hid (KZ2.out.below HB2.out KZ2.out.lt)
      have hi0 : (Try.prog.info? 24).map (·.size) = some [Value.int .u8 0, .int .u8 0, .slice none 0 0].length := infoNd
      have ho0 : ∀ v ∈ [Value.int .u8 0, .int .u8 0, .slice none 0 0], v.oneCell' = true := nd_one 0 0 none 0 0
      go_wp2_with (first
        | (with_reducible refine wpList_store_blk rfl 24 (.tmp 2) (.tmp 23) rfl rfl (cs := [Value.int .u8 0, .int .u8 0, .slice none 0 0]) rfl kz1.out z3len hi0 ho0 ?_; intro wa hka hga; have kz3 := Lib.hid (kz2.out.keep_grown hga (by simp)))
        | (with_reducible refine wpList_store_blk rfl 24 (.tmp 3) (.tmp 24) rfl rfl (cs := [Value.int .u8 0, .int .u8 0, .slice none 0 0]) rfl kz3.out z3len hi0 ho0 ?_; intro wb hkb2 hgb))
      have hka2 := hka.keep_grown hgb (by simp)
      have e0 := hka2.cell 0
      have e1 := hka2.cell 1
      have e2 := hka2.cell 2
      have f0 := hkb2.cell 0
      have f1 := hkb2.cell 1
      have f2 := hkb2.cell 2
      have t5 := (HB2.out).size
      have hfin := (((HB2.out).mono (by omega : w.heap.size + 1 ≤ W.heap.size)).grown hga (by omega) (by intro q hq; simp at hq; omega)).grown hgb (by have := hga.size; omega) (by intro q hq; simp at hq; omega)
      refine bodyPost_ret (v := .tuple #[NdV 0 0 none 0 0, NdV 0 0 none 0 0, .slice none 0 0, .int .i64 7]) ?_ rfl (SplP.none_ (by rw [HE.out]; decide) (HWB.out.trans (hfin.mono (by omega))) HE.out)
      simp [results, Try.results16, go_sem, e0, e1, e2, f0, f1, f2]
    · have hd : decide ((t : Int) ≤ 224) = false := decide_eq_false (by omega)
      have hn1 : 1 ≤ n := by
        rcases Nat.eq_zero_or_pos n with h0 | h0
        · have := HLn.out
          have e : es = [] := List.eq_nil_of_length_eq_zero (by omega)
          have h3 := HT.out
          rw [e] at h3
          simp [entsB] at h3
          omega
        · exact h0
      have ht224 := h224
      clear h224
      go_wp2_with fail
      clear hd
      go_loopw [7, 8, 9] (fun z7 z8 z9 wr => ∃ q : Nat, q + 1 ≤ n ∧ z9 = .int .i64 ((q + 1 : Nat) : Int) ∧ z7 = .int .i64 (if (bst k es q).1 = 0 then -1 else ((bst k es q).1 : Int)) ∧ z8 = .int .i64 ((bst k es q).2 : Int) ∧ Below W.heap.size W wr) (fun _ _ z9 _ => n - (intOf z9).toNat)
      case atStart => exact ⟨0, hn1, rfl, rfl, rfl, HB2.out⟩
      case round =>
        obtain ⟨q, hq, rfl, rfl, rfl, hbel⟩ := hrel
        have HBE := Lib.hid hbel
        have hbs := hbel.size
        have KNr := Lib.hid (KN.out.below hbel KN.out.lt)
        have HRr := Lib.hid (HR.out.below hbel)
        clear hbel
        obtain ⟨p, hp⟩ : ∃ p, q + 1 = p := ⟨_, rfl⟩
        have d0 : wr.cell? ⟨w.heap.size, 0, none⟩ = some (.int .u8 (k : Int)) := KNr.out.cell 0
        have d1 : wr.cell? ⟨w.heap.size, 1, none⟩ = some (.int .u8 (l : Int)) := KNr.out.cell 1
        have d2 : wr.cell? ⟨w.heap.size, 2, none⟩ = some (.slice A n c) := KNr.out.cell 2
        rw [hp] at hq ⊢
        obtain ⟨B, HB⟩ : ∃ b, Hid ((bst k es q).1 = b) := ⟨_, rfl⟩
        obtain ⟨O, HOF⟩ : ∃ b, Hid ((bst k es q).2 = b) := ⟨_, rfl⟩
        rw [HB.out, HOF.out]
        obtain ⟨G, hG⟩ : ∃ G : Int, G = if B = 0 then -1 else (B : Int) := ⟨_, rfl⟩
        rw [← hG]
        have HGG := Lib.hid hG
        have HP := Lib.hid hp
        clear hp hG
        by_cases hlt : p < n
        · have j0 : decide ((p : Int) < (n : Int)) = true := decide_eq_true (by omega)
          have hpl : p < es.length := by rw [← HLn.out]; exact hlt
          have hp1 : 1 ≤ p := by have := HP.out; omega
          have HPA := part_any k l A n c es 0 p wr HRr.out hk hl (by omega) (by omega) hN HS.out
          rw [part_take HRR.out p (by omega), Nat.sub_zero, show ((0 : Nat) : Int) = 0 from rfl] at HPA
          have HC := Lib.hid HPA
          clear HPA
          go_wp2_with fail
          refine HC.out.mono ?_
          rintro e w3 ⟨A1, c1, rfl, ho1, hb⟩
          have HB3 : Hid (Below W.heap.size W w3) := HBE.out.trans (hb.mono hbs)
          have s3 := HB3.out.size
          have ht1 := right_take HRR.out p hp1 (by omega)
          have ht2 := right_cutB HRR.out p hp1 hpl
          have hx : sizeV k l (es.take p) = xS k es p := by rw [sizeV, if_pos ht1]; rfl
          have hy : sizeV k l (cutB k es p) = yS k es p := by rw [sizeV, if_pos ht2]; rfl
          obtain ⟨X, HX⟩ : ∃ x, Hid (xS k es p = x) := ⟨_, rfl⟩
          obtain ⟨Y, HY⟩ : ∃ x, Hid (yS k es p = x) := ⟨_, rfl⟩
          have HXS := right_reach (k := k) (l := l) (es := es.take p) (by rw [List.length_take]; omega) ht1
          have HYS := right_reach (k := k) (l := l) (es := cutB k es p) (by rw [cutB_length]; have := HLn.out; omega) ht2
          have hXle : X ≤ 140737488355328 := by rw [← HX.out]; exact HXS
          have hYle : Y ≤ 140737488355328 := by rw [← HY.out]; exact HYS
          have HC2 := refsize_any k l A1 p c1 (es.take p) w3 (ho1.rdl (by rw [List.length_take]; omega)) hk hl (HIN.out.take p) ht1 HXS
          rw [hx, HX.out] at HC2
          have HC2' := Lib.hid HC2
          have HY2 := Lib.hid hy
          have HT2 := Lib.hid ht2
          have HYS' := Lib.hid HYS
          have KN3 := Lib.hid (KN.out.below HB3.out KN.out.lt)
          have HR3 := Lib.hid (HR.out.below HB3.out)
          clear HC HC2 ho1 hb d0 d1 d2 ht1 ht2 hx hy HXS HYS
          go_wp2_with fail
          refine HC2'.out.mono ?_
          rintro e w4 ⟨rfl, hb⟩
          have HB4 : Hid (Below W.heap.size W w4) := HB3.out.trans (hb.mono s3)
          have s4 := HB4.out.size
          have KN4 := Lib.hid (KN.out.below HB4.out KN.out.lt)
          have HPA := part_any k l A n c es p n w4 (HR.out.below HB4.out) hk hl (by omega) (by omega) hN HS.out
          have hpd : mE k (segE es p n) = cutB k es p := by rw [HLn.out]; exact part_drop k es p
          rw [hpd] at HPA
          have HC := Lib.hid HPA
          clear HPA hpd hb HC2' KN3 HR3
          have d0 : w4.cell? ⟨w.heap.size, 0, none⟩ = some (.int .u8 (k : Int)) := KN4.out.cell 0
          have d1 : w4.cell? ⟨w.heap.size, 1, none⟩ = some (.int .u8 (l : Int)) := KN4.out.cell 1
          have d2 : w4.cell? ⟨w.heap.size, 2, none⟩ = some (.slice A n c) := KN4.out.cell 2
          go_wp2_with fail
          refine HC.out.mono ?_
          rintro e w5 ⟨A2, c2, rfl, ho2, hb⟩
          have HB5 : Hid (Below W.heap.size W w5) := HB4.out.trans (hb.mono s4)
          have s5 := HB5.out.size
          have HC2 := refsize_any k l A2 (n - p) c2 (cutB k es p) w5 (ho2.rdl (by rw [cutB_length, HLn.out])) hk hl (HIN.out.cutB k p) HT2.out HYS'.out
          rw [HY2.out, HY.out] at HC2
          have HC2' := Lib.hid HC2
          clear HC HC2 ho2 hb d0 d1 d2 KN4
          go_wp2_with fail
          refine HC2'.out.mono ?_
          rintro e w6 ⟨rfl, hb⟩
          have HB6 : Hid (Below W.heap.size W w6) := HB5.out.trans (hb.mono s5)
          have HST : Hid (bst k es p = bsA k es (bst k es q) p) := by show _ = _; rw [← HP.out, bst]
          clear hb HC2' j0
          by_cases hX : 224 < X
          · have hd : decide ((X : Int) > 224) = true := decide_eq_true (by omega)
            have hd2 : decide ((224 : Int) < (X : Int)) = true := decide_eq_true (by omega)
            have HS2 : Hid (bst k es p = bst k es q) := by show _ = _; rw [HST.out, bsA, if_neg]; rw [HX.out, HY.out]; omega
            go_wp2_with fail
            go_roundw
            case rel => exact ⟨p, by omega, rfl, by rw [HS2.out, HB.out, HGG.out], by rw [HS2.out, HOF.out], HB6.out⟩
            case measure => first | (simp [intOf]; done) | (simp [intOf]; omega)
          · have hd : decide ((X : Int) > 224) = false := decide_eq_false (by omega)
            have hd2 : decide ((224 : Int) < (X : Int)) = false := decide_eq_false (by omega)
            by_cases hY : 224 < Y
            · have hd3 : decide ((Y : Int) > 224) = true := decide_eq_true (by omega)
              have hd4 : decide ((224 : Int) < (Y : Int)) = true := decide_eq_true (by omega)
              have HS2 : Hid (bst k es p = bst k es q) := by show _ = _; rw [HST.out, bsA, if_neg]; rw [HX.out, HY.out]; omega
              go_wp2_with fail
              go_roundw
              case rel => exact ⟨p, by omega, rfl, by rw [HS2.out, HB.out, HGG.out], by rw [HS2.out, HOF.out], HB6.out⟩
              case measure => first | (simp [intOf]; done) | (simp [intOf]; omega)
            · have hd3 : decide ((Y : Int) > 224) = false := decide_eq_false (by omega)
              have hd4 : decide ((224 : Int) < (Y : Int)) = false := decide_eq_false (by omega)
              have HD : Hid (bst k es p = if B = 0 ∨ dist X Y < O then (p, dist X Y) else bst k es q) := by
                show _ = _
                rw [HST.out, bsA, HX.out, HY.out, if_pos ⟨by omega, by omega⟩, HB.out, HOF.out]
              have HO224 : O ≤ 224 := by rw [← HOF.out]; exact bst_off k es q
              have hw1 : IntKind.i64.wrap ((X : Int) - (Y : Int)) = (X : Int) - (Y : Int) := IntWalk.i64_in _ (by omega)
              obtain ⟨D, HDD⟩ : ∃ D, Hid (dist X Y = D) := ⟨_, rfl⟩
              rw [HDD.out] at HD
              have HDX : Hid ((X : Int) - (Y : Int) < 0 ∧ -((X : Int) - (Y : Int)) = (D : Int) ∨ ¬ ((X : Int) - (Y : Int) < 0) ∧ (X : Int) - (Y : Int) = (D : Int)) := by
                show _ ∨ _
                have := HDD.out
                unfold dist at this
                omega
              have hDle : D ≤ 224 := by have := HDX.out; omega
              rcases HDX.out with ⟨hs, he⟩ | ⟨hs, he⟩
              · have hd6 : decide ((X : Int) - (Y : Int) < 0) = true := decide_eq_true hs
                have he2 : (Y : Int) - (X : Int) = (D : Int) := by omega
                clear hs
                by_cases hB0 : B = 0
                · have HS2 : Hid (bst k es p = (p, D)) := by show _ = _; rw [HD.out, if_pos (.inl hB0)]
                  have hg : decide (G < 0) = true := by rw [HGG.out, if_pos hB0]; rfl
                  go_wp2_with fail
                  go_roundw
                  case rel => exact ⟨p, by omega, by go_num, by rw [HS2.out, if_neg (by omega)], by rw [HS2.out], HB6.out⟩
                  case measure => first | (simp [intOf]; done) | (simp [intOf]; omega)
                · have hg : decide (G < 0) = false := by rw [HGG.out, if_neg hB0]; exact decide_eq_false (by omega)
                  by_cases hDO : D < O
                  · have HS2 : Hid (bst k es p = (p, D)) := by show _ = _; rw [HD.out, if_pos (.inr hDO)]
                    have hd5 : decide ((D : Int) < (O : Int)) = true := decide_eq_true (by omega)
                    go_wp2_with fail
                    go_roundw
                    case rel => exact ⟨p, by omega, by go_num, by rw [HS2.out, if_neg (by omega)], by rw [HS2.out], HB6.out⟩
                    case measure => first | (simp [intOf]; done) | (simp [intOf]; omega)
                  · have HS2 : Hid (bst k es p = bst k es q) := by show _ = _; rw [HD.out, if_neg (by omega)]
                    have hd5 : decide ((D : Int) < (O : Int)) = false := decide_eq_false (by omega)
                    go_wp2_with fail
                    go_roundw
                    case rel => exact ⟨p, by omega, by go_num, by rw [HS2.out, HB.out, HGG.out], by rw [HS2.out, HOF.out], HB6.out⟩
                    case measure => first | (simp [intOf]; done) | (simp [intOf]; omega)
              · have hd6 : decide ((X : Int) - (Y : Int) < 0) = false := decide_eq_false hs
                clear hs
                by_cases hB0 : B = 0
                · have HS2 : Hid (bst k es p = (p, D)) := by show _ = _; rw [HD.out, if_pos (.inl hB0)]
                  have hg : decide (G < 0) = true := by rw [HGG.out, if_pos hB0]; rfl
                  go_wp2_with fail
                  go_roundw
                  case rel => exact ⟨p, by omega, by go_num, by rw [HS2.out, if_neg (by omega)], by rw [HS2.out], HB6.out⟩
                  case measure => first | (simp [intOf]; done) | (simp [intOf]; omega)
                · have hg : decide (G < 0) = false := by rw [HGG.out, if_neg hB0]; exact decide_eq_false (by omega)
                  by_cases hDO : D < O
                  · have HS2 : Hid (bst k es p = (p, D)) := by show _ = _; rw [HD.out, if_pos (.inr hDO)]
                    have hd5 : decide ((D : Int) < (O : Int)) = true := decide_eq_true (by omega)
                    go_wp2_with fail
                    go_roundw
                    case rel => exact ⟨p, by omega, by go_num, by rw [HS2.out, if_neg (by omega)], by rw [HS2.out], HB6.out⟩
                    case measure => first | (simp [intOf]; done) | (simp [intOf]; omega)
                  · have HS2 : Hid (bst k es p = bst k es q) := by show _ = _; rw [HD.out, if_neg (by omega)]
                    have hd5 : decide ((D : Int) < (O : Int)) = false := decide_eq_false (by omega)
                    go_wp2_with fail
                    go_roundw
                    case rel => exact ⟨p, by omega, by go_num, by rw [HS2.out, HB.out, HGG.out], by rw [HS2.out, HOF.out], HB6.out⟩
                    case measure => first | (simp [intOf]; done) | (simp [intOf]; omega)
        · obtain rfl : p = n := by omega
          have j0 : decide ((p : Int) < (p : Int)) = false := decide_eq_false (by omega)
          have hbest : best k es = B := by
            rw [← HB.out, best, ← HLn.out, show p - 1 = q by have := HP.out; omega]
          have HBB := Lib.hid hbest
          have h224 : ¬ 3 + (entsB k es).length ≤ 224 := by rw [HT.out]; exact ht224
          have H224 := Lib.hid h224
          clear hbest h224 hlt hq
          by_cases hB0 : B = 0
          · have hg : decide (G < 0) = true := by rw [HGG.out, if_pos hB0]; rfl
            have HE : Hid (splE k l es = 9) := by show _ = _; rw [splE, if_pos HRR.out, if_neg H224.out, if_pos (by rw [HBB.out]; exact hB0)]
            clear hB0
            have kz1 := Lib.hid (KZ1.out.below HBE.out KZ1.out.lt)
            have kz2 := Lib.hid (KZ2.out.below HBE.out KZ2.out.lt)
            have hi0 : (Try.prog.info? 24).map (·.size) = some [Value.int .u8 0, .int .u8 0, .slice none 0 0].length := infoNd
            have ho0 : ∀ v ∈ [Value.int .u8 0, .int .u8 0, .slice none 0 0], v.oneCell' = true := nd_one 0 0 none 0 0
            go_wp2_with (first
              | (with_reducible refine wpList_store_blk rfl 24 (.tmp 2) (.tmp 67) rfl rfl (cs := [Value.int .u8 0, .int .u8 0, .slice none 0 0]) rfl kz1.out z3len hi0 ho0 ?_; intro wa hka hga; have kz3 := Lib.hid (kz2.out.keep_grown hga (by simp)))
              | (with_reducible refine wpList_store_blk rfl 24 (.tmp 3) (.tmp 68) rfl rfl (cs := [Value.int .u8 0, .int .u8 0, .slice none 0 0]) rfl kz3.out z3len hi0 ho0 ?_; intro wb hkb2 hgb))
            have hka2 := hka.keep_grown hgb (by simp)
            have e0 := hka2.cell 0
            have e1 := hka2.cell 1
            have e2 := hka2.cell 2
            have f0 := hkb2.cell 0
            have f1 := hkb2.cell 1
            have f2 := hkb2.cell 2
            have t5 := (HBE.out).size
            have hfin := (((HBE.out).mono (by omega : w.heap.size + 1 ≤ W.heap.size)).grown hga (by omega) (by intro q hq; simp at hq; omega)).grown hgb (by have := hga.size; omega) (by intro q hq; simp at hq; omega)
            refine bodyPost_ret (v := .tuple #[NdV 0 0 none 0 0, NdV 0 0 none 0 0, .slice none 0 0, .int .i64 9]) ?_ rfl (SplP.none_ (by rw [HE.out]; decide) (HWB.out.trans (hfin.mono (by omega))) HE.out)
            simp [results, Try.results16, go_sem, e0, e1, e2, f0, f1, f2]
          · have hg : decide (G < 0) = false := by rw [HGG.out, if_neg hB0]; exact decide_eq_false (by omega)
            have HE : Hid (splE k l es = 0) := by show _ = _; rw [splE, if_pos HRR.out, if_neg H224.out, if_neg (by rw [HBB.out]; exact hB0)]
            have hGB : G = (B : Int) := by rw [HGG.out, if_neg hB0]
            have hbn : B < p := by
              have := best_lt (kd := k) (es := es) (by rw [HBB.out]; exact hB0)
              rw [HBB.out, ← HLn.out] at this
              exact this
            subst hGB
            go_upto_region 22 with fail
            obtain ⟨b0, o, A5, n5, c5, A6, n6, c6, rfl, hat, hrk, _⟩ := HRw.out.ent B hbn _ rfl
            have hbl := hat.lt
            have hatW := hat.below HWB.out
            have a0 := hatW.c0
            have HRK := Lib.hid (hrk.below HWB.out)
            have hln5 : n5 ≤ 140737488355328 := by rw [hrk.len]; exact (HS.out B (by rw [← HLn.out]; exact hbn)).1
            have HKL := Lib.hid hrk.len
            have TR : Hid (∀ V, Below (w.heap.size + 1) W V → (fun V => V.cell? ⟨w.heap.size, 0, none⟩ = some (.int .u8 (k : Int)) ∧ V.cell? ⟨w.heap.size, 1, none⟩ = some (.int .u8 (l : Int)) ∧ V.cell? ⟨w.heap.size, 2, none⟩ = some (.slice (some ⟨b0, o, none⟩) p c) ∧ V.cell? ⟨b0, o + B * 9, none⟩ = some (.slice A5 n5 c5) ∧ Below (w.heap.size + 1) W V) V) := fun V hb => by
              have k1 := KN.out.below hb (by omega)
              have k2 := (World.cell?_of_block (a := ⟨b0, o + B * 9, none⟩) (hb.block b0 (by omega))).trans a0
              exact ⟨k1.cell 0, k1.cell 1, k1.cell 2, k2, hb⟩
            have i1 : (0 : Int) ≤ (B : Int) := by omega
            have i2 : (B : Int) < (p : Int) := by omega
            clear hat hatW a0 hrk d0 d1 d2
            refine region_gate 20 (fun V => V.cell? ⟨w.heap.size, 0, none⟩ = some (.int .u8 (k : Int)) ∧ V.cell? ⟨w.heap.size, 1, none⟩ = some (.int .u8 (l : Int)) ∧ V.cell? ⟨w.heap.size, 2, none⟩ = some (.slice (some ⟨b0, o, none⟩) p c) ∧ V.cell? ⟨b0, o + B * 9, none⟩ = some (.slice A5 n5 c5) ∧ Below (w.heap.size + 1) W V) (by kernel_rfl) ?th1 (fun hHeld => ?tk1)
            case th1 => ((try dsimp only); exact TR.out _ (HBE.out.mono (by omega)).drew)
            refine' takeV 0 (oi := _) (d := _) (v := _) ?ti2 ?td2 (by kernel_rfl) (by kernel_rfl) (by kernel_rfl) (by kernel_rfl) (by decide) (fun _ _ _ _ _ h => h) ?tg2 ?ty2 (by assumption) ?tr2
            case ti2 => (simp only [List.getElem?_toArray, List.getElem?_cons_succ, List.getElem?_cons_zero]; rfl)
            case td2 => exact rfl
            case tg2 => exact rfl
            case ty2 => (intro w hSw; (try dsimp only at hSw); go_split_ands; go_simp; try with_reducible rfl)
            simp only [List.setIfInBounds_toArray, List.set_cons_zero, List.set_cons_succ]
            refine' takeV 1 (oi := _) (d := _) (v := _) ?ti3 ?td3 (by kernel_rfl) (by kernel_rfl) (by kernel_rfl) (by kernel_rfl) (by decide) (fun _ _ _ _ _ h => h) ?tg3 ?ty3 (by assumption) ?tr3
            case ti3 => (simp only [List.getElem?_toArray, List.getElem?_cons_succ, List.getElem?_cons_zero]; rfl)
            case td3 => exact rfl
            case tg3 => exact rfl
            case ty3 => (intro w hSw; (try dsimp only at hSw); go_split_ands; go_simp; try with_reducible rfl)
            simp only [List.setIfInBounds_toArray, List.set_cons_zero, List.set_cons_succ]
            refine' takeV 3 (oi := _) (d := _) (v := _) ?ti4 ?td4 (by kernel_rfl) (by kernel_rfl) (by kernel_rfl) (by kernel_rfl) (by decide) (fun _ _ _ _ _ h => h) ?tg4 ?ty4 (by assumption) ?tr4
            case ti4 => (simp only [List.getElem?_toArray, List.getElem?_cons_succ, List.getElem?_cons_zero]; rfl)
            case td4 => exact rfl
            case tg4 => exact rfl
            case ty4 => (intro w hSw; (try dsimp only at hSw); go_split_ands; go_simp; try with_reducible rfl)
            simp only [List.setIfInBounds_toArray, List.set_cons_zero, List.set_cons_succ]
            refine' takeV 4 (oi := _) (d := _) (v := _) ?ti5 ?td5 (by kernel_rfl) (by kernel_rfl) (by kernel_rfl) (by kernel_rfl) (by decide) (fun _ _ _ _ _ h => h) ?tg5 ?ty5 (by assumption) ?tr5
            case ti5 => (simp only [List.getElem?_toArray, List.getElem?_cons_succ, List.getElem?_cons_zero]; rfl)
            case td5 => exact rfl
            case tg5 => exact rfl
            case ty5 => (intro w hSw; (try dsimp only at hSw); go_split_ands; go_simp; try with_reducible rfl)
            simp only [List.setIfInBounds_toArray, List.set_cons_zero, List.set_cons_succ]
            refine' takeV 5 (oi := _) (d := _) (v := _) ?ti6 ?td6 (by kernel_rfl) (by kernel_rfl) (by kernel_rfl) (by kernel_rfl) (by decide) (fun _ _ _ _ _ h => h) ?tg6 ?ty6 (by assumption) ?tr6
            case ti6 => (simp only [List.getElem?_toArray, List.getElem?_cons_succ, List.getElem?_cons_zero]; rfl)
            case td6 => exact rfl
            case tg6 => exact rfl
            case ty6 => (intro w hSw; (try dsimp only at hSw); go_split_ands; go_simp; try with_reducible rfl)
            simp only [List.setIfInBounds_toArray, List.set_cons_zero, List.set_cons_succ]
            refine' takeV 6 (oi := _) (d := _) (v := _) ?ti7 ?td7 (by kernel_rfl) (by kernel_rfl) (by kernel_rfl) (by kernel_rfl) (by decide) (fun _ _ _ _ _ h => h) ?tg7 ?ty7 (by assumption) ?tr7
            case ti7 => (simp only [List.getElem?_toArray, List.getElem?_cons_succ, List.getElem?_cons_zero]; rfl)
            case td7 => exact rfl
            case tg7 => exact rfl
            case ty7 => (intro w hSw; (try dsimp only at hSw); go_split_ands; go_simp; try with_reducible rfl)
            simp only [List.setIfInBounds_toArray, List.set_cons_zero, List.set_cons_succ]
            refine' takeV 7 (oi := _) (d := _) (v := _) ?ti8 ?td8 (by kernel_rfl) (by kernel_rfl) (by kernel_rfl) (by kernel_rfl) (by decide) (fun _ _ _ _ _ h => h) ?tg8 ?ty8 (by assumption) ?tr8
            case ti8 => (simp only [List.getElem?_toArray, List.getElem?_cons_succ, List.getElem?_cons_zero]; rfl)
            case td8 => exact rfl
            case tg8 => exact rfl
            case ty8 => (intro w hSw; (try dsimp only at hSw); go_split_ands; go_simp; try with_reducible rfl)
            simp only [List.setIfInBounds_toArray, List.set_cons_zero, List.set_cons_succ]
            refine' takeV 9 (oi := _) (d := _) (v := _) ?ti9 ?td9 (by kernel_rfl) (by kernel_rfl) (by kernel_rfl) (by kernel_rfl) (by decide) (fun _ _ _ _ _ h => h) ?tg9 ?ty9 (by assumption) ?tr9
            case ti9 => (simp only [List.getElem?_toArray, List.getElem?_cons_succ, List.getElem?_cons_zero]; rfl)
            case td9 => exact rfl
            case tg9 => exact rfl
            case ty9 => (intro w hSw; (try dsimp only at hSw); go_split_ands; go_simp; try with_reducible rfl)
            simp only [List.setIfInBounds_toArray, List.set_cons_zero, List.set_cons_succ]
            refine' takeV 10 (oi := _) (d := _) (v := _) ?ti10 ?td10 (by kernel_rfl) (by kernel_rfl) (by kernel_rfl) (by kernel_rfl) (by decide) (fun _ _ _ _ _ h => h) ?tg10 ?ty10 (by assumption) ?tr10
            case ti10 => (simp only [List.getElem?_toArray, List.getElem?_cons_succ, List.getElem?_cons_zero]; rfl)
            case td10 => exact rfl
            case tg10 => exact rfl
            case ty10 => (intro w hSw; (try dsimp only at hSw); go_split_ands; go_simp; try with_reducible rfl)
            simp only [List.setIfInBounds_toArray, List.set_cons_zero, List.set_cons_succ]
            refine' takeV 11 (oi := _) (d := _) (v := _) ?ti11 ?td11 (by kernel_rfl) (by kernel_rfl) (by kernel_rfl) (by kernel_rfl) (by decide) (fun _ _ _ _ _ h => h) ?tg11 ?ty11 (by assumption) ?tr11
            case ti11 => (simp only [List.getElem?_toArray, List.getElem?_cons_succ, List.getElem?_cons_zero]; rfl)
            case td11 => exact rfl
            case tg11 => exact rfl
            case ty11 => (intro w hSw; (try dsimp only at hSw); go_split_ands; go_simp; try with_reducible rfl)
            simp only [List.setIfInBounds_toArray, List.set_cons_zero, List.set_cons_succ]
            refine' takeV 12 (oi := _) (d := _) (v := _) ?ti12 ?td12 (by kernel_rfl) (by kernel_rfl) (by kernel_rfl) (by kernel_rfl) (by decide) (fun _ _ _ _ _ h => h) ?tg12 ?ty12 (by assumption) ?tr12
            case ti12 => (simp only [List.getElem?_toArray, List.getElem?_cons_succ, List.getElem?_cons_zero]; rfl)
            case td12 => exact rfl
            case tg12 => exact rfl
            case ty12 => (intro w hSw; (try dsimp only at hSw); go_split_ands; go_simp; try with_reducible rfl)
            simp only [List.setIfInBounds_toArray, List.set_cons_zero, List.set_cons_succ]
            refine' takeV 13 (oi := _) (d := _) (v := _) ?ti13 ?td13 (by kernel_rfl) (by kernel_rfl) (by kernel_rfl) (by kernel_rfl) (by decide) (fun _ _ _ _ _ h => h) ?tg13 ?ty13 (by assumption) ?tr13
            case ti13 => (simp only [List.getElem?_toArray, List.getElem?_cons_succ, List.getElem?_cons_zero]; rfl)
            case td13 => exact rfl
            case tg13 => exact rfl
            case ty13 => (intro w hSw; (try dsimp only at hSw); go_split_ands; go_simp; try with_reducible rfl)
            simp only [List.setIfInBounds_toArray, List.set_cons_zero, List.set_cons_succ]
            refine' takeV 14 (oi := _) (d := _) (v := _) ?ti14 ?td14 (by kernel_rfl) (by kernel_rfl) (by kernel_rfl) (by kernel_rfl) (by decide) (fun _ _ _ _ _ h => h) ?tg14 ?ty14 (by assumption) ?tr14
            case ti14 => (simp only [List.getElem?_toArray, List.getElem?_cons_succ, List.getElem?_cons_zero]; rfl)
            case td14 => exact rfl
            case tg14 => exact rfl
            case ty14 => (intro w hSw; (try dsimp only at hSw); go_split_ands; go_simp; try with_reducible rfl)
            simp only [List.setIfInBounds_toArray, List.set_cons_zero, List.set_cons_succ]
            obtain ⟨V0, hV0⟩ : ∃ V0, V0 = wr.drew := ⟨_, rfl⟩
            have B0 : Hid (Below W.heap.size W V0) := by rw [hV0]; exact HBE.out.drew
            rw [← hV0] at hHeld ⊢
            clear hV0
            have s0 := B0.out.size
            have HPA := part_any k l (some ⟨b0, o, none⟩) p c es 0 B V0 (HR.out.below B0.out) hk hl (by omega) (by omega) hN HS.out
            rw [part_take HRR.out B (by rw [← HLn.out]; omega), Nat.sub_zero, show ((0 : Nat) : Int) = 0 from rfl] at HPA
            clear hHeld
            refine stepG 2 (by kernel_rfl) (by simp only [List.getElem?_toArray, List.getElem?_cons_succ, List.getElem?_cons_zero]; rfl) (fun K hK => ?_)
            go_simp
            refine (HPA).mono ?_
            rintro e v1 ⟨A1, c1, rfl, ho1, hb⟩
            refine hK.out _ _ ?ts15 (fun hHeld => ?_)
            case ts15 => ((try dsimp only); exact TR.out _ ((B0.out.trans (hb.mono s0)).mono (by omega)))
            clear hK K
            have B1 : Hid (Below W.heap.size W v1) := B0.out.trans (hb.mono s0)
            have s1' := B1.out.size
            have O1 := Lib.hid ho1
            have sv1 := hb.size
            have HPB := part_any k l (some ⟨b0, o, none⟩) p c es B p v1 (HR.out.below B1.out) hk hl (by omega) (by omega) hN HS.out
            have hpd : mE k (segE es B p) = cutB k es B := by rw [HLn.out]; exact part_drop k es B
            rw [hpd] at HPB
            clear hHeld HPA hb ho1 hpd
            refine stepG 8 (by kernel_rfl) (by simp only [List.getElem?_toArray, List.getElem?_cons_succ, List.getElem?_cons_zero]; rfl) (fun K hK => ?_)
            go_simp
            refine (HPB).mono ?_
            rintro e v2 ⟨A2, c2, rfl, ho2, hb⟩
            refine hK.out _ _ ?ts16 (fun hHeld => ?_)
            case ts16 => ((try dsimp only); exact TR.out _ ((B1.out.trans (hb.mono s1')).mono (by omega)))
            clear hK K
            have B2 : Hid (Below W.heap.size W v2) := B1.out.trans (hb.mono s1')
            have s2' := B2.out.size
            have sv2 := hb.size
            have O2 := Lib.hid ho2
            have O1b := Lib.hid (O1.out.below hb)
            have HDIS : Hid (∀ a a', A1 = some a → A2 = some a' → a.block ≠ a'.block) := fun a a' h1 h2 => by have q1 := O1.out.lt a h1; have q2 := ho2.ge a' h2; omega
            have HCP := copy_any A5 n5 c5 (es.getD B ent0).key v2 (HRK.out.below B2.out) hln5
            clear hHeld HPB hb ho2 O1
            refine stepG 15 (by kernel_rfl) (by simp only [List.getElem?_toArray, List.getElem?_cons_succ, List.getElem?_cons_zero]; rfl) (fun K hK => ?_)
            go_simp
            refine (HCP).mono ?_
            rintro e v3 ⟨A7, c7, rfl, ho3, hb⟩
            refine hK.out _ _ ?ts17 (fun hHeld => ?_)
            case ts17 => ((try dsimp only); exact TR.out _ ((B2.out.trans (hb.mono s2')).mono (by omega)))
            clear hK K
            have B3 : Hid (Below (w.heap.size + 1) W v3) := (B2.out.trans (hb.mono s2')).mono (by omega)
            have P1 : Hid (OwnN v3 W.heap.size A1 B c1 (es.take B)) := (O1b.out.below hb).mono (by omega)
            have P2 : Hid (OwnN v3 W.heap.size A2 (p - B) c2 (cutB k es B)) := (O2.out.below hb).mono (by omega)
            have PC : Hid (Own v3 W.heap.size A7 n5 c7 (es.getD B ent0).key) := Own.mono ho3 (by omega)
            have ka := KZ1.out.below (B2.out.trans (hb.mono s2')) KZ1.out.lt
            have kb := KZ2.out.below (B2.out.trans (hb.mono s2')) KZ2.out.lt
            have s3' := B3.out.size
            clear hHeld HCP hb ho3 O1b O2
            refine stepG 16 (by kernel_rfl) (by simp only [List.getElem?_toArray, List.getElem?_cons_succ, List.getElem?_cons_zero]; rfl) (fun K hK => ?_)
            refine step_store_blk rfl 24 (.tmp 2) (.tmp 71) rfl rfl (cs := [.int .u8 (k : Int), .int .u8 (l : Int), .slice A1 B c1]) rfl ka rfl infoNd (nd_one _ _ _ _ _) ?_
            intro wa hka hga
            refine hK.out _ _ ?ts18 (fun hHeld => ?_)
            case ts18 => ((try dsimp only); exact TR.out _ (B3.out.grown hga (by omega) (by intro q hq; simp at hq; omega)))
            clear hK K
            have kb2 := kb.keep_grown hga (by simp)
            have Ba := B3.out.grown hga (by omega) (by intro q hq; simp at hq; omega)
            have sga := hga.size
            clear hHeld
            refine stepG 17 (by kernel_rfl) (by simp only [List.getElem?_toArray, List.getElem?_cons_succ, List.getElem?_cons_zero]; rfl) (fun K hK => ?_)
            refine step_store_blk rfl 24 (.tmp 3) (.tmp 77) rfl rfl (cs := [.int .u8 (k : Int), .int .u8 (l : Int), .slice A2 (p - B) c2]) rfl kb2 rfl infoNd (nd_one _ _ _ _ _) ?_
            intro wb hkb2 hgb
            refine hK.out _ _ ?ts19 (fun hHeld => ?_)
            case ts19 => ((try dsimp only); exact TR.out _ (Ba.grown hgb (by omega) (by intro q hq; simp at hq; omega)))
            clear hK K
            refine' takeV 18 (oi := _) (d := _) (v := _) ?ti20 ?td20 (by kernel_rfl) (by kernel_rfl) (by kernel_rfl) (by kernel_rfl) (by decide) (fun _ _ _ _ _ h => h) ?tg20 ?ty20 (by assumption) ?tr20
            case ti20 => (simp only [List.getElem?_toArray, List.getElem?_cons_succ, List.getElem?_cons_zero]; rfl)
            case td20 => exact rfl
            case tg20 => exact rfl
            case ty20 => (intro w hSw; (try dsimp only at hSw); go_split_ands; go_simp; try with_reducible rfl)
            simp only [List.setIfInBounds_toArray, List.set_cons_zero, List.set_cons_succ]
            refine' takeV 19 (oi := _) (d := _) (v := _) ?ti21 ?td21 (by kernel_rfl) (by kernel_rfl) (by kernel_rfl) (by kernel_rfl) (by decide) (fun _ _ _ _ _ h => h) ?tg21 ?ty21 (by assumption) ?tr21
            case ti21 => (simp only [List.getElem?_toArray, List.getElem?_cons_succ, List.getElem?_cons_zero]; rfl)
            case td21 => exact rfl
            case tg21 => exact rfl
            case ty21 => (intro w hSw; (try dsimp only at hSw); go_split_ands; go_simp; try with_reducible rfl)
            simp only [List.setIfInBounds_toArray, List.set_cons_zero, List.set_cons_succ]
            refine doneG (by kernel_rfl) ?_ _
            clear hHeld
            go_wp2_with fail
            have hka2 := hka.keep_grown hgb (by simp)
            have e0 := hka2.cell 0
            have e1 := hka2.cell 1
            have e2 := hka2.cell 2
            have f0 := hkb2.cell 0
            have f1 := hkb2.cell 1
            have f2 := hkb2.cell 2
            have hfin := Ba.grown hgb (by omega) (by intro q hq; simp at hq; omega)
            have hA : splA k l es = es.take B := by rw [splA, if_pos HE.out, HBB.out]
            have hB : splB k l es = cutB k es B := by rw [splB, if_pos HE.out, HBB.out]
            have hC : splK k l es = (es.getD B ent0).key := by rw [splK, if_pos HE.out, HBB.out]
            have hA2 : (splA k l es).length = B := by rw [hA, List.length_take]; have := HLn.out; omega
            have hB2 : (splB k l es).length = p - B := by rw [hB, cutB_length, ← HLn.out]
            have hk0 : ∀ x, splN k l es x = x := fun x => by unfold splN; rw [if_pos HE.out]
            refine bodyPost_ret (v := .tuple #[NdV k l A1 B c1, NdV k l A2 (p - B) c2, .slice A7 n5 c7, .int .i64 0]) ?_ rfl ⟨A1, c1, A2, c2, A7, n5, c7, by rw [hk0, hk0, hA2, hB2, HE.out], ?_, ?_, ?_, HWB.out.trans (hfin.mono (by omega)), HDIS.out⟩
            · simp [results, Try.results16, go_sem, e0, e1, e2, f0, f1, f2]
            · rw [hA2, hA]; exact ((P1.out.keptE ka (by decide) (by decide) hga).keptE kb2 (by decide) (by decide) hgb).mono (by omega)
            · rw [hB2, hB]; exact ((P2.out.keptE ka (by decide) (by decide) hga).keptE kb2 (by decide) (by decide) hgb).mono (by omega)
            · rw [hC]; exact ((PC.out.keptE ka (by decide) hga).keptE kb2 (by decide) hgb).mono (by omega)
  · have HE : Hid (splE k l es = rE k l es) := by show _ = _; rw [splE, if_neg hr]
    have hb : (rE k l es != 0) = true := by rw [bne_iff_ne]; exact hr
    obtain ⟨E, HEE⟩ : ∃ E, Hid (rE k l es = E) := ⟨_, rfl⟩
    rw [HEE.out] at hb HM HE hr
    have HRN := Lib.hid hr
    clear hr hNN
    go_enter Try.func16, Try.ntmps16
    go_wp2_with fail
    rw [← HW.out]
    refine HM.out.mono ?_
    rintro e w1 ⟨rfl, hb1⟩
    have HB1 := Lib.hid hb1
    clear hb1 HM d0 d1 d2
    have kz1 := Lib.hid (KZ1.out.below HB1.out KZ1.out.lt)
    have kz2 := Lib.hid (KZ2.out.below HB1.out KZ2.out.lt)
    have hi0 : (Try.prog.info? 24).map (·.size) = some [Value.int .u8 0, .int .u8 0, .slice none 0 0].length := infoNd
    have ho0 : ∀ v ∈ [Value.int .u8 0, .int .u8 0, .slice none 0 0], v.oneCell' = true := nd_one 0 0 none 0 0
    go_wp2_with (first
      | (with_reducible refine wpList_store_blk rfl 24 (.tmp 2) (.tmp 17) rfl rfl (cs := [Value.int .u8 0, .int .u8 0, .slice none 0 0]) rfl kz1.out z3len hi0 ho0 ?_; intro wa hka hga; have kz3 := Lib.hid (kz2.out.keep_grown hga (by simp)))
      | (with_reducible refine wpList_store_blk rfl 24 (.tmp 3) (.tmp 18) rfl rfl (cs := [Value.int .u8 0, .int .u8 0, .slice none 0 0]) rfl kz3.out z3len hi0 ho0 ?_; intro wb hkb2 hgb))
    have hka2 := hka.keep_grown hgb (by simp)
    have e0 := hka2.cell 0
    have e1 := hka2.cell 1
    have e2 := hka2.cell 2
    have f0 := hkb2.cell 0
    have f1 := hkb2.cell 1
    have f2 := hkb2.cell 2
    have t5 := (HB1.out).size
    have hfin := (((HB1.out).mono (by omega : w.heap.size + 1 ≤ W.heap.size)).grown hga (by omega) (by intro q hq; simp at hq; omega)).grown hgb (by have := hga.size; omega) (by intro q hq; simp at hq; omega)
    refine bodyPost_ret (v := .tuple #[NdV 0 0 none 0 0, NdV 0 0 none 0 0, .slice none 0 0, .int .i64 E]) ?_ rfl (SplP.none_ (by rw [HE.out]; exact HRN.out) (HWB.out.trans (hfin.mono (by omega))) HE.out)
    simp [results, Try.results16, go_sem, e0, e1, e2, f0, f1, f2]
end Go.Proofs.Ytgihcjmcefdkiaa
