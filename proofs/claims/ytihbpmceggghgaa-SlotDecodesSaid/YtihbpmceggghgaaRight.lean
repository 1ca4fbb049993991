/- Contracts: whether a node is right, as slot has it. -/
import Derived.Test.YtihbpmceggghgaaCmp
import Derived.Test.YtihbpmceggghgaaRegU
import Derived.Deep.DeepCutAuto
set_option linter.unusedVariables false
set_option linter.unusedSimpArgs false
namespace Go.Proofs.Ytihbpmceggghgaa
open Go.RowKit

theorem rE_shape {k l : Nat} {es : List Ent} (h : shp k l = false) : rE k l es = 2 := by rw [rE, h]; rfl
theorem rE_none {k l : Nat} {es : List Ent} (h : k = 2) (h0 : es.length = 0) : rE k l es = 2 := by
  rw [rE, h, h0]
  cases shp 2 l <;> rfl
theorem rE_go {k l : Nat} {es : List Ent} (h : shp k l = true) (h2 : ¬ (k = 2 ∧ es.length = 0)) : rE k l es = rTo k es es.length := by
  rw [rE, h]
  have : (k == 2 && es.length == 0) = false := by
    cases hb : (k == 2 && es.length == 0) with
    | false => rfl
    | true => rw [Bool.and_eq_true, beq_iff_eq, beq_iff_eq] at hb; exact absurd hb h2
  rw [this]
  rfl
theorem rAt_may {k : Nat} {es : List Ent} {i : Nat} (h : emay k i (es.getD i ent0) = false) : rAt k es i = 2 := by rw [rAt, h]; rfl
theorem rAt_zero {k : Nat} {es : List Ent} (h : emay k 0 (es.getD 0 ent0) = true) : rAt k es 0 = 0 := by rw [rAt, h]; simp
theorem rAt_succ {k : Nat} {es : List Ent} {q : Nat} (h : emay k (q + 1) (es.getD (q + 1) ent0) = true) (b : Bool) (hb : less (es.getD q ent0).key (es.getD (q + 1) ent0).key = b) : rAt k es (q + 1) = if b then 0 else 120 := by
  rw [rAt, h, show q + 1 - 1 = q from rfl, hb]
  cases b <;> simp
/-- What the loops of both Right's know at place i. -/
theorem RdL.here {w : World} {A : Option Addr} {n c : Nat} {es : List Ent} (h : RdL w A n c es) (i : Nat) (hi : i < n) (k : Nat) :
    ∃ b o A1 n1 c1 A2 n2 c2 L r s K, A = some ⟨b, o, none⟩ ∧ EAt w b (o + i * 9) A1 n1 c1 A2 n2 c2 L r s ∧ Rd w A1 n1 c1 K ∧ (es.getD i ent0).key = K ∧ emayL k i n1 n2 L r s = emay k i (es.getD i ent0) ∧ n1 ≤ 9223372036854775807 ∧ n2 ≤ 9223372036854775807 := by
  obtain ⟨b, o, A1, n1, c1, A2, n2, c2, e, h1, h2, h3⟩ := h.ent i hi _ rfl
  have m1 := h2.cap
  have m2 := h2.max
  have m3 := h3.cap
  have m4 := h3.max
  unfold maxLen at m2 m4
  exact ⟨b, o, A1, n1, c1, A2, n2, c2, _, _, _, _, e, h1, h2, rfl, by rw [h2.len, h3.len]; rfl, by omega, by omega⟩

set_option maxRecDepth 100000 in
set_option maxHeartbeats 3200000 in
theorem right_any (k l : Nat) (A : Option Addr) (n c : Nat) (es : List Ent) (w : World) (h : RdL w A n c es) (hk : k < 256) (hl : l < 256) :
    Calls Try.prog 12 #[NdV k l A n c] w fun e w' => e = .returned (.int .i64 (rE k l es)) ∧ Below w.heap.size w w' := by
  have hcap := h.cap
  have hmax := h.max
  unfold maxLen at hmax
  have HLn := Lib.hid h.len
  obtain ⟨W, hW⟩ : ∃ W, W = w.alloc (.cells #[.int .u8 (k : Int), .int .u8 (l : Int), .slice A n c] 24) := ⟨_, rfl⟩
  have HWB : Hid (Below w.heap.size w W) := by rw [hW]; exact below_new1 _ _
  have KN : Hid (Blk W w.heap.size 24 #[.int .u8 (k : Int), .int .u8 (l : Int), .slice A n c]) := by rw [hW]; exact Blk.new _ _ _
  have HR := Lib.hid (h.below HWB.out)
  have HW := Lib.hid hW
  obtain ⟨q, hq⟩ : ∃ q, shp k l = q := ⟨_, rfl⟩
  have HS := Lib.hid (shp_any k l W hk hl)
  rw [hq] at HS
  have HQ := Lib.hid hq
  clear h hW hq
  have d0 := KN.out.cell 0
  have d1 := KN.out.cell 1
  have d2 := KN.out.cell 2
  cases q with
  | false =>
    have HE := Lib.hid (rE_shape (es := es) HQ.out)
    rw [HE.out]
    go_enter Try.func12, Try.ntmps12
    go_wp2_with fail
    rw [← HW.out]
    refine HS.out.mono ?_
    rintro e w' ⟨rfl, rfl⟩
    go_wp2_with fail
    go_ret
    exact ⟨rfl, HWB.out⟩
  | true =>
    by_cases h2 : k = 2 ∧ n = 0
    · have HE := Lib.hid (rE_none (k := k) (l := l) (es := es) h2.1 (by rw [← HLn.out]; exact h2.2))
      have hb : ((k : Int) == 2) = true := by rw [beq_iff_eq]; omega
      have hb0 : ((n : Int) == 0) = true := by rw [beq_iff_eq]; omega
      rw [HE.out]
      clear h2
      go_enter Try.func12, Try.ntmps12
      go_wp2_with fail
      rw [← HW.out]
      refine HS.out.mono ?_
      rintro e w' ⟨rfl, rfl⟩
      go_wp2_with fail
      go_ret
      exact ⟨rfl, HWB.out⟩
    · have HE := Lib.hid (rE_go (k := k) (l := l) (es := es) HQ.out (by rw [← HLn.out]; exact h2))
      rw [HE.out]
      have hcase : ((k : Int) == 2) = false ∨ (((k : Int) == 2) = true ∧ ((n : Int) == 0) = false) := by
        by_cases e : k = 2
        · exact .inr ⟨by rw [beq_iff_eq]; omega, by rw [beq_eq_false_iff_ne]; intro e0; exact h2 ⟨e, by omega⟩⟩
        · exact .inl (by rw [beq_eq_false_iff_ne]; omega)
      have HCA := Lib.hid hcase
      clear h2 hcase
      go_enter Try.func12, Try.ntmps12
      go_wp2_with fail
      rw [← HW.out]
      refine HS.out.mono ?_
      rintro e w' ⟨rfl, rfl⟩
      rcases HCA.out with hb | ⟨hb, hb0⟩
      · go_wp2_with fail
        have hWs : w.heap.size < W.heap.size := KN.out.lt
        clear hb d0 d1 d2
        go_loopw [25] (fun z wr => ∃ i : Nat, i ≤ n ∧ z = .int .i64 (i : Int) ∧ rTo k es i = 0 ∧ Below W.heap.size W wr) (fun z _ => n - (intOf z).toNat)
        case atStart => exact ⟨0, Nat.zero_le _, rfl, rfl, Below.refl _ _⟩
        case round =>
          obtain ⟨i, hi, rfl, hto, hbel⟩ := hrel
          have HTO := Lib.hid hto
          have HBE := Lib.hid hbel
          have hbs := hbel.size
          have KNr := Lib.hid (KN.out.below hbel KN.out.lt)
          have HRr := Lib.hid (HR.out.below hbel)
          clear hto hbel
          by_cases hlt : i < n
          · obtain ⟨b, o, A1, n1, c1, A2, n2, c2, L, r, s, K, rfl, hat, hrd, hkey, hem, hn1, hn2⟩ := HRr.out.here i hlt k
            have a0 := hat.c0
            have a1 := hat.c1
            have a2 := hat.c2
            have a3 := hat.c3
            have a4 := hat.c4
            have a5 := hat.c5
            have a6 := hat.c6
            have a7 := hat.c7
            have a8 := hat.c8
            have d0 := KNr.out.cell 0
            have i1 : (0 : Int) ≤ (i : Int) := by omega
            have i2 : (i : Int) < (n : Int) := by omega
            have HKEY := Lib.hid hkey
            have HRD := Lib.hid hrd
            have HEM := Lib.hid hem
            clear hat hrd hkey hem
            go_upto_region 6 with fail
            obtain ⟨V, hV⟩ : ∃ V, V = wr.alloc (.cells #[.slice A1 n1 c1, .slice A2 n2 c2, .int .i64 L, .int .u32 (r.1 : Int), .int .u64 (r.2.1 : Int), .int .u16 (r.2.2 : Int), .int .u32 (s.1 : Int), .int .u64 (s.2.1 : Int), .int .u16 (s.2.2 : Int)] 49) := ⟨_, rfl⟩
            have hbV : Below wr.heap.size wr V := by rw [hV]; exact below_new1 _ _
            have KX : Hid (Blk V wr.heap.size 49 #[.slice A1 n1 c1, .slice A2 n2 c2, .int .i64 L, .int .u32 (r.1 : Int), .int .u64 (r.2.1 : Int), .int .u16 (r.2.2 : Int), .int .u32 (s.1 : Int), .int .u64 (s.2.1 : Int), .int .u16 (s.2.2 : Int)]) := by rw [hV]; exact Blk.new _ _ _
            rw [← hV]
            have HBV := Lib.hid hbV
            have KNv := Lib.hid (KNr.out.below hbV KNr.out.lt)
            obtain ⟨em, hem2⟩ : ∃ em, emay k i (es.getD i ent0) = em := ⟨_, rfl⟩
            have hM := emay_any k i A1 n1 c1 A2 n2 c2 L r s V hk (by omega) hn1 hn2
            rw [HEM.out, hem2] at hM
            have M := Lib.hid hM
            have HEM2 := Lib.hid hem2
            have x0 := KX.out.cell 0
            have x1 := KX.out.cell 1
            have x2 := KX.out.cell 2
            have x3 := KX.out.cell 3
            have x4 := KX.out.cell 4
            have x5 := KX.out.cell 5
            have x6 := KX.out.cell 6
            have x7 := KX.out.cell 7
            have x8 := KX.out.cell 8
            clear hV hbV a0 a1 a2 a3 a4 a5 a6 a7 a8 d0 hem2 hM
            have d0 := KNv.out.cell 0
            go_wp2_with fail
            refine M.out.mono ?_
            rintro e w4 ⟨rfl, hb4⟩
            have HB4 := Lib.hid hb4
            have KNw := Lib.hid (KNv.out.below hb4 KNv.out.lt)
            have KXw := Lib.hid (KX.out.below hb4 KX.out.lt)
            have HBT : Hid (Below W.heap.size W w4) := (HBE.out.trans (HBV.out.mono hbs)).trans (hb4.mono (by have := HBV.out.size; omega))
            have hbt := HBT.out.size
            have HRw := Lib.hid (HR.out.below HBT.out)
            have HRDw := Lib.hid ((HRD.out.below HBV.out).below hb4)
            clear hb4 d0 x0 x1 x2 x3 x4 x5 x6 x7 x8 M
            cases em with
            | false =>
              have HF := Lib.hid (rAt_may HEM2.out)
              have HG := Lib.hid (rTo_at HTO.out (by rw [HF.out]; decide) (by rw [← HLn.out]; exact hlt))
              go_wp2_with fail
              go_ret
              exact ⟨by rw [HG.out, HF.out]; rfl, HWB.out.trans (HBT.out.mono (Nat.le_of_lt hWs))⟩
            | true =>
              have d2 := KNw.out.cell 2
              have x0 := KXw.out.cell 0
              by_cases hi0 : i = 0
              · have HF : Hid (rAt k es i = 0) := by
                  have := HEM2.out
                  rw [hi0] at this ⊢
                  exact rAt_zero this
                have HN : Hid (rTo k es (i + 1) = 0) := by show _ = _; rw [rTo, if_pos HTO.out]; exact HF.out
                have hd : decide ((i : Int) > 0) = false := decide_eq_false (by omega)
                have hd1 : decide ((0 : Int) < (i : Int)) = false := decide_eq_false (by omega)
                have hd2 : decide (0 < i) = false := decide_eq_false (by omega)
                clear hi0
                go_wp2_with fail
                refine region_gate 15 (fun w' => Below w4.heap.size w4 w') (by kernel_rfl) ?th1 (fun hHeld => ?tk1)
                case th1 => ((try dsimp only); exact (Below.refl _ _).drew)
                refine' takeV 0 (oi := _) (d := _) (v := _) ?ti2 ?td2 (by kernel_rfl) (by kernel_rfl) (by kernel_rfl) (by kernel_rfl) (by decide) (fun _ _ _ _ _ h => h) ?tg2 ?ty2 (by assumption) ?tr2
                case ti2 => (simp only [List.getElem?_toArray, List.getElem?_cons_succ, List.getElem?_cons_zero]; rfl)
                case td2 => exact rfl
                case tg2 => exact rfl
                case ty2 => (intro w hSw; (try dsimp only at hSw); go_split_ands; go_simp; try with_reducible rfl)
                simp only [List.setIfInBounds_toArray, List.set_cons_zero, List.set_cons_succ]
                refine' takeV 1 (oi := _) (d := _) (v := _) ?ti3 ?td3 (by kernel_rfl) (by kernel_rfl) (by kernel_rfl) (by kernel_rfl) (by decide) (fun _ _ _ _ _ h => h) ?tg3 ?ty3 (by assumption) ?tr3
                case ti3 => (simp only [List.getElem?_toArray, List.getElem?_cons_succ, List.getElem?_cons_zero]; rfl)
                case td3 => exact rfl
                case tg3 => exact rfl
                case ty3 => (intro w hSw; (try dsimp only at hSw); go_split_ands; go_simp; try with_reducible rfl)
                simp only [List.setIfInBounds_toArray, List.set_cons_zero, List.set_cons_succ]
                refine' takeV 2 (oi := _) (d := _) (v := _) ?ti4 ?td4 (by kernel_rfl) (by kernel_rfl) (by kernel_rfl) (by kernel_rfl) (by decide) (fun _ _ _ _ _ h => h) ?tg4 ?ty4 (by assumption) ?tr4
                case ti4 => (simp only [List.getElem?_toArray, List.getElem?_cons_succ, List.getElem?_cons_zero]; rfl)
                case td4 => exact rfl
                case tg4 => exact rfl
                case ty4 => (intro w hSw; (try dsimp only at hSw); go_split_ands; go_simp; try with_reducible rfl)
                simp only [List.setIfInBounds_toArray, List.set_cons_zero, List.set_cons_succ]
                refine' takeU 3 (oi := _) (d := _) ?ti5 ?td5 (by kernel_rfl) (by kernel_rfl) (by kernel_rfl) (by decide) (fun _ _ _ _ _ h => h) ?tg5 ?tf5 ?tr5
                case ti5 => (simp only [List.getElem?_toArray, List.getElem?_cons_succ, List.getElem?_cons_zero]; rfl)
                case td5 => exact rfl
                case tg5 => exact rfl
                case tf5 => first | (intro _; assumption) | (intro e; exact absurd e (by decide +kernel))
                simp only [List.setIfInBounds_toArray, List.set_cons_zero, List.set_cons_succ]
                refine' takeU 4 (oi := _) (d := _) ?ti6 ?td6 (by kernel_rfl) (by kernel_rfl) (by kernel_rfl) (by decide) (fun _ _ _ _ _ h => h) ?tg6 ?tf6 ?tr6
                case ti6 => (simp only [List.getElem?_toArray, List.getElem?_cons_succ, List.getElem?_cons_zero]; rfl)
                case td6 => exact rfl
                case tg6 => exact rfl
                case tf6 => first | (intro _; assumption) | (intro e; exact absurd e (by decide +kernel))
                simp only [List.setIfInBounds_toArray, List.set_cons_zero, List.set_cons_succ]
                refine' takeU 5 (oi := _) (d := _) ?ti7 ?td7 (by kernel_rfl) (by kernel_rfl) (by kernel_rfl) (by decide) (fun _ _ _ _ _ h => h) ?tg7 ?tf7 ?tr7
                case ti7 => (simp only [List.getElem?_toArray, List.getElem?_cons_succ, List.getElem?_cons_zero]; rfl)
                case td7 => exact rfl
                case tg7 => exact rfl
                case tf7 => first | (intro _; assumption) | (intro e; exact absurd e (by decide +kernel))
                simp only [List.setIfInBounds_toArray, List.set_cons_zero, List.set_cons_succ]
                refine' takeU 6 (oi := _) (d := _) ?ti8 ?td8 (by kernel_rfl) (by kernel_rfl) (by kernel_rfl) (by decide) (fun _ _ _ _ _ h => h) ?tg8 ?tf8 ?tr8
                case ti8 => (simp only [List.getElem?_toArray, List.getElem?_cons_succ, List.getElem?_cons_zero]; rfl)
                case td8 => exact rfl
                case tg8 => exact rfl
                case tf8 => first | (intro _; assumption) | (intro e; exact absurd e (by decide +kernel))
                simp only [List.setIfInBounds_toArray, List.set_cons_zero, List.set_cons_succ]
                refine' takeU 7 (oi := _) (d := _) ?ti9 ?td9 (by kernel_rfl) (by kernel_rfl) (by kernel_rfl) (by decide) (fun _ _ _ _ _ h => h) ?tg9 ?tf9 ?tr9
                case ti9 => (simp only [List.getElem?_toArray, List.getElem?_cons_succ, List.getElem?_cons_zero]; rfl)
                case td9 => exact rfl
                case tg9 => exact rfl
                case tf9 => first | (intro _; assumption) | (intro e; exact absurd e (by decide +kernel))
                simp only [List.setIfInBounds_toArray, List.set_cons_zero, List.set_cons_succ]
                refine' takeU 8 (oi := _) (d := _) ?ti10 ?td10 (by kernel_rfl) (by kernel_rfl) (by kernel_rfl) (by decide) (fun _ _ _ _ _ h => h) ?tg10 ?tf10 ?tr10
                case ti10 => (simp only [List.getElem?_toArray, List.getElem?_cons_succ, List.getElem?_cons_zero]; rfl)
                case td10 => exact rfl
                case tg10 => exact rfl
                case tf10 => first | (intro _; assumption) | (intro e; exact absurd e (by decide +kernel))
                simp only [List.setIfInBounds_toArray, List.set_cons_zero, List.set_cons_succ]
                refine' takeU 9 (oi := _) (d := _) ?ti11 ?td11 (by kernel_rfl) (by kernel_rfl) (by kernel_rfl) (by decide) (fun _ _ _ _ _ h => h) ?tg11 ?tf11 ?tr11
                case ti11 => (simp only [List.getElem?_toArray, List.getElem?_cons_succ, List.getElem?_cons_zero]; rfl)
                case td11 => exact rfl
                case tg11 => exact rfl
                case tf11 => first | (intro _; assumption) | (intro e; exact absurd e (by decide +kernel))
                simp only [List.setIfInBounds_toArray, List.set_cons_zero, List.set_cons_succ]
                refine' takeU 10 (oi := _) (d := _) ?ti12 ?td12 (by kernel_rfl) (by kernel_rfl) (by kernel_rfl) (by decide) (fun _ _ _ _ _ h => h) ?tg12 ?tf12 ?tr12
                case ti12 => (simp only [List.getElem?_toArray, List.getElem?_cons_succ, List.getElem?_cons_zero]; rfl)
                case td12 => exact rfl
                case tg12 => exact rfl
                case tf12 => first | (intro _; assumption) | (intro e; exact absurd e (by decide +kernel))
                simp only [List.setIfInBounds_toArray, List.set_cons_zero, List.set_cons_succ]
                refine' takeU 11 (oi := _) (d := _) ?ti13 ?td13 (by kernel_rfl) (by kernel_rfl) (by kernel_rfl) (by decide) (fun _ _ _ _ _ h => h) ?tg13 ?tf13 ?tr13
                case ti13 => (simp only [List.getElem?_toArray, List.getElem?_cons_succ, List.getElem?_cons_zero]; rfl)
                case td13 => exact rfl
                case tg13 => exact rfl
                case tf13 => first | (intro _; assumption) | (intro e; exact absurd e (by decide +kernel))
                simp only [List.setIfInBounds_toArray, List.set_cons_zero, List.set_cons_succ]
                refine' takeU 12 (oi := _) (d := _) ?ti14 ?td14 (by kernel_rfl) (by kernel_rfl) (by kernel_rfl) (by decide) (fun _ _ _ _ _ h => h) ?tg14 ?tf14 ?tr14
                case ti14 => (simp only [List.getElem?_toArray, List.getElem?_cons_succ, List.getElem?_cons_zero]; rfl)
                case td14 => exact rfl
                case tg14 => exact rfl
                case tf14 => first | (intro _; assumption) | (intro e; exact absurd e (by decide +kernel))
                simp only [List.setIfInBounds_toArray, List.set_cons_zero, List.set_cons_succ]
                refine' takeU 13 (oi := _) (d := _) ?ti15 ?td15 (by kernel_rfl) (by kernel_rfl) (by kernel_rfl) (by decide) (fun _ _ _ _ _ h => h) ?tg15 ?tf15 ?tr15
                case ti15 => (simp only [List.getElem?_toArray, List.getElem?_cons_succ, List.getElem?_cons_zero]; rfl)
                case td15 => exact rfl
                case tg15 => exact rfl
                case tf15 => first | (intro _; assumption) | (intro e; exact absurd e (by decide +kernel))
                simp only [List.setIfInBounds_toArray, List.set_cons_zero, List.set_cons_succ]
                refine' takeV 14 (oi := _) (d := _) (v := _) ?ti16 ?td16 (by kernel_rfl) (by kernel_rfl) (by kernel_rfl) (by kernel_rfl) (by decide) (fun _ _ _ _ _ h => h) ?tg16 ?ty16 (by assumption) ?tr16
                case ti16 => (simp only [List.getElem?_toArray, List.getElem?_cons_succ, List.getElem?_cons_zero]; rfl)
                case td16 => exact rfl
                case tg16 => exact rfl
                case ty16 => (intro w hSw; (try dsimp only at hSw); go_split_ands; go_simp; try with_reducible rfl)
                simp only [List.setIfInBounds_toArray, List.set_cons_zero, List.set_cons_succ]
                refine doneG (by kernel_rfl) ?_ _
                go_wp2_with fail
                go_roundw
                case rel => exact ⟨i + 1, by omega, by go_num, HN.out, HBT.out.drew⟩
                case measure => first | (simp [intOf]; done) | (simp [intOf]; omega)
              · obtain ⟨q, rfl⟩ : ∃ q, i = q + 1 := ⟨i - 1, by omega⟩
                obtain ⟨b', o', A3, n3, c3, A4, n4, c4, L', r', s', K', hAA, hat', hrd', hkey', _, _, _⟩ := HRw.out.here q (by omega) k
                injection hAA with hAA
                injection hAA with e1 e2 _
                subst e1
                subst e2
                have p0 := hat'.c0
                have hlb := hat'.lt
                have hlx := KXw.out.lt
                have HRP := Lib.hid hrd'
                have HKEY' := Lib.hid hkey'
                obtain ⟨bl, hbl⟩ : ∃ bl, less K' K = bl := ⟨_, rfl⟩
                have HBL := Lib.hid hbl
                have hrat := rAt_succ HEM2.out bl (by rw [HKEY'.out, HKEY.out]; exact hbl)
                have HRAT := Lib.hid hrat
                have hcb := cmp_less K' K
                rw [hbl] at hcb
                have hdd : decide (((q + 1 : Nat) : Int) > 0) = true := decide_eq_true (by omega)
                have hw1 : IntKind.i64.wrap ((q : Int)) = (q : Int) := IntWalk.i64_in _ (by omega)
                have hw2 : IntKind.i64.wrap ((q : Int) + 1 - 1) = (q : Int) := by rw [show (q : Int) + 1 - 1 = (q : Int) by omega]; exact hw1
                have j1 : (0 : Int) ≤ (q : Int) := by omega
                have j2 : (q : Int) < (n : Int) := by omega
                clear hat' hrd' hkey' hbl hrat hi0 i1
                cases bl with
                | false =>
                  have HG := Lib.hid (rTo_at HTO.out (by rw [HRAT.out]; decide) (by rw [← HLn.out]; exact hlt))
                  have hcb2 : decide (Lib.compareBytes K' K ≥ 0) = true := hcb
                  clear hcb
                  go_wp2_with fail
                  refine region_gate 15 (fun w' => w'.cell? ⟨w.heap.size, 2, none⟩ = some (.slice (some ⟨b, o, none⟩) n c) ∧ w'.cell? ⟨b, o + q * 9, none⟩ = some (.slice A3 n3 c3) ∧ w'.cell? ⟨wr.heap.size, 0, none⟩ = some (.slice A1 n1 c1) ∧ Rd w' A3 n3 c3 K' ∧ Rd w' A1 n1 c1 K) (by kernel_rfl) ?th17 (fun hHeld => ?tk17)
                  case th17 => ((try dsimp only); exact ⟨d2, p0, x0, HRP.out.below (below_drewN (Below.refl _ _) 1), HRDw.out.below (below_drewN (Below.refl _ _) 1)⟩)
                  refine' takeV 0 (oi := _) (d := _) (v := _) ?ti18 ?td18 (by kernel_rfl) (by kernel_rfl) (by kernel_rfl) (by kernel_rfl) (by decide) (fun _ _ _ _ _ h => h) ?tg18 ?ty18 (by assumption) ?tr18
                  case ti18 => (simp only [List.getElem?_toArray, List.getElem?_cons_succ, List.getElem?_cons_zero]; rfl)
                  case td18 => exact rfl
                  case tg18 => exact rfl
                  case ty18 => (intro w hSw; (try dsimp only at hSw); go_split_ands; go_simp; try with_reducible rfl)
                  simp only [List.setIfInBounds_toArray, List.set_cons_zero, List.set_cons_succ]
                  refine' takeV 1 (oi := _) (d := _) (v := _) ?ti19 ?td19 (by kernel_rfl) (by kernel_rfl) (by kernel_rfl) (by kernel_rfl) (by decide) (fun _ _ _ _ _ h => h) ?tg19 ?ty19 (by assumption) ?tr19
                  case ti19 => (simp only [List.getElem?_toArray, List.getElem?_cons_succ, List.getElem?_cons_zero]; rfl)
                  case td19 => exact rfl
                  case tg19 => exact rfl
                  case ty19 => (intro w hSw; (try dsimp only at hSw); go_split_ands; go_simp; try with_reducible rfl)
                  simp only [List.setIfInBounds_toArray, List.set_cons_zero, List.set_cons_succ]
                  refine' takeV 2 (oi := _) (d := _) (v := _) ?ti20 ?td20 (by kernel_rfl) (by kernel_rfl) (by kernel_rfl) (by kernel_rfl) (by decide) (fun _ _ _ _ _ h => h) ?tg20 ?ty20 (by assumption) ?tr20
                  case ti20 => (simp only [List.getElem?_toArray, List.getElem?_cons_succ, List.getElem?_cons_zero]; rfl)
                  case td20 => exact rfl
                  case tg20 => exact rfl
                  case ty20 => (intro w hSw; (try dsimp only at hSw); go_split_ands; go_simp; try with_reducible rfl)
                  simp only [List.setIfInBounds_toArray, List.set_cons_zero, List.set_cons_succ]
                  refine' takeVg 3 (oi := _) (d := _) (v := _) ?ti21 ?td21 (by kernel_rfl) (by kernel_rfl) (by kernel_rfl) (by kernel_rfl) (by decide) (fun _ _ _ _ _ h => h) ?tg21 ?ty21 (by assumption) ?tr21
                  case ti21 => (simp only [List.getElem?_toArray, List.getElem?_cons_succ, List.getElem?_cons_zero]; rfl)
                  case td21 => exact rfl
                  case tg21 => exact rfl
                  case ty21 => (intro w hSw; (try dsimp only at hSw); go_split_ands; go_simp; try with_reducible rfl)
                  simp only [List.setIfInBounds_toArray, List.set_cons_zero, List.set_cons_succ]
                  refine' takeVg 4 (oi := _) (d := _) (v := _) ?ti22 ?td22 (by kernel_rfl) (by kernel_rfl) (by kernel_rfl) (by kernel_rfl) (by decide) (fun _ _ _ _ _ h => h) ?tg22 ?ty22 (by assumption) ?tr22
                  case ti22 => (simp only [List.getElem?_toArray, List.getElem?_cons_succ, List.getElem?_cons_zero]; rfl)
                  case td22 => exact rfl
                  case tg22 => exact rfl
                  case ty22 => (intro w hSw; (try dsimp only at hSw); go_split_ands; go_simp; try with_reducible rfl)
                  simp only [List.setIfInBounds_toArray, List.set_cons_zero, List.set_cons_succ]
                  refine' takeVg 5 (oi := _) (d := _) (v := _) ?ti23 ?td23 (by kernel_rfl) (by kernel_rfl) (by kernel_rfl) (by kernel_rfl) (by decide) (fun _ _ _ _ _ h => h) ?tg23 ?ty23 (by assumption) ?tr23
                  case ti23 => (simp only [List.getElem?_toArray, List.getElem?_cons_succ, List.getElem?_cons_zero]; rfl)
                  case td23 => exact rfl
                  case tg23 => exact rfl
                  case ty23 => (intro w hSw; (try dsimp only at hSw); go_split_ands; go_simp; try with_reducible rfl)
                  simp only [List.setIfInBounds_toArray, List.set_cons_zero, List.set_cons_succ]
                  refine' takeVg 6 (oi := _) (d := _) (v := _) ?ti24 ?td24 (by kernel_rfl) (by kernel_rfl) (by kernel_rfl) (by kernel_rfl) (by decide) (fun _ _ _ _ _ h => h) ?tg24 ?ty24 (by assumption) ?tr24
                  case ti24 => (simp only [List.getElem?_toArray, List.getElem?_cons_succ, List.getElem?_cons_zero]; rfl)
                  case td24 => exact rfl
                  case tg24 => exact rfl
                  case ty24 => (intro w hSw; (try dsimp only at hSw); go_split_ands; go_simp; try with_reducible rfl)
                  simp only [List.setIfInBounds_toArray, List.set_cons_zero, List.set_cons_succ]
                  refine' takeVg 7 (oi := _) (d := _) (v := _) ?ti25 ?td25 (by kernel_rfl) (by kernel_rfl) (by kernel_rfl) (by kernel_rfl) (by decide) (fun _ _ _ _ _ h => h) ?tg25 ?ty25 (by assumption) ?tr25
                  case ti25 => (simp only [List.getElem?_toArray, List.getElem?_cons_succ, List.getElem?_cons_zero]; rfl)
                  case td25 => exact rfl
                  case tg25 => exact rfl
                  case ty25 => (intro w hSw; (try dsimp only at hSw); go_split_ands; go_simp; try with_reducible rfl)
                  simp only [List.setIfInBounds_toArray, List.set_cons_zero, List.set_cons_succ]
                  refine' takeVg 8 (oi := _) (d := _) (v := _) ?ti26 ?td26 (by kernel_rfl) (by kernel_rfl) (by kernel_rfl) (by kernel_rfl) (by decide) (fun _ _ _ _ _ h => h) ?tg26 ?ty26 (by assumption) ?tr26
                  case ti26 => (simp only [List.getElem?_toArray, List.getElem?_cons_succ, List.getElem?_cons_zero]; rfl)
                  case td26 => exact rfl
                  case tg26 => exact rfl
                  case ty26 => (intro w hSw; (try dsimp only at hSw); go_split_ands; go_simp; try with_reducible rfl)
                  simp only [List.setIfInBounds_toArray, List.set_cons_zero, List.set_cons_succ]
                  refine' takeVg 9 (oi := _) (d := _) (v := _) ?ti27 ?td27 (by kernel_rfl) (by kernel_rfl) (by kernel_rfl) (by kernel_rfl) (by decide) (fun _ _ _ _ _ h => h) ?tg27 ?ty27 (by assumption) ?tr27
                  case ti27 => (simp only [List.getElem?_toArray, List.getElem?_cons_succ, List.getElem?_cons_zero]; rfl)
                  case td27 => exact rfl
                  case tg27 => exact rfl
                  case ty27 => (intro w hSw; (try dsimp only at hSw); go_split_ands; go_simp; try with_reducible rfl)
                  simp only [List.setIfInBounds_toArray, List.set_cons_zero, List.set_cons_succ]
                  refine' takeVg 10 (oi := _) (d := _) (v := _) ?ti28 ?td28 (by kernel_rfl) (by kernel_rfl) (by kernel_rfl) (by kernel_rfl) (by decide) (fun _ _ _ _ _ h => h) ?tg28 ?ty28 (by assumption) ?tr28
                  case ti28 => (simp only [List.getElem?_toArray, List.getElem?_cons_succ, List.getElem?_cons_zero]; rfl)
                  case td28 => exact rfl
                  case tg28 => exact rfl
                  case ty28 => (intro w hSw; (try dsimp only at hSw); go_split_ands; go_simp; try with_reducible rfl)
                  simp only [List.setIfInBounds_toArray, List.set_cons_zero, List.set_cons_succ]
                  refine' takeVg 11 (oi := _) (d := _) (v := _) ?ti29 ?td29 (by kernel_rfl) (by kernel_rfl) (by kernel_rfl) (by kernel_rfl) (by decide) (fun _ _ _ _ _ h => h) ?tg29 ?ty29 (by assumption) ?tr29
                  case ti29 => (simp only [List.getElem?_toArray, List.getElem?_cons_succ, List.getElem?_cons_zero]; rfl)
                  case td29 => exact rfl
                  case tg29 => exact rfl
                  case ty29 => (intro w hSw; (try dsimp only at hSw); go_split_ands; go_simp; try with_reducible rfl)
                  simp only [List.setIfInBounds_toArray, List.set_cons_zero, List.set_cons_succ]
                  refine' takeCg 12 (oi := _) (d := _) (v := _) ?ti30 ?td30 (by kernel_rfl) (by kernel_rfl) (by kernel_rfl) (by kernel_rfl) (by decide) (fun _ _ _ _ _ h => h) ?tg30 ?ty30 (by assumption) ?tr30
                  case ti30 => (simp only [List.getElem?_toArray, List.getElem?_cons_succ, List.getElem?_cons_zero]; rfl)
                  case td30 => exact rfl
                  case tg30 => exact rfl
                  case ty30 => (intro w hSw; have hc := compare_any _ _ _ K' _ _ _ K w hSw.2.2.2.1 hSw.2.2.2.2; exact OnlyV.call rfl Try.func29 (by kernel_rfl) (by kernel_rfl) (Calls.mono hc (by rintro e w2 ⟨rfl, rfl⟩; constructor <;> rfl)) (by simp only [List.map_toArray, List.map_cons, List.map_nil]; rfl))
                  simp only [List.setIfInBounds_toArray, List.set_cons_zero, List.set_cons_succ]
                  refine' takeVg 13 (oi := _) (d := _) (v := _) ?ti31 ?td31 (by kernel_rfl) (by kernel_rfl) (by kernel_rfl) (by kernel_rfl) (by decide) (fun _ _ _ _ _ h => h) ?tg31 ?ty31 (by assumption) ?tr31
                  case ti31 => (simp only [List.getElem?_toArray, List.getElem?_cons_succ, List.getElem?_cons_zero]; rfl)
                  case td31 => exact rfl
                  case tg31 => exact rfl
                  case ty31 => (intro w hSw; (try dsimp only at hSw); go_split_ands; go_simp; try with_reducible rfl)
                  simp only [List.setIfInBounds_toArray, List.set_cons_zero, List.set_cons_succ]
                  refine' takeV 14 (oi := _) (d := _) (v := _) ?ti32 ?td32 (by kernel_rfl) (by kernel_rfl) (by kernel_rfl) (by kernel_rfl) (by decide) (fun _ _ _ _ _ h => h) ?tg32 ?ty32 (by assumption) ?tr32
                  case ti32 => (simp only [List.getElem?_toArray, List.getElem?_cons_succ, List.getElem?_cons_zero]; rfl)
                  case td32 => exact rfl
                  case tg32 => exact rfl
                  case ty32 => (intro w hSw; (try dsimp only at hSw); go_split_ands; go_simp; try with_reducible rfl)
                  simp only [List.setIfInBounds_toArray, List.set_cons_zero, List.set_cons_succ]
                  refine doneG (by kernel_rfl) ?_ _
                  go_wp2_with fail
                  go_ret
                  exact ⟨by rw [HG.out, HRAT.out]; rfl, HWB.out.trans ((HBT.out.drew).mono (Nat.le_of_lt hWs))⟩
                | true =>
                  have HN : Hid (rTo k es (q + 1 + 1) = 0) := by show _ = _; rw [rTo, if_pos HTO.out]; exact HRAT.out
                  have hcb2 : decide (Lib.compareBytes K' K ≥ 0) = false := hcb
                  clear hcb
                  go_wp2_with fail
                  refine region_gate 15 (fun w' => w'.cell? ⟨w.heap.size, 2, none⟩ = some (.slice (some ⟨b, o, none⟩) n c) ∧ w'.cell? ⟨b, o + q * 9, none⟩ = some (.slice A3 n3 c3) ∧ w'.cell? ⟨wr.heap.size, 0, none⟩ = some (.slice A1 n1 c1) ∧ Rd w' A3 n3 c3 K' ∧ Rd w' A1 n1 c1 K) (by kernel_rfl) ?th33 (fun hHeld => ?tk33)
                  case th33 => ((try dsimp only); exact ⟨d2, p0, x0, HRP.out.below (below_drewN (Below.refl _ _) 1), HRDw.out.below (below_drewN (Below.refl _ _) 1)⟩)
                  refine' takeV 0 (oi := _) (d := _) (v := _) ?ti34 ?td34 (by kernel_rfl) (by kernel_rfl) (by kernel_rfl) (by kernel_rfl) (by decide) (fun _ _ _ _ _ h => h) ?tg34 ?ty34 (by assumption) ?tr34
                  case ti34 => (simp only [List.getElem?_toArray, List.getElem?_cons_succ, List.getElem?_cons_zero]; rfl)
                  case td34 => exact rfl
                  case tg34 => exact rfl
                  case ty34 => (intro w hSw; (try dsimp only at hSw); go_split_ands; go_simp; try with_reducible rfl)
                  simp only [List.setIfInBounds_toArray, List.set_cons_zero, List.set_cons_succ]
                  refine' takeV 1 (oi := _) (d := _) (v := _) ?ti35 ?td35 (by kernel_rfl) (by kernel_rfl) (by kernel_rfl) (by kernel_rfl) (by decide) (fun _ _ _ _ _ h => h) ?tg35 ?ty35 (by assumption) ?tr35
                  case ti35 => (simp only [List.getElem?_toArray, List.getElem?_cons_succ, List.getElem?_cons_zero]; rfl)
                  case td35 => exact rfl
                  case tg35 => exact rfl
                  case ty35 => (intro w hSw; (try dsimp only at hSw); go_split_ands; go_simp; try with_reducible rfl)
                  simp only [List.setIfInBounds_toArray, List.set_cons_zero, List.set_cons_succ]
                  refine' takeV 2 (oi := _) (d := _) (v := _) ?ti36 ?td36 (by kernel_rfl) (by kernel_rfl) (by kernel_rfl) (by kernel_rfl) (by decide) (fun _ _ _ _ _ h => h) ?tg36 ?ty36 (by assumption) ?tr36
                  case ti36 => (simp only [List.getElem?_toArray, List.getElem?_cons_succ, List.getElem?_cons_zero]; rfl)
                  case td36 => exact rfl
                  case tg36 => exact rfl
                  case ty36 => (intro w hSw; (try dsimp only at hSw); go_split_ands; go_simp; try with_reducible rfl)
                  simp only [List.setIfInBounds_toArray, List.set_cons_zero, List.set_cons_succ]
                  refine' takeVg 3 (oi := _) (d := _) (v := _) ?ti37 ?td37 (by kernel_rfl) (by kernel_rfl) (by kernel_rfl) (by kernel_rfl) (by decide) (fun _ _ _ _ _ h => h) ?tg37 ?ty37 (by assumption) ?tr37
                  case ti37 => (simp only [List.getElem?_toArray, List.getElem?_cons_succ, List.getElem?_cons_zero]; rfl)
                  case td37 => exact rfl
                  case tg37 => exact rfl
                  case ty37 => (intro w hSw; (try dsimp only at hSw); go_split_ands; go_simp; try with_reducible rfl)
                  simp only [List.setIfInBounds_toArray, List.set_cons_zero, List.set_cons_succ]
                  refine' takeVg 4 (oi := _) (d := _) (v := _) ?ti38 ?td38 (by kernel_rfl) (by kernel_rfl) (by kernel_rfl) (by kernel_rfl) (by decide) (fun _ _ _ _ _ h => h) ?tg38 ?ty38 (by assumption) ?tr38
                  case ti38 => (simp only [List.getElem?_toArray, List.getElem?_cons_succ, List.getElem?_cons_zero]; rfl)
                  case td38 => exact rfl
                  case tg38 => exact rfl
                  case ty38 => (intro w hSw; (try dsimp only at hSw); go_split_ands; go_simp; try with_reducible rfl)
                  simp only [List.setIfInBounds_toArray, List.set_cons_zero, List.set_cons_succ]
                  refine' takeVg 5 (oi := _) (d := _) (v := _) ?ti39 ?td39 (by kernel_rfl) (by kernel_rfl) (by kernel_rfl) (by kernel_rfl) (by decide) (fun _ _ _ _ _ h => h) ?tg39 ?ty39 (by assumption) ?tr39
                  case ti39 => (simp only [List.getElem?_toArray, List.getElem?_cons_succ, List.getElem?_cons_zero]; rfl)
                  case td39 => exact rfl
                  case tg39 => exact rfl
                  case ty39 => (intro w hSw; (try dsimp only at hSw); go_split_ands; go_simp; try with_reducible rfl)
                  simp only [List.setIfInBounds_toArray, List.set_cons_zero, List.set_cons_succ]
                  refine' takeVg 6 (oi := _) (d := _) (v := _) ?ti40 ?td40 (by kernel_rfl) (by kernel_rfl) (by kernel_rfl) (by kernel_rfl) (by decide) (fun _ _ _ _ _ h => h) ?tg40 ?ty40 (by assumption) ?tr40
                  case ti40 => (simp only [List.getElem?_toArray, List.getElem?_cons_succ, List.getElem?_cons_zero]; rfl)
                  case td40 => exact rfl
                  case tg40 => exact rfl
                  case ty40 => (intro w hSw; (try dsimp only at hSw); go_split_ands; go_simp; try with_reducible rfl)
                  simp only [List.setIfInBounds_toArray, List.set_cons_zero, List.set_cons_succ]
                  refine' takeVg 7 (oi := _) (d := _) (v := _) ?ti41 ?td41 (by kernel_rfl) (by kernel_rfl) (by kernel_rfl) (by kernel_rfl) (by decide) (fun _ _ _ _ _ h => h) ?tg41 ?ty41 (by assumption) ?tr41
                  case ti41 => (simp only [List.getElem?_toArray, List.getElem?_cons_succ, List.getElem?_cons_zero]; rfl)
                  case td41 => exact rfl
                  case tg41 => exact rfl
                  case ty41 => (intro w hSw; (try dsimp only at hSw); go_split_ands; go_simp; try with_reducible rfl)
                  simp only [List.setIfInBounds_toArray, List.set_cons_zero, List.set_cons_succ]
                  refine' takeVg 8 (oi := _) (d := _) (v := _) ?ti42 ?td42 (by kernel_rfl) (by kernel_rfl) (by kernel_rfl) (by kernel_rfl) (by decide) (fun _ _ _ _ _ h => h) ?tg42 ?ty42 (by assumption) ?tr42
                  case ti42 => (simp only [List.getElem?_toArray, List.getElem?_cons_succ, List.getElem?_cons_zero]; rfl)
                  case td42 => exact rfl
                  case tg42 => exact rfl
                  case ty42 => (intro w hSw; (try dsimp only at hSw); go_split_ands; go_simp; try with_reducible rfl)
                  simp only [List.setIfInBounds_toArray, List.set_cons_zero, List.set_cons_succ]
                  refine' takeVg 9 (oi := _) (d := _) (v := _) ?ti43 ?td43 (by kernel_rfl) (by kernel_rfl) (by kernel_rfl) (by kernel_rfl) (by decide) (fun _ _ _ _ _ h => h) ?tg43 ?ty43 (by assumption) ?tr43
                  case ti43 => (simp only [List.getElem?_toArray, List.getElem?_cons_succ, List.getElem?_cons_zero]; rfl)
                  case td43 => exact rfl
                  case tg43 => exact rfl
                  case ty43 => (intro w hSw; (try dsimp only at hSw); go_split_ands; go_simp; try with_reducible rfl)
                  simp only [List.setIfInBounds_toArray, List.set_cons_zero, List.set_cons_succ]
                  refine' takeVg 10 (oi := _) (d := _) (v := _) ?ti44 ?td44 (by kernel_rfl) (by kernel_rfl) (by kernel_rfl) (by kernel_rfl) (by decide) (fun _ _ _ _ _ h => h) ?tg44 ?ty44 (by assumption) ?tr44
                  case ti44 => (simp only [List.getElem?_toArray, List.getElem?_cons_succ, List.getElem?_cons_zero]; rfl)
                  case td44 => exact rfl
                  case tg44 => exact rfl
                  case ty44 => (intro w hSw; (try dsimp only at hSw); go_split_ands; go_simp; try with_reducible rfl)
                  simp only [List.setIfInBounds_toArray, List.set_cons_zero, List.set_cons_succ]
                  refine' takeVg 11 (oi := _) (d := _) (v := _) ?ti45 ?td45 (by kernel_rfl) (by kernel_rfl) (by kernel_rfl) (by kernel_rfl) (by decide) (fun _ _ _ _ _ h => h) ?tg45 ?ty45 (by assumption) ?tr45
                  case ti45 => (simp only [List.getElem?_toArray, List.getElem?_cons_succ, List.getElem?_cons_zero]; rfl)
                  case td45 => exact rfl
                  case tg45 => exact rfl
                  case ty45 => (intro w hSw; (try dsimp only at hSw); go_split_ands; go_simp; try with_reducible rfl)
                  simp only [List.setIfInBounds_toArray, List.set_cons_zero, List.set_cons_succ]
                  refine' takeCg 12 (oi := _) (d := _) (v := _) ?ti46 ?td46 (by kernel_rfl) (by kernel_rfl) (by kernel_rfl) (by kernel_rfl) (by decide) (fun _ _ _ _ _ h => h) ?tg46 ?ty46 (by assumption) ?tr46
                  case ti46 => (simp only [List.getElem?_toArray, List.getElem?_cons_succ, List.getElem?_cons_zero]; rfl)
                  case td46 => exact rfl
                  case tg46 => exact rfl
                  case ty46 => (intro w hSw; have hc := compare_any _ _ _ K' _ _ _ K w hSw.2.2.2.1 hSw.2.2.2.2; exact OnlyV.call rfl Try.func29 (by kernel_rfl) (by kernel_rfl) (Calls.mono hc (by rintro e w2 ⟨rfl, rfl⟩; constructor <;> rfl)) (by simp only [List.map_toArray, List.map_cons, List.map_nil]; rfl))
                  simp only [List.setIfInBounds_toArray, List.set_cons_zero, List.set_cons_succ]
                  refine' takeVg 13 (oi := _) (d := _) (v := _) ?ti47 ?td47 (by kernel_rfl) (by kernel_rfl) (by kernel_rfl) (by kernel_rfl) (by decide) (fun _ _ _ _ _ h => h) ?tg47 ?ty47 (by assumption) ?tr47
                  case ti47 => (simp only [List.getElem?_toArray, List.getElem?_cons_succ, List.getElem?_cons_zero]; rfl)
                  case td47 => exact rfl
                  case tg47 => exact rfl
                  case ty47 => (intro w hSw; (try dsimp only at hSw); go_split_ands; go_simp; try with_reducible rfl)
                  simp only [List.setIfInBounds_toArray, List.set_cons_zero, List.set_cons_succ]
                  refine' takeV 14 (oi := _) (d := _) (v := _) ?ti48 ?td48 (by kernel_rfl) (by kernel_rfl) (by kernel_rfl) (by kernel_rfl) (by decide) (fun _ _ _ _ _ h => h) ?tg48 ?ty48 (by assumption) ?tr48
                  case ti48 => (simp only [List.getElem?_toArray, List.getElem?_cons_succ, List.getElem?_cons_zero]; rfl)
                  case td48 => exact rfl
                  case tg48 => exact rfl
                  case ty48 => (intro w hSw; (try dsimp only at hSw); go_split_ands; go_simp; try with_reducible rfl)
                  simp only [List.setIfInBounds_toArray, List.set_cons_zero, List.set_cons_succ]
                  refine doneG (by kernel_rfl) ?_ _
                  go_wp2_with fail
                  go_roundw
                  case rel => exact ⟨q + 1 + 1, by omega, by go_num, HN.out, HBT.out.drew⟩
                  case measure => first | (simp [intOf]; done) | (simp [intOf]; omega)
          · obtain rfl : i = n := by omega
            have HT := HTO.out
            rw [HLn.out] at HT
            have HF := Lib.hid HT
            clear HT hi hlt
            go_wp2_with fail
            go_ret
            exact ⟨by rw [HF.out]; rfl, HWB.out.trans (HBE.out.mono (Nat.le_of_lt hWs))⟩
      · go_wp2_with fail
        have hWs : w.heap.size < W.heap.size := KN.out.lt
        clear hb d0 d1 d2
        go_loopw [25] (fun z wr => ∃ i : Nat, i ≤ n ∧ z = .int .i64 (i : Int) ∧ rTo k es i = 0 ∧ Below W.heap.size W wr) (fun z _ => n - (intOf z).toNat)
        case atStart => exact ⟨0, Nat.zero_le _, rfl, rfl, Below.refl _ _⟩
        case round =>
          obtain ⟨i, hi, rfl, hto, hbel⟩ := hrel
          have HTO := Lib.hid hto
          have HBE := Lib.hid hbel
          have hbs := hbel.size
          have KNr := Lib.hid (KN.out.below hbel KN.out.lt)
          have HRr := Lib.hid (HR.out.below hbel)
          clear hto hbel
          by_cases hlt : i < n
          · obtain ⟨b, o, A1, n1, c1, A2, n2, c2, L, r, s, K, rfl, hat, hrd, hkey, hem, hn1, hn2⟩ := HRr.out.here i hlt k
            have a0 := hat.c0
            have a1 := hat.c1
            have a2 := hat.c2
            have a3 := hat.c3
            have a4 := hat.c4
            have a5 := hat.c5
            have a6 := hat.c6
            have a7 := hat.c7
            have a8 := hat.c8
            have d0 := KNr.out.cell 0
            have i1 : (0 : Int) ≤ (i : Int) := by omega
            have i2 : (i : Int) < (n : Int) := by omega
            have HKEY := Lib.hid hkey
            have HRD := Lib.hid hrd
            have HEM := Lib.hid hem
            clear hat hrd hkey hem
            go_upto_region 6 with fail
            obtain ⟨V, hV⟩ : ∃ V, V = wr.alloc (.cells #[.slice A1 n1 c1, .slice A2 n2 c2, .int .i64 L, .int .u32 (r.1 : Int), .int .u64 (r.2.1 : Int), .int .u16 (r.2.2 : Int), .int .u32 (s.1 : Int), .int .u64 (s.2.1 : Int), .int .u16 (s.2.2 : Int)] 49) := ⟨_, rfl⟩
            have hbV : Below wr.heap.size wr V := by rw [hV]; exact below_new1 _ _
            have KX : Hid (Blk V wr.heap.size 49 #[.slice A1 n1 c1, .slice A2 n2 c2, .int .i64 L, .int .u32 (r.1 : Int), .int .u64 (r.2.1 : Int), .int .u16 (r.2.2 : Int), .int .u32 (s.1 : Int), .int .u64 (s.2.1 : Int), .int .u16 (s.2.2 : Int)]) := by rw [hV]; exact Blk.new _ _ _
            rw [← hV]
            have HBV := Lib.hid hbV
            have KNv := Lib.hid (KNr.out.below hbV KNr.out.lt)
            obtain ⟨em, hem2⟩ : ∃ em, emay k i (es.getD i ent0) = em := ⟨_, rfl⟩
            have hM := emay_any k i A1 n1 c1 A2 n2 c2 L r s V hk (by omega) hn1 hn2
            rw [HEM.out, hem2] at hM
            have M := Lib.hid hM
            have HEM2 := Lib.hid hem2
            have x0 := KX.out.cell 0
            have x1 := KX.out.cell 1
            have x2 := KX.out.cell 2
            have x3 := KX.out.cell 3
            have x4 := KX.out.cell 4
            have x5 := KX.out.cell 5
            have x6 := KX.out.cell 6
            have x7 := KX.out.cell 7
            have x8 := KX.out.cell 8
            clear hV hbV a0 a1 a2 a3 a4 a5 a6 a7 a8 d0 hem2 hM
            have d0 := KNv.out.cell 0
            go_wp2_with fail
            refine M.out.mono ?_
            rintro e w4 ⟨rfl, hb4⟩
            have HB4 := Lib.hid hb4
            have KNw := Lib.hid (KNv.out.below hb4 KNv.out.lt)
            have KXw := Lib.hid (KX.out.below hb4 KX.out.lt)
            have HBT : Hid (Below W.heap.size W w4) := (HBE.out.trans (HBV.out.mono hbs)).trans (hb4.mono (by have := HBV.out.size; omega))
            have hbt := HBT.out.size
            have HRw := Lib.hid (HR.out.below HBT.out)
            have HRDw := Lib.hid ((HRD.out.below HBV.out).below hb4)
            clear hb4 d0 x0 x1 x2 x3 x4 x5 x6 x7 x8 M
            cases em with
            | false =>
              have HF := Lib.hid (rAt_may HEM2.out)
              have HG := Lib.hid (rTo_at HTO.out (by rw [HF.out]; decide) (by rw [← HLn.out]; exact hlt))
              go_wp2_with fail
              go_ret
              exact ⟨by rw [HG.out, HF.out]; rfl, HWB.out.trans (HBT.out.mono (Nat.le_of_lt hWs))⟩
            | true =>
              have d2 := KNw.out.cell 2
              have x0 := KXw.out.cell 0
              by_cases hi0 : i = 0
              · have HF : Hid (rAt k es i = 0) := by
                  have := HEM2.out
                  rw [hi0] at this ⊢
                  exact rAt_zero this
                have HN : Hid (rTo k es (i + 1) = 0) := by show _ = _; rw [rTo, if_pos HTO.out]; exact HF.out
                have hd : decide ((i : Int) > 0) = false := decide_eq_false (by omega)
                have hd1 : decide ((0 : Int) < (i : Int)) = false := decide_eq_false (by omega)
                have hd2 : decide (0 < i) = false := decide_eq_false (by omega)
                clear hi0
                go_wp2_with fail
                refine region_gate 15 (fun w' => Below w4.heap.size w4 w') (by kernel_rfl) ?th49 (fun hHeld => ?tk49)
                case th49 => ((try dsimp only); exact (Below.refl _ _).drew)
                refine' takeV 0 (oi := _) (d := _) (v := _) ?ti50 ?td50 (by kernel_rfl) (by kernel_rfl) (by kernel_rfl) (by kernel_rfl) (by decide) (fun _ _ _ _ _ h => h) ?tg50 ?ty50 (by assumption) ?tr50
                case ti50 => (simp only [List.getElem?_toArray, List.getElem?_cons_succ, List.getElem?_cons_zero]; rfl)
                case td50 => exact rfl
                case tg50 => exact rfl
                case ty50 => (intro w hSw; (try dsimp only at hSw); go_split_ands; go_simp; try with_reducible rfl)
                simp only [List.setIfInBounds_toArray, List.set_cons_zero, List.set_cons_succ]
                refine' takeV 1 (oi := _) (d := _) (v := _) ?ti51 ?td51 (by kernel_rfl) (by kernel_rfl) (by kernel_rfl) (by kernel_rfl) (by decide) (fun _ _ _ _ _ h => h) ?tg51 ?ty51 (by assumption) ?tr51
                case ti51 => (simp only [List.getElem?_toArray, List.getElem?_cons_succ, List.getElem?_cons_zero]; rfl)
                case td51 => exact rfl
                case tg51 => exact rfl
                case ty51 => (intro w hSw; (try dsimp only at hSw); go_split_ands; go_simp; try with_reducible rfl)
                simp only [List.setIfInBounds_toArray, List.set_cons_zero, List.set_cons_succ]
                refine' takeV 2 (oi := _) (d := _) (v := _) ?ti52 ?td52 (by kernel_rfl) (by kernel_rfl) (by kernel_rfl) (by kernel_rfl) (by decide) (fun _ _ _ _ _ h => h) ?tg52 ?ty52 (by assumption) ?tr52
                case ti52 => (simp only [List.getElem?_toArray, List.getElem?_cons_succ, List.getElem?_cons_zero]; rfl)
                case td52 => exact rfl
                case tg52 => exact rfl
                case ty52 => (intro w hSw; (try dsimp only at hSw); go_split_ands; go_simp; try with_reducible rfl)
                simp only [List.setIfInBounds_toArray, List.set_cons_zero, List.set_cons_succ]
                refine' takeU 3 (oi := _) (d := _) ?ti53 ?td53 (by kernel_rfl) (by kernel_rfl) (by kernel_rfl) (by decide) (fun _ _ _ _ _ h => h) ?tg53 ?tf53 ?tr53
                case ti53 => (simp only [List.getElem?_toArray, List.getElem?_cons_succ, List.getElem?_cons_zero]; rfl)
                case td53 => exact rfl
                case tg53 => exact rfl
                case tf53 => first | (intro _; assumption) | (intro e; exact absurd e (by decide +kernel))
                simp only [List.setIfInBounds_toArray, List.set_cons_zero, List.set_cons_succ]
                refine' takeU 4 (oi := _) (d := _) ?ti54 ?td54 (by kernel_rfl) (by kernel_rfl) (by kernel_rfl) (by decide) (fun _ _ _ _ _ h => h) ?tg54 ?tf54 ?tr54
                case ti54 => (simp only [List.getElem?_toArray, List.getElem?_cons_succ, List.getElem?_cons_zero]; rfl)
                case td54 => exact rfl
                case tg54 => exact rfl
                case tf54 => first | (intro _; assumption) | (intro e; exact absurd e (by decide +kernel))
                simp only [List.setIfInBounds_toArray, List.set_cons_zero, List.set_cons_succ]
                refine' takeU 5 (oi := _) (d := _) ?ti55 ?td55 (by kernel_rfl) (by kernel_rfl) (by kernel_rfl) (by decide) (fun _ _ _ _ _ h => h) ?tg55 ?tf55 ?tr55
                case ti55 => (simp only [List.getElem?_toArray, List.getElem?_cons_succ, List.getElem?_cons_zero]; rfl)
                case td55 => exact rfl
                case tg55 => exact rfl
                case tf55 => first | (intro _; assumption) | (intro e; exact absurd e (by decide +kernel))
                simp only [List.setIfInBounds_toArray, List.set_cons_zero, List.set_cons_succ]
                refine' takeU 6 (oi := _) (d := _) ?ti56 ?td56 (by kernel_rfl) (by kernel_rfl) (by kernel_rfl) (by decide) (fun _ _ _ _ _ h => h) ?tg56 ?tf56 ?tr56
                case ti56 => (simp only [List.getElem?_toArray, List.getElem?_cons_succ, List.getElem?_cons_zero]; rfl)
                case td56 => exact rfl
                case tg56 => exact rfl
                case tf56 => first | (intro _; assumption) | (intro e; exact absurd e (by decide +kernel))
                simp only [List.setIfInBounds_toArray, List.set_cons_zero, List.set_cons_succ]
                refine' takeU 7 (oi := _) (d := _) ?ti57 ?td57 (by kernel_rfl) (by kernel_rfl) (by kernel_rfl) (by decide) (fun _ _ _ _ _ h => h) ?tg57 ?tf57 ?tr57
                case ti57 => (simp only [List.getElem?_toArray, List.getElem?_cons_succ, List.getElem?_cons_zero]; rfl)
                case td57 => exact rfl
                case tg57 => exact rfl
                case tf57 => first | (intro _; assumption) | (intro e; exact absurd e (by decide +kernel))
                simp only [List.setIfInBounds_toArray, List.set_cons_zero, List.set_cons_succ]
                refine' takeU 8 (oi := _) (d := _) ?ti58 ?td58 (by kernel_rfl) (by kernel_rfl) (by kernel_rfl) (by decide) (fun _ _ _ _ _ h => h) ?tg58 ?tf58 ?tr58
                case ti58 => (simp only [List.getElem?_toArray, List.getElem?_cons_succ, List.getElem?_cons_zero]; rfl)
                case td58 => exact rfl
                case tg58 => exact rfl
                case tf58 => first | (intro _; assumption) | (intro e; exact absurd e (by decide +kernel))
                simp only [List.setIfInBounds_toArray, List.set_cons_zero, List.set_cons_succ]
                refine' takeU 9 (oi := _) (d := _) ?ti59 ?td59 (by kernel_rfl) (by kernel_rfl) (by kernel_rfl) (by decide) (fun _ _ _ _ _ h => h) ?tg59 ?tf59 ?tr59
                case ti59 => (simp only [List.getElem?_toArray, List.getElem?_cons_succ, List.getElem?_cons_zero]; rfl)
                case td59 => exact rfl
                case tg59 => exact rfl
                case tf59 => first | (intro _; assumption) | (intro e; exact absurd e (by decide +kernel))
                simp only [List.setIfInBounds_toArray, List.set_cons_zero, List.set_cons_succ]
                refine' takeU 10 (oi := _) (d := _) ?ti60 ?td60 (by kernel_rfl) (by kernel_rfl) (by kernel_rfl) (by decide) (fun _ _ _ _ _ h => h) ?tg60 ?tf60 ?tr60
                case ti60 => (simp only [List.getElem?_toArray, List.getElem?_cons_succ, List.getElem?_cons_zero]; rfl)
                case td60 => exact rfl
                case tg60 => exact rfl
                case tf60 => first | (intro _; assumption) | (intro e; exact absurd e (by decide +kernel))
                simp only [List.setIfInBounds_toArray, List.set_cons_zero, List.set_cons_succ]
                refine' takeU 11 (oi := _) (d := _) ?ti61 ?td61 (by kernel_rfl) (by kernel_rfl) (by kernel_rfl) (by decide) (fun _ _ _ _ _ h => h) ?tg61 ?tf61 ?tr61
                case ti61 => (simp only [List.getElem?_toArray, List.getElem?_cons_succ, List.getElem?_cons_zero]; rfl)
                case td61 => exact rfl
                case tg61 => exact rfl
                case tf61 => first | (intro _; assumption) | (intro e; exact absurd e (by decide +kernel))
                simp only [List.setIfInBounds_toArray, List.set_cons_zero, List.set_cons_succ]
                refine' takeU 12 (oi := _) (d := _) ?ti62 ?td62 (by kernel_rfl) (by kernel_rfl) (by kernel_rfl) (by decide) (fun _ _ _ _ _ h => h) ?tg62 ?tf62 ?tr62
                case ti62 => (simp only [List.getElem?_toArray, List.getElem?_cons_succ, List.getElem?_cons_zero]; rfl)
                case td62 => exact rfl
                case tg62 => exact rfl
                case tf62 => first | (intro _; assumption) | (intro e; exact absurd e (by decide +kernel))
                simp only [List.setIfInBounds_toArray, List.set_cons_zero, List.set_cons_succ]
                refine' takeU 13 (oi := _) (d := _) ?ti63 ?td63 (by kernel_rfl) (by kernel_rfl) (by kernel_rfl) (by decide) (fun _ _ _ _ _ h => h) ?tg63 ?tf63 ?tr63
                case ti63 => (simp only [List.getElem?_toArray, List.getElem?_cons_succ, List.getElem?_cons_zero]; rfl)
                case td63 => exact rfl
                case tg63 => exact rfl
                case tf63 => first | (intro _; assumption) | (intro e; exact absurd e (by decide +kernel))
                simp only [List.setIfInBounds_toArray, List.set_cons_zero, List.set_cons_succ]
                refine' takeV 14 (oi := _) (d := _) (v := _) ?ti64 ?td64 (by kernel_rfl) (by kernel_rfl) (by kernel_rfl) (by kernel_rfl) (by decide) (fun _ _ _ _ _ h => h) ?tg64 ?ty64 (by assumption) ?tr64
                case ti64 => (simp only [List.getElem?_toArray, List.getElem?_cons_succ, List.getElem?_cons_zero]; rfl)
                case td64 => exact rfl
                case tg64 => exact rfl
                case ty64 => (intro w hSw; (try dsimp only at hSw); go_split_ands; go_simp; try with_reducible rfl)
                simp only [List.setIfInBounds_toArray, List.set_cons_zero, List.set_cons_succ]
                refine doneG (by kernel_rfl) ?_ _
                go_wp2_with fail
                go_roundw
                case rel => exact ⟨i + 1, by omega, by go_num, HN.out, HBT.out.drew⟩
                case measure => first | (simp [intOf]; done) | (simp [intOf]; omega)
              · obtain ⟨q, rfl⟩ : ∃ q, i = q + 1 := ⟨i - 1, by omega⟩
                obtain ⟨b', o', A3, n3, c3, A4, n4, c4, L', r', s', K', hAA, hat', hrd', hkey', _, _, _⟩ := HRw.out.here q (by omega) k
                injection hAA with hAA
                injection hAA with e1 e2 _
                subst e1
                subst e2
                have p0 := hat'.c0
                have hlb := hat'.lt
                have hlx := KXw.out.lt
                have HRP := Lib.hid hrd'
                have HKEY' := Lib.hid hkey'
                obtain ⟨bl, hbl⟩ : ∃ bl, less K' K = bl := ⟨_, rfl⟩
                have HBL := Lib.hid hbl
                have hrat := rAt_succ HEM2.out bl (by rw [HKEY'.out, HKEY.out]; exact hbl)
                have HRAT := Lib.hid hrat
                have hcb := cmp_less K' K
                rw [hbl] at hcb
                have hdd : decide (((q + 1 : Nat) : Int) > 0) = true := decide_eq_true (by omega)
                have hw1 : IntKind.i64.wrap ((q : Int)) = (q : Int) := IntWalk.i64_in _ (by omega)
                have hw2 : IntKind.i64.wrap ((q : Int) + 1 - 1) = (q : Int) := by rw [show (q : Int) + 1 - 1 = (q : Int) by omega]; exact hw1
                have j1 : (0 : Int) ≤ (q : Int) := by omega
                have j2 : (q : Int) < (n : Int) := by omega
                clear hat' hrd' hkey' hbl hrat hi0 i1
                cases bl with
                | false =>
                  have HG := Lib.hid (rTo_at HTO.out (by rw [HRAT.out]; decide) (by rw [← HLn.out]; exact hlt))
                  have hcb2 : decide (Lib.compareBytes K' K ≥ 0) = true := hcb
                  clear hcb
                  go_wp2_with fail
                  refine region_gate 15 (fun w' => w'.cell? ⟨w.heap.size, 2, none⟩ = some (.slice (some ⟨b, o, none⟩) n c) ∧ w'.cell? ⟨b, o + q * 9, none⟩ = some (.slice A3 n3 c3) ∧ w'.cell? ⟨wr.heap.size, 0, none⟩ = some (.slice A1 n1 c1) ∧ Rd w' A3 n3 c3 K' ∧ Rd w' A1 n1 c1 K) (by kernel_rfl) ?th65 (fun hHeld => ?tk65)
                  case th65 => ((try dsimp only); exact ⟨d2, p0, x0, HRP.out.below (below_drewN (Below.refl _ _) 1), HRDw.out.below (below_drewN (Below.refl _ _) 1)⟩)
                  refine' takeV 0 (oi := _) (d := _) (v := _) ?ti66 ?td66 (by kernel_rfl) (by kernel_rfl) (by kernel_rfl) (by kernel_rfl) (by decide) (fun _ _ _ _ _ h => h) ?tg66 ?ty66 (by assumption) ?tr66
                  case ti66 => (simp only [List.getElem?_toArray, List.getElem?_cons_succ, List.getElem?_cons_zero]; rfl)
                  case td66 => exact rfl
                  case tg66 => exact rfl
                  case ty66 => (intro w hSw; (try dsimp only at hSw); go_split_ands; go_simp; try with_reducible rfl)
                  simp only [List.setIfInBounds_toArray, List.set_cons_zero, List.set_cons_succ]
                  refine' takeV 1 (oi := _) (d := _) (v := _) ?ti67 ?td67 (by kernel_rfl) (by kernel_rfl) (by kernel_rfl) (by kernel_rfl) (by decide) (fun _ _ _ _ _ h => h) ?tg67 ?ty67 (by assumption) ?tr67
                  case ti67 => (simp only [List.getElem?_toArray, List.getElem?_cons_succ, List.getElem?_cons_zero]; rfl)
                  case td67 => exact rfl
                  case tg67 => exact rfl
                  case ty67 => (intro w hSw; (try dsimp only at hSw); go_split_ands; go_simp; try with_reducible rfl)
                  simp only [List.setIfInBounds_toArray, List.set_cons_zero, List.set_cons_succ]
                  refine' takeV 2 (oi := _) (d := _) (v := _) ?ti68 ?td68 (by kernel_rfl) (by kernel_rfl) (by kernel_rfl) (by kernel_rfl) (by decide) (fun _ _ _ _ _ h => h) ?tg68 ?ty68 (by assumption) ?tr68
                  case ti68 => (simp only [List.getElem?_toArray, List.getElem?_cons_succ, List.getElem?_cons_zero]; rfl)
                  case td68 => exact rfl
                  case tg68 => exact rfl
                  case ty68 => (intro w hSw; (try dsimp only at hSw); go_split_ands; go_simp; try with_reducible rfl)
                  simp only [List.setIfInBounds_toArray, List.set_cons_zero, List.set_cons_succ]
                  refine' takeVg 3 (oi := _) (d := _) (v := _) ?ti69 ?td69 (by kernel_rfl) (by kernel_rfl) (by kernel_rfl) (by kernel_rfl) (by decide) (fun _ _ _ _ _ h => h) ?tg69 ?ty69 (by assumption) ?tr69
                  case ti69 => (simp only [List.getElem?_toArray, List.getElem?_cons_succ, List.getElem?_cons_zero]; rfl)
                  case td69 => exact rfl
                  case tg69 => exact rfl
                  case ty69 => (intro w hSw; (try dsimp only at hSw); go_split_ands; go_simp; try with_reducible rfl)
                  simp only [List.setIfInBounds_toArray, List.set_cons_zero, List.set_cons_succ]
                  refine' takeVg 4 (oi := _) (d := _) (v := _) ?ti70 ?td70 (by kernel_rfl) (by kernel_rfl) (by kernel_rfl) (by kernel_rfl) (by decide) (fun _ _ _ _ _ h => h) ?tg70 ?ty70 (by assumption) ?tr70
                  case ti70 => (simp only [List.getElem?_toArray, List.getElem?_cons_succ, List.getElem?_cons_zero]; rfl)
                  case td70 => exact rfl
                  case tg70 => exact rfl
                  case ty70 => (intro w hSw; (try dsimp only at hSw); go_split_ands; go_simp; try with_reducible rfl)
                  simp only [List.setIfInBounds_toArray, List.set_cons_zero, List.set_cons_succ]
                  refine' takeVg 5 (oi := _) (d := _) (v := _) ?ti71 ?td71 (by kernel_rfl) (by kernel_rfl) (by kernel_rfl) (by kernel_rfl) (by decide) (fun _ _ _ _ _ h => h) ?tg71 ?ty71 (by assumption) ?tr71
                  case ti71 => (simp only [List.getElem?_toArray, List.getElem?_cons_succ, List.getElem?_cons_zero]; rfl)
                  case td71 => exact rfl
                  case tg71 => exact rfl
                  case ty71 => (intro w hSw; (try dsimp only at hSw); go_split_ands; go_simp; try with_reducible rfl)
                  simp only [List.setIfInBounds_toArray, List.set_cons_zero, List.set_cons_succ]
                  refine' takeVg 6 (oi := _) (d := _) (v := _) ?ti72 ?td72 (by kernel_rfl) (by kernel_rfl) (by kernel_rfl) (by kernel_rfl) (by decide) (fun _ _ _ _ _ h => h) ?tg72 ?ty72 (by assumption) ?tr72
                  case ti72 => (simp only [List.getElem?_toArray, List.getElem?_cons_succ, List.getElem?_cons_zero]; rfl)
                  case td72 => exact rfl
                  case tg72 => exact rfl
                  case ty72 => (intro w hSw; (try dsimp only at hSw); go_split_ands; go_simp; try with_reducible rfl)
                  simp only [List.setIfInBounds_toArray, List.set_cons_zero, List.set_cons_succ]
                  refine' takeVg 7 (oi := _) (d := _) (v := _) ?ti73 ?td73 (by kernel_rfl) (by kernel_rfl) (by kernel_rfl) (by kernel_rfl) (by decide) (fun _ _ _ _ _ h => h) ?tg73 ?ty73 (by assumption) ?tr73
                  case ti73 => (simp only [List.getElem?_toArray, List.getElem?_cons_succ, List.getElem?_cons_zero]; rfl)
                  case td73 => exact rfl
                  case tg73 => exact rfl
                  case ty73 => (intro w hSw; (try dsimp only at hSw); go_split_ands; go_simp; try with_reducible rfl)
                  simp only [List.setIfInBounds_toArray, List.set_cons_zero, List.set_cons_succ]
                  refine' takeVg 8 (oi := _) (d := _) (v := _) ?ti74 ?td74 (by kernel_rfl) (by kernel_rfl) (by kernel_rfl) (by kernel_rfl) (by decide) (fun _ _ _ _ _ h => h) ?tg74 ?ty74 (by assumption) ?tr74
                  case ti74 => (simp only [List.getElem?_toArray, List.getElem?_cons_succ, List.getElem?_cons_zero]; rfl)
                  case td74 => exact rfl
                  case tg74 => exact rfl
                  case ty74 => (intro w hSw; (try dsimp only at hSw); go_split_ands; go_simp; try with_reducible rfl)
                  simp only [List.setIfInBounds_toArray, List.set_cons_zero, List.set_cons_succ]
                  refine' takeVg 9 (oi := _) (d := _) (v := _) ?ti75 ?td75 (by kernel_rfl) (by kernel_rfl) (by kernel_rfl) (by kernel_rfl) (by decide) (fun _ _ _ _ _ h => h) ?tg75 ?ty75 (by assumption) ?tr75
                  case ti75 => (simp only [List.getElem?_toArray, List.getElem?_cons_succ, List.getElem?_cons_zero]; rfl)
                  case td75 => exact rfl
                  case tg75 => exact rfl
                  case ty75 => (intro w hSw; (try dsimp only at hSw); go_split_ands; go_simp; try with_reducible rfl)
                  simp only [List.setIfInBounds_toArray, List.set_cons_zero, List.set_cons_succ]
                  refine' takeVg 10 (oi := _) (d := _) (v := _) ?ti76 ?td76 (by kernel_rfl) (by kernel_rfl) (by kernel_rfl) (by kernel_rfl) (by decide) (fun _ _ _ _ _ h => h) ?tg76 ?ty76 (by assumption) ?tr76
                  case ti76 => (simp only [List.getElem?_toArray, List.getElem?_cons_succ, List.getElem?_cons_zero]; rfl)
                  case td76 => exact rfl
                  case tg76 => exact rfl
                  case ty76 => (intro w hSw; (try dsimp only at hSw); go_split_ands; go_simp; try with_reducible rfl)
                  simp only [List.setIfInBounds_toArray, List.set_cons_zero, List.set_cons_succ]
                  refine' takeVg 11 (oi := _) (d := _) (v := _) ?ti77 ?td77 (by kernel_rfl) (by kernel_rfl) (by kernel_rfl) (by kernel_rfl) (by decide) (fun _ _ _ _ _ h => h) ?tg77 ?ty77 (by assumption) ?tr77
                  case ti77 => (simp only [List.getElem?_toArray, List.getElem?_cons_succ, List.getElem?_cons_zero]; rfl)
                  case td77 => exact rfl
                  case tg77 => exact rfl
                  case ty77 => (intro w hSw; (try dsimp only at hSw); go_split_ands; go_simp; try with_reducible rfl)
                  simp only [List.setIfInBounds_toArray, List.set_cons_zero, List.set_cons_succ]
                  refine' takeCg 12 (oi := _) (d := _) (v := _) ?ti78 ?td78 (by kernel_rfl) (by kernel_rfl) (by kernel_rfl) (by kernel_rfl) (by decide) (fun _ _ _ _ _ h => h) ?tg78 ?ty78 (by assumption) ?tr78
                  case ti78 => (simp only [List.getElem?_toArray, List.getElem?_cons_succ, List.getElem?_cons_zero]; rfl)
                  case td78 => exact rfl
                  case tg78 => exact rfl
                  case ty78 => (intro w hSw; have hc := compare_any _ _ _ K' _ _ _ K w hSw.2.2.2.1 hSw.2.2.2.2; exact OnlyV.call rfl Try.func29 (by kernel_rfl) (by kernel_rfl) (Calls.mono hc (by rintro e w2 ⟨rfl, rfl⟩; constructor <;> rfl)) (by simp only [List.map_toArray, List.map_cons, List.map_nil]; rfl))
                  simp only [List.setIfInBounds_toArray, List.set_cons_zero, List.set_cons_succ]
                  refine' takeVg 13 (oi := _) (d := _) (v := _) ?ti79 ?td79 (by kernel_rfl) (by kernel_rfl) (by kernel_rfl) (by kernel_rfl) (by decide) (fun _ _ _ _ _ h => h) ?tg79 ?ty79 (by assumption) ?tr79
                  case ti79 => (simp only [List.getElem?_toArray, List.getElem?_cons_succ, List.getElem?_cons_zero]; rfl)
                  case td79 => exact rfl
                  case tg79 => exact rfl
                  case ty79 => (intro w hSw; (try dsimp only at hSw); go_split_ands; go_simp; try with_reducible rfl)
                  simp only [List.setIfInBounds_toArray, List.set_cons_zero, List.set_cons_succ]
                  refine' takeV 14 (oi := _) (d := _) (v := _) ?ti80 ?td80 (by kernel_rfl) (by kernel_rfl) (by kernel_rfl) (by kernel_rfl) (by decide) (fun _ _ _ _ _ h => h) ?tg80 ?ty80 (by assumption) ?tr80
                  case ti80 => (simp only [List.getElem?_toArray, List.getElem?_cons_succ, List.getElem?_cons_zero]; rfl)
                  case td80 => exact rfl
                  case tg80 => exact rfl
                  case ty80 => (intro w hSw; (try dsimp only at hSw); go_split_ands; go_simp; try with_reducible rfl)
                  simp only [List.setIfInBounds_toArray, List.set_cons_zero, List.set_cons_succ]
                  refine doneG (by kernel_rfl) ?_ _
                  go_wp2_with fail
                  go_ret
                  exact ⟨by rw [HG.out, HRAT.out]; rfl, HWB.out.trans ((HBT.out.drew).mono (Nat.le_of_lt hWs))⟩
                | true =>
                  have HN : Hid (rTo k es (q + 1 + 1) = 0) := by show _ = _; rw [rTo, if_pos HTO.out]; exact HRAT.out
                  have hcb2 : decide (Lib.compareBytes K' K ≥ 0) = false := hcb
                  clear hcb
                  go_wp2_with fail
                  refine region_gate 15 (fun w' => w'.cell? ⟨w.heap.size, 2, none⟩ = some (.slice (some ⟨b, o, none⟩) n c) ∧ w'.cell? ⟨b, o + q * 9, none⟩ = some (.slice A3 n3 c3) ∧ w'.cell? ⟨wr.heap.size, 0, none⟩ = some (.slice A1 n1 c1) ∧ Rd w' A3 n3 c3 K' ∧ Rd w' A1 n1 c1 K) (by kernel_rfl) ?th81 (fun hHeld => ?tk81)
                  case th81 => ((try dsimp only); exact ⟨d2, p0, x0, HRP.out.below (below_drewN (Below.refl _ _) 1), HRDw.out.below (below_drewN (Below.refl _ _) 1)⟩)
                  refine' takeV 0 (oi := _) (d := _) (v := _) ?ti82 ?td82 (by kernel_rfl) (by kernel_rfl) (by kernel_rfl) (by kernel_rfl) (by decide) (fun _ _ _ _ _ h => h) ?tg82 ?ty82 (by assumption) ?tr82
                  case ti82 => (simp only [List.getElem?_toArray, List.getElem?_cons_succ, List.getElem?_cons_zero]; rfl)
                  case td82 => exact rfl
                  case tg82 => exact rfl
                  case ty82 => (intro w hSw; (try dsimp only at hSw); go_split_ands; go_simp; try with_reducible rfl)
                  simp only [List.setIfInBounds_toArray, List.set_cons_zero, List.set_cons_succ]
                  refine' takeV 1 (oi := _) (d := _) (v := _) ?ti83 ?td83 (by kernel_rfl) (by kernel_rfl) (by kernel_rfl) (by kernel_rfl) (by decide) (fun _ _ _ _ _ h => h) ?tg83 ?ty83 (by assumption) ?tr83
                  case ti83 => (simp only [List.getElem?_toArray, List.getElem?_cons_succ, List.getElem?_cons_zero]; rfl)
                  case td83 => exact rfl
                  case tg83 => exact rfl
                  case ty83 => (intro w hSw; (try dsimp only at hSw); go_split_ands; go_simp; try with_reducible rfl)
                  simp only [List.setIfInBounds_toArray, List.set_cons_zero, List.set_cons_succ]
                  refine' takeV 2 (oi := _) (d := _) (v := _) ?ti84 ?td84 (by kernel_rfl) (by kernel_rfl) (by kernel_rfl) (by kernel_rfl) (by decide) (fun _ _ _ _ _ h => h) ?tg84 ?ty84 (by assumption) ?tr84
                  case ti84 => (simp only [List.getElem?_toArray, List.getElem?_cons_succ, List.getElem?_cons_zero]; rfl)
                  case td84 => exact rfl
                  case tg84 => exact rfl
                  case ty84 => (intro w hSw; (try dsimp only at hSw); go_split_ands; go_simp; try with_reducible rfl)
                  simp only [List.setIfInBounds_toArray, List.set_cons_zero, List.set_cons_succ]
                  refine' takeVg 3 (oi := _) (d := _) (v := _) ?ti85 ?td85 (by kernel_rfl) (by kernel_rfl) (by kernel_rfl) (by kernel_rfl) (by decide) (fun _ _ _ _ _ h => h) ?tg85 ?ty85 (by assumption) ?tr85
                  case ti85 => (simp only [List.getElem?_toArray, List.getElem?_cons_succ, List.getElem?_cons_zero]; rfl)
                  case td85 => exact rfl
                  case tg85 => exact rfl
                  case ty85 => (intro w hSw; (try dsimp only at hSw); go_split_ands; go_simp; try with_reducible rfl)
                  simp only [List.setIfInBounds_toArray, List.set_cons_zero, List.set_cons_succ]
                  refine' takeVg 4 (oi := _) (d := _) (v := _) ?ti86 ?td86 (by kernel_rfl) (by kernel_rfl) (by kernel_rfl) (by kernel_rfl) (by decide) (fun _ _ _ _ _ h => h) ?tg86 ?ty86 (by assumption) ?tr86
                  case ti86 => (simp only [List.getElem?_toArray, List.getElem?_cons_succ, List.getElem?_cons_zero]; rfl)
                  case td86 => exact rfl
                  case tg86 => exact rfl
                  case ty86 => (intro w hSw; (try dsimp only at hSw); go_split_ands; go_simp; try with_reducible rfl)
                  simp only [List.setIfInBounds_toArray, List.set_cons_zero, List.set_cons_succ]
                  refine' takeVg 5 (oi := _) (d := _) (v := _) ?ti87 ?td87 (by kernel_rfl) (by kernel_rfl) (by kernel_rfl) (by kernel_rfl) (by decide) (fun _ _ _ _ _ h => h) ?tg87 ?ty87 (by assumption) ?tr87
                  case ti87 => (simp only [List.getElem?_toArray, List.getElem?_cons_succ, List.getElem?_cons_zero]; rfl)
                  case td87 => exact rfl
                  case tg87 => exact rfl
                  case ty87 => (intro w hSw; (try dsimp only at hSw); go_split_ands; go_simp; try with_reducible rfl)
                  simp only [List.setIfInBounds_toArray, List.set_cons_zero, List.set_cons_succ]
                  refine' takeVg 6 (oi := _) (d := _) (v := _) ?ti88 ?td88 (by kernel_rfl) (by kernel_rfl) (by kernel_rfl) (by kernel_rfl) (by decide) (fun _ _ _ _ _ h => h) ?tg88 ?ty88 (by assumption) ?tr88
                  case ti88 => (simp only [List.getElem?_toArray, List.getElem?_cons_succ, List.getElem?_cons_zero]; rfl)
                  case td88 => exact rfl
                  case tg88 => exact rfl
                  case ty88 => (intro w hSw; (try dsimp only at hSw); go_split_ands; go_simp; try with_reducible rfl)
                  simp only [List.setIfInBounds_toArray, List.set_cons_zero, List.set_cons_succ]
                  refine' takeVg 7 (oi := _) (d := _) (v := _) ?ti89 ?td89 (by kernel_rfl) (by kernel_rfl) (by kernel_rfl) (by kernel_rfl) (by decide) (fun _ _ _ _ _ h => h) ?tg89 ?ty89 (by assumption) ?tr89
                  case ti89 => (simp only [List.getElem?_toArray, List.getElem?_cons_succ, List.getElem?_cons_zero]; rfl)
                  case td89 => exact rfl
                  case tg89 => exact rfl
                  case ty89 => (intro w hSw; (try dsimp only at hSw); go_split_ands; go_simp; try with_reducible rfl)
                  simp only [List.setIfInBounds_toArray, List.set_cons_zero, List.set_cons_succ]
                  refine' takeVg 8 (oi := _) (d := _) (v := _) ?ti90 ?td90 (by kernel_rfl) (by kernel_rfl) (by kernel_rfl) (by kernel_rfl) (by decide) (fun _ _ _ _ _ h => h) ?tg90 ?ty90 (by assumption) ?tr90
                  case ti90 => (simp only [List.getElem?_toArray, List.getElem?_cons_succ, List.getElem?_cons_zero]; rfl)
                  case td90 => exact rfl
                  case tg90 => exact rfl
                  case ty90 => (intro w hSw; (try dsimp only at hSw); go_split_ands; go_simp; try with_reducible rfl)
                  simp only [List.setIfInBounds_toArray, List.set_cons_zero, List.set_cons_succ]
                  refine' takeVg 9 (oi := _) (d := _) (v := _) ?ti91 ?td91 (by kernel_rfl) (by kernel_rfl) (by kernel_rfl) (by kernel_rfl) (by decide) (fun _ _ _ _ _ h => h) ?tg91 ?ty91 (by assumption) ?tr91
                  case ti91 => (simp only [List.getElem?_toArray, List.getElem?_cons_succ, List.getElem?_cons_zero]; rfl)
                  case td91 => exact rfl
                  case tg91 => exact rfl
                  case ty91 => (intro w hSw; (try dsimp only at hSw); go_split_ands; go_simp; try with_reducible rfl)
                  simp only [List.setIfInBounds_toArray, List.set_cons_zero, List.set_cons_succ]
                  refine' takeVg 10 (oi := _) (d := _) (v := _) ?ti92 ?td92 (by kernel_rfl) (by kernel_rfl) (by kernel_rfl) (by kernel_rfl) (by decide) (fun _ _ _ _ _ h => h) ?tg92 ?ty92 (by assumption) ?tr92
                  case ti92 => (simp only [List.getElem?_toArray, List.getElem?_cons_succ, List.getElem?_cons_zero]; rfl)
                  case td92 => exact rfl
                  case tg92 => exact rfl
                  case ty92 => (intro w hSw; (try dsimp only at hSw); go_split_ands; go_simp; try with_reducible rfl)
                  simp only [List.setIfInBounds_toArray, List.set_cons_zero, List.set_cons_succ]
                  refine' takeVg 11 (oi := _) (d := _) (v := _) ?ti93 ?td93 (by kernel_rfl) (by kernel_rfl) (by kernel_rfl) (by kernel_rfl) (by decide) (fun _ _ _ _ _ h => h) ?tg93 ?ty93 (by assumption) ?tr93
                  case ti93 => (simp only [List.getElem?_toArray, List.getElem?_cons_succ, List.getElem?_cons_zero]; rfl)
                  case td93 => exact rfl
                  case tg93 => exact rfl
                  case ty93 => (intro w hSw; (try dsimp only at hSw); go_split_ands; go_simp; try with_reducible rfl)
                  simp only [List.setIfInBounds_toArray, List.set_cons_zero, List.set_cons_succ]
                  refine' takeCg 12 (oi := _) (d := _) (v := _) ?ti94 ?td94 (by kernel_rfl) (by kernel_rfl) (by kernel_rfl) (by kernel_rfl) (by decide) (fun _ _ _ _ _ h => h) ?tg94 ?ty94 (by assumption) ?tr94
                  case ti94 => (simp only [List.getElem?_toArray, List.getElem?_cons_succ, List.getElem?_cons_zero]; rfl)
                  case td94 => exact rfl
                  case tg94 => exact rfl
                  case ty94 => (intro w hSw; have hc := compare_any _ _ _ K' _ _ _ K w hSw.2.2.2.1 hSw.2.2.2.2; exact OnlyV.call rfl Try.func29 (by kernel_rfl) (by kernel_rfl) (Calls.mono hc (by rintro e w2 ⟨rfl, rfl⟩; constructor <;> rfl)) (by simp only [List.map_toArray, List.map_cons, List.map_nil]; rfl))
                  simp only [List.setIfInBounds_toArray, List.set_cons_zero, List.set_cons_succ]
                  refine' takeVg 13 (oi := _) (d := _) (v := _) ?ti95 ?td95 (by kernel_rfl) (by kernel_rfl) (by kernel_rfl) (by kernel_rfl) (by decide) (fun _ _ _ _ _ h => h) ?tg95 ?ty95 (by assumption) ?tr95
                  case ti95 => (simp only [List.getElem?_toArray, List.getElem?_cons_succ, List.getElem?_cons_zero]; rfl)
                  case td95 => exact rfl
                  case tg95 => exact rfl
                  case ty95 => (intro w hSw; (try dsimp only at hSw); go_split_ands; go_simp; try with_reducible rfl)
                  simp only [List.setIfInBounds_toArray, List.set_cons_zero, List.set_cons_succ]
                  refine' takeV 14 (oi := _) (d := _) (v := _) ?ti96 ?td96 (by kernel_rfl) (by kernel_rfl) (by kernel_rfl) (by kernel_rfl) (by decide) (fun _ _ _ _ _ h => h) ?tg96 ?ty96 (by assumption) ?tr96
                  case ti96 => (simp only [List.getElem?_toArray, List.getElem?_cons_succ, List.getElem?_cons_zero]; rfl)
                  case td96 => exact rfl
                  case tg96 => exact rfl
                  case ty96 => (intro w hSw; (try dsimp only at hSw); go_split_ands; go_simp; try with_reducible rfl)
                  simp only [List.setIfInBounds_toArray, List.set_cons_zero, List.set_cons_succ]
                  refine doneG (by kernel_rfl) ?_ _
                  go_wp2_with fail
                  go_roundw
                  case rel => exact ⟨q + 1 + 1, by omega, by go_num, HN.out, HBT.out.drew⟩
                  case measure => first | (simp [intOf]; done) | (simp [intOf]; omega)
          · obtain rfl : i = n := by omega
            have HT := HTO.out
            rw [HLn.out] at HT
            have HF := Lib.hid HT
            clear HT hi hlt
            go_wp2_with fail
            go_ret
            exact ⟨by rw [HF.out]; rfl, HWB.out.trans (HBE.out.mono (Nat.le_of_lt hWs))⟩
end Go.Proofs.Ytihbpmceggghgaa
