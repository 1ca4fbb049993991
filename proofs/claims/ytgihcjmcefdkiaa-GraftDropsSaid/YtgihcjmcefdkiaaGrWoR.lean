/- Contracts: a node without an entry, as the reference has it. -/
import Derived.Test.YtgihcjmcefdkiaaGrWo
import Derived.Test.YtgihcjmcefdkiaaGrWithR
set_option linter.unusedVariables false
set_option linter.unusedSimpArgs false
namespace Go.Proofs.Ytgihcjmcefdkiaa
open Go.RowKit

theorem mE_at (k : Nat) (es : List Ent) {j : Nat} (h : 0 < j) : (mE k es).getD j ent0 = es.getD j ent0 := by
  unfold mE; split
  · obtain ⟨i, rfl⟩ : ∃ i, j = i + 1 := ⟨j - 1, by omega⟩
    exact nk_succ es i
  · rfl
theorem mE_zero (k : Nat) {es es' : List Ent} (h : 0 < es.length) (h' : 0 < es'.length) (e : es.getD 0 ent0 = es'.getD 0 ent0) : (mE k es).getD 0 ent0 = (mE k es').getD 0 ent0 := by
  unfold mE; split
  · rw [nk_zero h, nk_zero h', e]
  · exact e
theorem OwnN.congr {w : World} {H n c : Nat} {A : Option Addr} {es es' : List Ent} (h : OwnN w H A n c es) (he : ∀ j, j < n → es.getD j ent0 = es'.getD j ent0) : OwnN w H A n c es' := by
  obtain ⟨css, h1, h2⟩ := h
  exact ⟨css, h1, fun j hj => by rw [← he j hj]; exact h2 j hj⟩
set_option maxRecDepth 100000 in
set_option maxHeartbeats 3200000 in
theorem refwithout_any (k l : Nat) (A : Option Addr) (n c : Nat) (es : List Ent) (i : Int) (w : World) (h : RdL w A n c es) (hk : k < 256) (hl : l < 256) (hN : n ≤ 9000) (hs : shortE es) (hi : i64In i) :
    Calls Try.prog 30 #[NdV k l A n c, .int .i64 i] w (OneP (woE k l es i) k l (mE k (dropE es i.toNat)) w) := by
  have hcap := h.cap
  have hmax := h.max
  unfold maxLen at hmax
  obtain ⟨hi1, hi2⟩ := hi
  have HLn := Lib.hid h.len
  have HS := Lib.hid hs
  obtain ⟨W, hW⟩ : ∃ W, W = (w.alloc (.cells #[.int .u8 (k : Int), .int .u8 (l : Int), .slice A n c] 24)).alloc (.cells #[.int .u8 0, .int .u8 0, .slice none 0 0] 24) := ⟨_, rfl⟩
  have HWB : Hid (Below w.heap.size w W) := by rw [hW]; exact (below_new _ _).alloc (by simp) _
  have KN : Hid (Blk W w.heap.size 24 (ndA k l A n c)) := by rw [hW]; exact (Blk.new _ _ _).alloc _
  have KZ : Hid (Blk W (w.heap.size + 1) 24 [Value.int .u8 0, .int .u8 0, .slice none 0 0].toArray) := by rw [hW]; exact Blk.new' _ _ _ _ (by simp)
  have HR := Lib.hid (h.below HWB.out)
  have HW := Lib.hid hW
  have hWs := KZ.out.lt
  have d0 : W.cell? ⟨w.heap.size, 0, none⟩ = some (.int .u8 (k : Int)) := KN.out.cell 0
  have d1 : W.cell? ⟨w.heap.size, 1, none⟩ = some (.int .u8 (l : Int)) := KN.out.cell 1
  have d2 : W.cell? ⟨w.heap.size, 2, none⟩ = some (.slice A n c) := KN.out.cell 2
  by_cases hbad : i < 0 ∨ (n : Int) ≤ i
  · have HE : Hid (woE k l es i = 2) := by show _ = _; rw [woE, if_pos (by rw [← HLn.out]; exact hbad)]
    rw [HE.out]
    rcases hbad with hb | hb
    · have e1 : decide (i < 0) = true := decide_eq_true hb
      clear h hs hW HE
      go_enter Try.func30, Try.ntmps30
      go_wp2_with fail
      rw [← HW.out]
      go_wp2_with fail
      have z0 := KZ.out.cell 0
      have z1 := KZ.out.cell 1
      have z2 := KZ.out.cell 2
      refine bodyPost_ret (v := .tuple #[NdV 0 0 none 0 0, .int .i64 2]) ?_ rfl (OneP.none_ (by decide) HWB.out)
      simp [results, Try.results30, go_sem, z0, z1, z2]
    · have e1 : decide (i < 0) = false := decide_eq_false (by omega)
      have e2 : decide (i ≥ (n : Int)) = true := decide_eq_true (by omega)
      clear h hs hW HE
      go_enter Try.func30, Try.ntmps30
      go_wp2_with fail
      rw [← HW.out]
      go_wp2_with fail
      have z0 := KZ.out.cell 0
      have z1 := KZ.out.cell 1
      have z2 := KZ.out.cell 2
      refine bodyPost_ret (v := .tuple #[NdV 0 0 none 0 0, .int .i64 2]) ?_ rfl (OneP.none_ (by decide) HWB.out)
      simp [results, Try.results30, go_sem, z0, z1, z2]
  · obtain ⟨p, hp⟩ := Int.eq_ofNat_of_zero_le (a := i) (by omega)
    subst hp
    have hpn : p < n := by omega
    have e1 : decide ((p : Int) < 0) = false := decide_eq_false (by omega)
    have e2 : decide (n ≤ p) = false := decide_eq_false (by omega)
    have e3 : decide ((p : Int) ≥ (n : Int)) = false := decide_eq_false (by omega)
    obtain ⟨L, HL⟩ : ∃ L, Hid (dropE es p = L) := ⟨_, rfl⟩
    obtain ⟨m, HMM⟩ : ∃ m, Hid (n - 1 = m) := ⟨_, rfl⟩
    have HLL : Hid (L.length = m) := by show _ = _; rw [← HL.out, dropE_length (by rw [← HLn.out]; exact hpn), ← HLn.out, HMM.out]
    have HLQ : Hid (m = L.length) := HLL.out.symm
    have HSL : Hid (shortE L) := by rw [← HL.out]; exact hs.dropE (by rw [← HLn.out]; exact hpn)
    obtain ⟨E, HEE⟩ : ∃ E, Hid (rE k l es = E) := ⟨_, rfl⟩
    have HE : Hid (woE k l es (p : Int) = E) := by
      show _ = _
      rw [woE, if_neg (by rw [← HLn.out]; omega), HEE.out]
    have et : dropE es ((p : Int)).toNat = L := by rw [Int.toNat_natCast]; exact HL.out
    rw [HE.out, et]
    have HM := Lib.hid (refright_any k l A n c es W HR.out hk hl)
    rw [HEE.out] at HM
    clear h hs hW HE et hbad
    go_enter Try.func30, Try.ntmps30
    go_wp2_with fail
    rw [← HW.out]
    refine HM.out.mono ?_
    rintro e w1 ⟨rfl, hb1⟩
    have HB1 : Hid (Below W.heap.size W w1) := hb1
    have s1 := hb1.size
    have sx := HWB.out.size
    clear hb1 d0 d1 d2 HM
    by_cases he : E = 0
    · have hd : (E != 0) = false := by rw [he]; rfl
      have HE0 := Lib.hid he
      clear he
      have KN1 := Lib.hid (KN.out.below HB1.out KN.out.lt)
      have HR1 := Lib.hid (HR.out.below HB1.out)
      have KZ1 : Hid (Blk w1 (w.heap.size + 1) 24 [Value.int .u8 0, .int .u8 0, .slice none 0 0].toArray) := KZ.out.below HB1.out KZ.out.lt
      have d0 : w1.cell? ⟨w.heap.size, 0, none⟩ = some (.int .u8 (k : Int)) := KN1.out.cell 0
      have d1 : w1.cell? ⟨w.heap.size, 1, none⟩ = some (.int .u8 (l : Int)) := KN1.out.cell 1
      have d2 : w1.cell? ⟨w.heap.size, 2, none⟩ = some (.slice A n c) := KN1.out.cell 2
      by_cases hp0 : p = 0
      · subst hp0
        have j0 : (((0 : Nat) : Int) == 0) = true := rfl
        have HP := part_any k l A n c es 1 n w1 HR1.out hk hl (by omega) (by omega) hN HS.out
        have hLs : segE es 1 n = L := by
          rw [← HL.out, dropE_eq, segE, List.take_zero, List.nil_append, List.take_of_length_le (by rw [List.length_drop, ← HLn.out]; exact Nat.le_refl _)]
        rw [hLs, HMM.out, show ((1 : Nat) : Int) = 1 from rfl] at HP
        have HPP := Lib.hid HP
        clear HP hLs
        go_wp2_with fail
        refine HPP.out.mono ?_
        rintro e w2 ⟨A9, c9, rfl, ho, hb⟩
        have HO := Lib.hid ho
        have HB2 : Hid (Below W.heap.size W w2) := HB1.out.trans (hb.mono s1)
        have KZ2 : Hid (Blk w2 (w.heap.size + 1) 24 [Value.int .u8 0, .int .u8 0, .slice none 0 0].toArray) := KZ1.out.below hb (by have := s1; omega)
        have s2 := HB2.out.size
        clear ho hb d0 d1 d2 HPP
        have hlz : [Value.int .u8 0, .int .u8 0, .slice none 0 0].length = [Value.int .u8 (k : Int), .int .u8 (l : Int), .slice A9 m c9].length := rfl
        have hiz : (Try.prog.info? 24).map (·.size) = some [Value.int .u8 (k : Int), .int .u8 (l : Int), .slice A9 m c9].length := infoNd
        have h1 : ∀ v ∈ [Value.int .u8 (k : Int), .int .u8 (l : Int), .slice A9 m c9], v.oneCell' = true := nd_one k l A9 m c9
        go_wp2_with (with_reducible refine wpList_store_blk rfl 24 (.tmp 4) (.tmp 31) rfl rfl (cs := [Value.int .u8 (k : Int), .int .u8 (l : Int), .slice A9 m c9]) rfl KZ2.out hlz hiz h1 ?_; intro w6 hk6 hg6)
        have e0 := hk6.cell 0
        have e1 := hk6.cell 1
        have e2 := hk6.cell 2
        refine bodyPost_ret (v := .tuple #[NdV k l A9 m c9, .int .i64 0]) ?_ rfl ?_
        · simp [results, Try.results30, go_sem, e0, e1, e2]
        · rw [HE0.out]
          refine OneP.some_ (HLQ.out.trans (mE_length k L).symm) ?_ ((HWB.out.trans (HB2.out.mono (by omega))).grown hg6 (by omega) (by intro q hq; simp at hq; omega))
          exact (HO.out.keptE KZ2.out (by decide) (by decide) hg6).mono (by omega)
      · have j0 : ((p : Int) == 0) = false := by rw [beq_eq_false_iff_ne]; omega
        have HP := part_any k l A n c es 0 p w1 HR1.out hk hl (by omega) (by omega) hN HS.out
        rw [Nat.sub_zero, show ((0 : Nat) : Int) = 0 from rfl] at HP
        have HPP := Lib.hid HP
        clear HP
        go_wp2_with fail
        refine HPP.out.mono ?_
        rintro e w2 ⟨A9, c9, rfl, ho, hb⟩
        obtain ⟨LL, HLE⟩ : ∃ LL, Hid (mE k L = LL) := ⟨_, rfl⟩
        have hat : ∀ j, 0 < j → LL.getD j ent0 = if j < p then es.getD j ent0 else es.getD (j + 1) ent0 := fun j h0 => by
          rw [← HLE.out, mE_at k L h0, ← HL.out]; exact dropE_at (by rw [← HLn.out]; exact hpn) j
        have hoL : OwnN w2 w1.heap.size A9 p c9 LL := ho.congr fun j hj => by
          have hseg : segE es 0 p = es.take p := by rw [segE]; rfl
          rw [hseg]
          by_cases h0 : j = 0
          · subst h0
            rw [← HLE.out]
            refine mE_zero k (by rw [List.length_take, ← HLn.out]; omega) (by rw [HLL.out]; have := HMM.out; omega) ?_
            rw [take_getD _ _ _ hj, ← HL.out, dropE_at (by rw [← HLn.out]; exact hpn), if_pos hj]
          · rw [mE_at k _ (by omega), take_getD _ _ _ hj, hat j (by omega), if_pos hj]
        have HAT := Lib.hid hat
        have s2 := hb.size
        obtain ⟨w3, hw3⟩ : ∃ w3, w3 = w2.alloc (.cells #[.int .u8 (k : Int), .int .u8 (l : Int), .slice A9 p c9] 24) := ⟨_, rfl⟩
        have hb3 : Below w1.heap.size w1 w3 := by rw [hw3]; exact hb.alloc s2 _
        have HO3 : Hid (OwnN w3 w1.heap.size A9 p c9 LL) := by rw [hw3]; exact hoL.below (below_new1 _ _)
        have HK3 : Hid (Blk w3 w2.heap.size 24 (ndA k l A9 p c9)) := by rw [hw3]; exact Blk.new _ _ _
        have HB3 := Lib.hid hb3
        have HW3 := Lib.hid hw3
        have HWw : Hid (Below w.heap.size w w1) := HWB.out.trans (HB1.out.mono sx)
        have s3 := hb3.size
        have hw1 : IntKind.i64.wrap ((p : Int) + 1) = (p : Int) + 1 := IntWalk.i64_in _ (by omega)
        clear ho hb hat hoL hw3 hb3 HPP d0 d1 d2
        have hs2k := s2
        have hWn : w.heap.size < w1.heap.size := by omega
        have hWb : w.heap.size ≤ w1.heap.size := by omega
        have HRw : Hid (RdL w1 A n c es) := HR1.out
        go_upto_region 9 with fail
        rw [← HW3.out]
        clear HR
        go_wp2_with fail
        go_loopw [8] (fun z wr => ∃ (j q c2 : Nat) (A2 : Option Addr), j = q + 1 ∧ p + 1 ≤ j ∧ j ≤ n ∧ z = .int .i64 (j : Int) ∧ Blk wr w2.heap.size 24 (ndA k l A2 q c2) ∧ OwnN wr w1.heap.size A2 q c2 LL ∧ Below w1.heap.size w1 wr) (fun z _ => n - (intOf z).toNat)
        case atStart => exact ⟨p + 1, p, c9, A9, rfl, Nat.le_refl _, by omega, by go_num, HK3.out, HO3.out, HB3.out⟩
        case round =>
          clear hw1 HO3 HK3 HB3 s3
          obtain ⟨j, q, c3, A3, hjq, hjp, hj, rfl, hkm, hown, hbel⟩ := hrel
          have HKM := Lib.hid hkm
          have HO := Lib.hid hown
          have HWr : Hid (Below w1.heap.size w1 wr) := hbel
          have hbs := hbel.size
          have KNr := Lib.hid (KN1.out.below hbel (by omega))
          have dn : wr.cell? ⟨w.heap.size, 2, none⟩ = some (.slice A n c) := KNr.out.cell 2
          have HJ := Lib.hid hjq
          clear hkm hown hbel
          by_cases hlt : j < n
          · have HR := Lib.hid HR1.out
            have HQ : Hid (LL.getD q ent0 = es.getD j ent0) := by show _ = _; rw [HAT.out q (by omega), if_neg (by omega), ← HJ.out]
            have j1 : decide ((j : Int) < (n : Int)) = true := decide_eq_true (by omega)
            have hq9 : q ≤ 9000 := by omega
            clear hjq
            go_upto_region 12 with fail
            clear dn
            obtain ⟨b, o, A1, n1, c1, A2, n2, c2, L0, r0_, s0_, Ky, Va, rfl, hat, hrk, hrv, hent⟩ := HR.out.pair j hlt
            have hatr := hat.below HWr.out
            have hbl := hat.lt
            have HRK := Lib.hid (hrk.below HWr.out)
            have HRV := Lib.hid (hrv.below HWr.out)
            have HEN : Hid (LL.getD q ent0 = ⟨Ky, Va, L0, r0_, s0_⟩) := by show _ = _; rw [HQ.out]; exact hent
            have hln : n1 ≤ 140737488355328 ∧ n2 ≤ 140737488355328 := by
              have := HS.out j (by rw [← HLn.out]; exact hlt)
              rw [hent] at this
              rw [hrk.len, hrv.len]
              exact this
            have i1 : (0 : Int) ≤ (j : Int) := by omega
            have i2 : (j : Int) < (n : Int) := by omega
            have TR : Hid (∀ V, V.cell? ⟨w2.heap.size, 2, none⟩ = some (.slice A3 q c3) → Below w1.heap.size wr V → (fun V => V.cell? ⟨w2.heap.size, 2, none⟩ = some (.slice A3 q c3) ∧ V.cell? ⟨w.heap.size, 2, none⟩ = some (.slice (some ⟨b, o, none⟩) n c) ∧ V.cell? ⟨b, o + j * 9, none⟩ = some (.slice A1 n1 c1) ∧ V.cell? ⟨b, o + j * 9 + 1, none⟩ = some (.slice A2 n2 c2) ∧ V.cell? ⟨b, o + j * 9 + 2, none⟩ = some (.int .i64 L0) ∧ V.cell? ⟨b, o + j * 9 + 3, none⟩ = some (.int .u32 (r0_.1 : Int)) ∧ V.cell? ⟨b, o + j * 9 + 4, none⟩ = some (.int .u64 (r0_.2.1 : Int)) ∧ V.cell? ⟨b, o + j * 9 + 5, none⟩ = some (.int .u16 (r0_.2.2 : Int)) ∧ V.cell? ⟨b, o + j * 9 + 6, none⟩ = some (.int .u32 (s0_.1 : Int)) ∧ V.cell? ⟨b, o + j * 9 + 7, none⟩ = some (.int .u64 (s0_.2.1 : Int)) ∧ V.cell? ⟨b, o + j * 9 + 8, none⟩ = some (.int .u16 (s0_.2.2 : Int)) ∧ Below w1.heap.size wr V) V) := fun V hm2 hb => by
              have k1 := hatr.keep (hb.block b (by omega))
              have k3 := KNr.out.below hb (by omega)
              exact ⟨hm2, k3.cell 2, k1.c0, k1.c1, k1.c2, k1.c3, k1.c4, k1.c5, k1.c6, k1.c7, k1.c8, hb⟩
            have d2 : wr.cell? ⟨w.heap.size, 2, none⟩ = some (.slice (some ⟨b, o, none⟩) n c) := KNr.out.cell 2
            clear hat hatr hrk hrv hent
            go_wp2_with fail
            clear d2
            refine region_gate 11 (fun V => V.cell? ⟨w2.heap.size, 2, none⟩ = some (.slice A3 q c3) ∧ V.cell? ⟨w.heap.size, 2, none⟩ = some (.slice (some ⟨b, o, none⟩) n c) ∧ V.cell? ⟨b, o + j * 9, none⟩ = some (.slice A1 n1 c1) ∧ V.cell? ⟨b, o + j * 9 + 1, none⟩ = some (.slice A2 n2 c2) ∧ V.cell? ⟨b, o + j * 9 + 2, none⟩ = some (.int .i64 L0) ∧ V.cell? ⟨b, o + j * 9 + 3, none⟩ = some (.int .u32 (r0_.1 : Int)) ∧ V.cell? ⟨b, o + j * 9 + 4, none⟩ = some (.int .u64 (r0_.2.1 : Int)) ∧ V.cell? ⟨b, o + j * 9 + 5, none⟩ = some (.int .u16 (r0_.2.2 : Int)) ∧ V.cell? ⟨b, o + j * 9 + 6, none⟩ = some (.int .u32 (s0_.1 : Int)) ∧ V.cell? ⟨b, o + j * 9 + 7, none⟩ = some (.int .u64 (s0_.2.1 : Int)) ∧ V.cell? ⟨b, o + j * 9 + 8, none⟩ = some (.int .u16 (s0_.2.2 : Int)) ∧ Below w1.heap.size wr V) (by kernel_rfl) ?th1 (fun hHeld => ?tk1)
            case th1 => ((try dsimp only); exact TR.out _ (HKM.out.cell 2) (Below.refl _ _).drew)
            refine' takeV 0 (oi := _) (d := _) (v := _) ?ti2 ?td2 (by kernel_rfl) (by kernel_rfl) (by kernel_rfl) (by kernel_rfl) (by decide) (fun _ _ _ _ _ h => h) ?tg2 ?ty2 (by assumption) ?tr2
            case ti2 => (simp only [List.getElem?_toArray, List.getElem?_cons_succ, List.getElem?_cons_zero]; rfl)
            case td2 => exact rfl
            case tg2 => exact rfl
            case ty2 => (intro w hSw; (try dsimp only at hSw); go_split_ands; go_simp; try with_reducible rfl)
            simp only [List.setIfInBounds_toArray, List.set_cons_zero, List.set_cons_succ]
            refine' takeV 1 (oi := _) (d := _) (v := _) ?ti3 ?td3 (by kernel_rfl) (by kernel_rfl) (by kernel_rfl) (by kernel_rfl) (by decide) (fun _ _ _ _ _ h => h) ?tg3 ?ty3 (by assumption) ?tr3
            case ti3 => (simp only [List.getElem?_toArray, List.getElem?_cons_succ, List.getElem?_cons_zero]; rfl)
            case td3 => exact rfl
            case tg3 => exact rfl
            case ty3 => (intro w hSw; (try dsimp only at hSw); go_split_ands; go_simp; try with_reducible rfl)
            simp only [List.setIfInBounds_toArray, List.set_cons_zero, List.set_cons_succ]
            refine' takeV 2 (oi := _) (d := _) (v := _) ?ti4 ?td4 (by kernel_rfl) (by kernel_rfl) (by kernel_rfl) (by kernel_rfl) (by decide) (fun _ _ _ _ _ h => h) ?tg4 ?ty4 (by assumption) ?tr4
            case ti4 => (simp only [List.getElem?_toArray, List.getElem?_cons_succ, List.getElem?_cons_zero]; rfl)
            case td4 => exact rfl
            case tg4 => exact rfl
            case ty4 => (intro w hSw; (try dsimp only at hSw); go_split_ands; go_simp; try with_reducible rfl)
            simp only [List.setIfInBounds_toArray, List.set_cons_zero, List.set_cons_succ]
            refine' takeV 3 (oi := _) (d := _) (v := _) ?ti5 ?td5 (by kernel_rfl) (by kernel_rfl) (by kernel_rfl) (by kernel_rfl) (by decide) (fun _ _ _ _ _ h => h) ?tg5 ?ty5 (by assumption) ?tr5
            case ti5 => (simp only [List.getElem?_toArray, List.getElem?_cons_succ, List.getElem?_cons_zero]; rfl)
            case td5 => exact rfl
            case tg5 => exact rfl
            case ty5 => (intro w hSw; (try dsimp only at hSw); go_split_ands; go_simp; try with_reducible rfl)
            simp only [List.setIfInBounds_toArray, List.set_cons_zero, List.set_cons_succ]
            refine' takeV 4 (oi := _) (d := _) (v := _) ?ti6 ?td6 (by kernel_rfl) (by kernel_rfl) (by kernel_rfl) (by kernel_rfl) (by decide) (fun _ _ _ _ _ h => h) ?tg6 ?ty6 (by assumption) ?tr6
            case ti6 => (simp only [List.getElem?_toArray, List.getElem?_cons_succ, List.getElem?_cons_zero]; rfl)
            case td6 => exact rfl
            case tg6 => exact rfl
            case ty6 => (intro w hSw; (try dsimp only at hSw); go_split_ands; go_simp; try with_reducible rfl)
            simp only [List.setIfInBounds_toArray, List.set_cons_zero, List.set_cons_succ]
            refine' takeV 5 (oi := _) (d := _) (v := _) ?ti7 ?td7 (by kernel_rfl) (by kernel_rfl) (by kernel_rfl) (by kernel_rfl) (by decide) (fun _ _ _ _ _ h => h) ?tg7 ?ty7 (by assumption) ?tr7
            case ti7 => (simp only [List.getElem?_toArray, List.getElem?_cons_succ, List.getElem?_cons_zero]; rfl)
            case td7 => exact rfl
            case tg7 => exact rfl
            case ty7 => (intro w hSw; (try dsimp only at hSw); go_split_ands; go_simp; try with_reducible rfl)
            simp only [List.setIfInBounds_toArray, List.set_cons_zero, List.set_cons_succ]
            refine' takeV 6 (oi := _) (d := _) (v := _) ?ti8 ?td8 (by kernel_rfl) (by kernel_rfl) (by kernel_rfl) (by kernel_rfl) (by decide) (fun _ _ _ _ _ h => h) ?tg8 ?ty8 (by assumption) ?tr8
            case ti8 => (simp only [List.getElem?_toArray, List.getElem?_cons_succ, List.getElem?_cons_zero]; rfl)
            case td8 => exact rfl
            case tg8 => exact rfl
            case ty8 => (intro w hSw; (try dsimp only at hSw); go_split_ands; go_simp; try with_reducible rfl)
            simp only [List.setIfInBounds_toArray, List.set_cons_zero, List.set_cons_succ]
            obtain ⟨V0, hV0⟩ : ∃ V0, V0 = wr.drew := ⟨_, rfl⟩
            have B0 : Hid (Below wr.heap.size wr V0) := by rw [hV0]; exact (Below.refl _ _).drew
            rw [← hV0]
            clear hV0 hHeld
            have s0 := B0.out.size
            refine stepG 7 (by kernel_rfl) (by simp only [List.getElem?_toArray, List.getElem?_cons_succ, List.getElem?_cons_zero]; rfl) (fun K hK => ?_)
            go_simp
            refine (copyent_any A1 n1 c1 A2 n2 c2 L0 r0_ s0_ Ky Va _ (HRK.out.below B0.out) (HRV.out.below B0.out) hln.1 hln.2).mono ?_
            rintro e wm1 ⟨B1, d1, B2, d2, rfl, hown1, hown2, hb1⟩
            refine hK.out _ _ ?ts9 (fun hHeld => ?_)
            case ts9 => ((try dsimp only); exact TR.out _ ((HKM.out.below (B0.out.trans (hb1.mono s0)) HKM.out.lt).cell 2) ((B0.out.trans (hb1.mono s0)).mono (by omega)))
            clear hK K
            have BB1 := Lib.hid (B0.out.trans (hb1.mono s0))
            have s1 := BB1.out.size
            have hec : EC wm1 w1.heap.size (enC B1 n1 d1 B2 n2 d2 L0 r0_ s0_) (LL.getD q ent0) := by
              rw [HEN.out]
              exact ⟨B1, n1, d1, B2, n2, d2, rfl, hown1.mono (by omega), hown2.mono (by omega)⟩
            have HEC := Lib.hid hec
            clear hown1 hown2 hb1 hHeld hec
            refine stepG 8 (by kernel_rfl) (by simp only [List.getElem?_toArray, List.getElem?_cons_succ, List.getElem?_cons_zero]; rfl) (fun K hK => ?_)
            go_simp
            refine hK.out _ _ ?ts10 (fun hHeld => ?_)
            case ts10 => ((try dsimp only); exact TR.out _ ((HKM.out.below (BB1.out.alloc s1 _) HKM.out.lt).cell 2) ((BB1.out.alloc s1 _).mono (by omega)))
            clear hK K
            obtain ⟨V2, hV2⟩ : ∃ V2, V2 = wm1.alloc (.cells (enA B1 n1 d1 B2 n2 d2 L0 r0_ s0_) 46) := ⟨_, rfl⟩
            have KE : Hid (Blk V2 wm1.heap.size 46 (enC B1 n1 d1 B2 n2 d2 L0 r0_ s0_).toArray) := by rw [hV2]; exact Blk.new _ _ _
            have BB2 : Hid (Below wr.heap.size wr V2) := by rw [hV2]; exact BB1.out.alloc s1 _
            have HEC2 : Hid (EC V2 w1.heap.size (enC B1 n1 d1 B2 n2 d2 L0 r0_ s0_) (LL.getD q ent0)) := by rw [hV2]; exact HEC.out.below (below_new _ _)
            have s2 := BB2.out.size
            rw [← hV2] at hHeld ⊢
            clear hV2 HEC hHeld
            obtain ⟨css, hoe, hall⟩ := HO.out
            have HOE2 := Lib.hid (hoe.below BB2.out)
            have HALL2 : Hid (∀ j, j < q → EC V2 w1.heap.size (css.getD j []) (LL.getD j ent0)) := fun j hj => (hall j hj).below BB2.out
            have KM2 := Lib.hid (HKM.out.below BB2.out HKM.out.lt)
            clear hoe hall
            refine stepG 9 (by kernel_rfl) (by simp only [List.getElem?_toArray, List.getElem?_cons_succ, List.getElem?_cons_zero]; rfl) (fun K hK => ?_)
            refine step_appE 22 Try.underlying22 rfl (.tmp 45) (.tmp 52) rfl rfl rfl HOE2.out KE.out rfl (enC_one _ _ _ _ _ _ _ _ _) (by omega) (by omega) ?_
            intro A4 c4 w3 hown3 hg3 hb3
            refine hK.out _ _ ?ts11 (fun hHeld => ?_)
            case ts11 => ((try dsimp only); exact TR.out _ ((HOE2.out.keepBlk KM2.out (by decide) hg3).cell 2) ((BB2.out.mono (by omega)).trans hb3))
            clear hK K
            have HPU := Lib.hid (OwnN.push HOE2.out HALL2.out HEC2.out hown3 hg3)
            have KM3 := Lib.hid (HOE2.out.keepBlk KM2.out (by decide) hg3)
            have BB3 : Hid (Below w1.heap.size wr w3) := (BB2.out.mono (by omega)).trans hb3
            clear hown3 hg3 hb3
            refine stepG 10 (by kernel_rfl) (by simp only [List.getElem?_toArray, List.getElem?_cons_succ, List.getElem?_cons_zero]; rfl) (fun K hK => ?_)
            go_simp
            refine hK.out _ _ ?ts12 (fun hHeld => ?_)
            case ts12 => ((try dsimp only); exact hHeld)
            clear hK K
            have hfr : w3.frozen? ⟨w2.heap.size, 2, none⟩ = false := KM3.out.frozen 2
            refine stepGate 11 (by kernel_rfl) (by kernel_rfl) (by simp only [List.getElem?_toArray, List.getElem?_cons_succ, List.getElem?_cons_zero]; rfl) (fun K hK => ?_)
            go_simp
            refine hK.out _ _ ?_
            clear hK K
            refine doneG (by kernel_rfl) ?_ _
            clear hHeld
            go_wp2_with fail
            go_roundw
            case rel => exact ⟨j + 1, q + 1, c4, A4, by have := HJ.out; omega, by omega, by omega, by go_num, KM3.out.set_ 2 _, HPU.out.keptE KM3.out (by decide) (by decide) (grown_setCell _ _ _ _), (HWr.out.trans BB3.out).setCell hs2k _⟩
            case measure => first | (simp [intOf]; done) | (simp [intOf]; omega)
          · obtain rfl : j = n := by omega
            have hqm : q = m := by have := HMM.out; omega
            clear hjq hlt hj
            subst hqm
            have j1 : decide ((j : Int) < (j : Int)) = false := decide_eq_false (by omega)
            have KZ2 : Hid (Blk wr (w.heap.size + 1) 24 [Value.int .u8 0, .int .u8 0, .slice none 0 0].toArray) := KZ1.out.below HWr.out (by omega)
            have m0 := HKM.out.cell 0
            have m1 := HKM.out.cell 1
            have m2 := HKM.out.cell 2
            have hlz : [Value.int .u8 0, .int .u8 0, .slice none 0 0].length = [Value.int .u8 (k : Int), .int .u8 (l : Int), .slice A3 q c3].length := rfl
            have hiz : (Try.prog.info? 24).map (·.size) = some [Value.int .u8 (k : Int), .int .u8 (l : Int), .slice A3 q c3].length := infoNd
            have h1 : ∀ v ∈ [Value.int .u8 (k : Int), .int .u8 (l : Int), .slice A3 q c3], v.oneCell' = true := nd_one k l A3 q c3
            go_wp2_with (with_reducible refine wpList_store_blk rfl 24 (.tmp 4) (.tmp 55) rfl rfl (cs := [Value.int .u8 (k : Int), .int .u8 (l : Int), .slice A3 q c3]) rfl KZ2.out hlz hiz h1 ?_; intro w6 hk6 hg6)
            have e0 := hk6.cell 0
            have e1 := hk6.cell 1
            have e2 := hk6.cell 2
            refine bodyPost_ret (v := .tuple #[NdV k l A3 q c3, .int .i64 0]) ?_ rfl ?_
            · simp [results, Try.results30, go_sem, e0, e1, e2]
            · rw [HE0.out]
              refine OneP.some_ (HLQ.out.trans (mE_length k L).symm) ?_ ((HWw.out.trans (HWr.out.mono (by omega))).grown hg6 (by omega) (by intro q hq; simp at hq; omega))
              rw [HLE.out]
              exact (HO.out.keptE KZ2.out (by decide) (by decide) hg6).mono (by omega)
    · have hd : (E != 0) = true := by rw [bne_iff_ne]; exact he
      have HEN := Lib.hid he
      have KZ3 : Hid (Blk w1 (w.heap.size + 1) 24 [Value.int .u8 0, .int .u8 0, .slice none 0 0].toArray) := KZ.out.below HB1.out KZ.out.lt
      have hiz : (Try.prog.info? 24).map (·.size) = some [Value.int .u8 0, .int .u8 0, .slice none 0 0].length := infoNd
      have h1 : ∀ v ∈ [Value.int .u8 0, .int .u8 0, .slice none 0 0], v.oneCell' = true := nd_one 0 0 none 0 0
      have HX : Hid (Below w.heap.size w w1) := HWB.out.trans (HB1.out.mono sx)
      have sy := HX.out.size
      clear he
      go_wp2_with (with_reducible refine wpList_store_blk rfl 24 (.tmp 4) (.tmp 23) rfl rfl (cs := [Value.int .u8 0, .int .u8 0, .slice none 0 0]) rfl KZ3.out z3len hiz h1 ?_; intro w5 hk5 hg5)
      have e0 := hk5.cell 0
      have e1 := hk5.cell 1
      have e2 := hk5.cell 2
      refine bodyPost_ret (v := .tuple #[NdV 0 0 none 0 0, .int .i64 E]) ?_ rfl (OneP.none_ HEN.out (HX.out.grown hg5 sy (by intro q hq; simp at hq; omega)))
      simp [results, Try.results30, go_sem, e0, e1, e2]
end Go.Proofs.Ytgihcjmcefdkiaa
