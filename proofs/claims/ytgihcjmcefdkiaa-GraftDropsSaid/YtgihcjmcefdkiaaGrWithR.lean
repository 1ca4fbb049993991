/- Contracts: an entry put into a node, as the reference has it. -/
import Derived.Test.YtgihcjmcefdkiaaGrWith
set_option linter.unusedVariables false
set_option linter.unusedSimpArgs false
namespace Go.Proofs.Ytgihcjmcefdkiaa
open Go.RowKit

set_option maxRecDepth 100000 in
set_option maxHeartbeats 3200000 in
theorem refwith_any (k l : Nat) (A : Option Addr) (n c : Nat) (es : List Ent) (i : Int) (A1 : Option Addr) (n1 c1 : Nat) (A2 : Option Addr) (n2 c2 : Nat) (x : Ent) (w : World) (h : RdL w A n c es) (hk : k < 256) (hl : l < 256) (hN : n ≤ 9000) (hs : shortE es) (hi : i64In i)
    (h1 : Rd w A1 n1 c1 x.key) (h2 : Rd w A2 n2 c2 x.val) (hx1 : x.key.length ≤ 140737488355328) (hx2 : x.val.length ≤ 140737488355328) :
    Calls Try.prog 28 #[NdV k l A n c, .int .i64 i, EnV A1 n1 c1 A2 n2 c2 x.len x.chain x.child] w (OneP (withE k l es i x) k l (insE es i.toNat x) w) := by
  have hcap := h.cap
  have hmax := h.max
  unfold maxLen at hmax
  obtain ⟨hi1, hi2⟩ := hi
  have HLn := Lib.hid h.len
  have HS := Lib.hid hs
  obtain ⟨W, hW⟩ : ∃ W, W = ((w.alloc (.cells #[.int .u8 (k : Int), .int .u8 (l : Int), .slice A n c] 24)).alloc (.cells (enA A1 n1 c1 A2 n2 c2 x.len x.chain x.child) 46)).alloc (.cells #[.int .u8 0, .int .u8 0, .slice none 0 0] 24) := ⟨_, rfl⟩
  have HWB : Hid (Below w.heap.size w W) := by rw [hW]; exact ((below_new _ _).alloc (by simp) _).alloc (by simp; omega) _
  have KN : Hid (Blk W w.heap.size 24 (ndA k l A n c)) := by rw [hW]; exact ((Blk.new _ _ _).alloc _).alloc _
  have KX : Hid (Blk W (w.heap.size + 1) 46 (enC A1 n1 c1 A2 n2 c2 x.len x.chain x.child).toArray) := by rw [hW]; exact (Blk.new' _ _ _ _ (by simp)).alloc _
  have KZ : Hid (Blk W (w.heap.size + 1 + 1) 24 [Value.int .u8 0, .int .u8 0, .slice none 0 0].toArray) := by rw [hW]; exact Blk.new' _ _ _ _ (by simp)
  have HWs : Hid (W.heap.size = w.heap.size + 1 + 1 + 1) := by rw [hW, size_new, size_new, size_new]; rfl
  have HW := Lib.hid hW
  have hWs := KZ.out.lt
  have d0 : W.cell? ⟨w.heap.size, 0, none⟩ = some (.int .u8 (k : Int)) := KN.out.cell 0
  have d1 : W.cell? ⟨w.heap.size, 1, none⟩ = some (.int .u8 (l : Int)) := KN.out.cell 1
  have d2 : W.cell? ⟨w.heap.size, 2, none⟩ = some (.slice A n c) := KN.out.cell 2
  by_cases hbad : i < 0 ∨ (n : Int) < i
  · have HE : Hid (withE k l es i x = 2) := by show _ = _; rw [withE, if_pos (by rw [← HLn.out]; exact hbad)]
    rw [HE.out]
    rcases hbad with hb | hb
    · have e1 : decide (i < 0) = true := decide_eq_true hb
      clear h h1 h2 hs hW HE
      go_enter Try.func28, Try.ntmps28
      go_wp2_with fail
      rw [← HW.out]
      go_wp2_with fail
      have z0 := KZ.out.cell 0
      have z1 := KZ.out.cell 1
      have z2 := KZ.out.cell 2
      refine bodyPost_ret (v := .tuple #[NdV 0 0 none 0 0, .int .i64 2]) ?_ rfl (OneP.none_ (by decide) HWB.out)
      simp [results, Try.results28, go_sem, z0, z1, z2]
    · have e1 : decide (i < 0) = false := decide_eq_false (by omega)
      have e2 : decide (i > (n : Int)) = true := decide_eq_true (by omega)
      clear h h1 h2 hs hW HE
      go_enter Try.func28, Try.ntmps28
      go_wp2_with fail
      rw [← HW.out]
      go_wp2_with fail
      have z0 := KZ.out.cell 0
      have z1 := KZ.out.cell 1
      have z2 := KZ.out.cell 2
      refine bodyPost_ret (v := .tuple #[NdV 0 0 none 0 0, .int .i64 2]) ?_ rfl (OneP.none_ (by decide) HWB.out)
      simp [results, Try.results28, go_sem, z0, z1, z2]
  · obtain ⟨p, hp⟩ := Int.eq_ofNat_of_zero_le (a := i) (by omega)
    subst hp
    have hpn : p ≤ n := by omega
    have e1 : decide ((p : Int) < 0) = false := decide_eq_false (by omega)
    have e2 : decide (n < p) = false := decide_eq_false (by omega)
    obtain ⟨L, HL⟩ : ∃ L, Hid (insE es p x = L) := ⟨_, rfl⟩
    have HE : Hid (withE k l es (p : Int) x = rE k l L) := by
      show _ = _
      rw [withE, if_neg (by rw [← HLn.out]; omega), ← HL.out]; rfl
    have HLL : Hid (L.length = n + 1) := by show _ = _; rw [← HL.out, insE_length (by rw [← HLn.out]; exact hpn), ← HLn.out]
    obtain ⟨E, HEE⟩ : ∃ E, Hid (rE k l L = E) := ⟨_, rfl⟩
    rw [HE.out, HEE.out]
    have et : insE es ((p : Int)).toNat x = L := by rw [Int.toNat_natCast]; exact HL.out
    rw [et]
    have HAT : Hid (∀ j, L.getD j ent0 = if j < p then es.getD j ent0 else if j = p then x else es.getD (j - 1) ent0) := fun j => by
      rw [← HL.out]; exact insE_at (by rw [← HLn.out]; exact hpn) x j
    have HR := Lib.hid h
    have HR1 := Lib.hid h1
    have HR2 := Lib.hid h2
    have hln : n1 ≤ 140737488355328 ∧ n2 ≤ 140737488355328 := by rw [h1.len, h2.len]; exact ⟨hx1, hx2⟩
    clear h h1 h2 hs hW HE et hbad
    obtain ⟨W2, hW2⟩ : ∃ W2, W2 = W.alloc (.cells #[.int .u8 (k : Int), .int .u8 (l : Int), .slice none 0 0] 24) := ⟨_, rfl⟩
    have HWB2 : Hid (Below w.heap.size w W2) := by rw [hW2]; exact HWB.out.alloc HWB.out.size _
    have KN2 : Hid (Blk W2 w.heap.size 24 (ndA k l A n c)) := by rw [hW2]; exact KN.out.alloc _
    have KX2 : Hid (Blk W2 (w.heap.size + 1) 46 (enC A1 n1 c1 A2 n2 c2 x.len x.chain x.child).toArray) := by rw [hW2]; exact KX.out.alloc _
    have KZ2 : Hid (Blk W2 (w.heap.size + 1 + 1) 24 [Value.int .u8 0, .int .u8 0, .slice none 0 0].toArray) := by rw [hW2]; exact KZ.out.alloc _
    have KM2 : Hid (Blk W2 (w.heap.size + 1 + 1 + 1) 24 (ndA k l none 0 0)) := by rw [hW2]; exact Blk.new' _ _ _ _ HWs.out
    have HW2 := Lib.hid hW2
    have hWm := KM2.out.lt
    clear hW2 HWs
    go_enter Try.func28, Try.ntmps28
    go_wp2_with fail
    rw [← HW.out]
    go_wp2_with fail
    rw [← HW2.out]
    have hWn : w.heap.size < W2.heap.size := by omega
    have hWx : w.heap.size + 1 < W2.heap.size := by omega
    have hWb : w.heap.size ≤ W2.heap.size := by omega
    go_loopw [9] (fun z wr => ∃ (i q c2 : Nat) (A2 : Option Addr), i ≤ n + 1 ∧ z = .int .i64 (i : Int) ∧ ((i ≤ p ∧ q = i) ∨ (p < i ∧ i ≤ n ∧ q = i + 1) ∨ (i = n + 1 ∧ q = n + 1)) ∧ Blk wr (w.heap.size + 1 + 1 + 1) 24 (ndA k l A2 q c2) ∧ OwnN wr W2.heap.size A2 q c2 L ∧ Below (w.heap.size + 1 + 1 + 1) W2 wr) (fun z _ => n + 1 - (intOf z).toNat)
    case atStart => exact ⟨0, 0, 0, none, Nat.zero_le _, rfl, .inl ⟨Nat.zero_le _, rfl⟩, KM2.out, OwnN.nil _ _ _, Below.refl _ _⟩
    case round =>
      obtain ⟨i, q, c3, A3, hi, rfl, hq, hkm, hown, hbel⟩ := hrel
      have HKM := Lib.hid hkm
      have HO := Lib.hid hown
      have HBE := Lib.hid hbel
      have hbs := hbel.size
      have KNr := Lib.hid (KN2.out.below hbel (by omega))
      have KXr := Lib.hid (KX2.out.below hbel (by omega))
      have HWr : Hid (Below w.heap.size w wr) := HWB2.out.trans (HBE.out.mono (by omega))
      have dn : wr.cell? ⟨w.heap.size, 2, none⟩ = some (.slice A n c) := KNr.out.cell 2
      have HQQ := Lib.hid hq
      clear hkm hown hbel hq
      by_cases hin : i ≤ n
      · have j0 : decide ((i : Int) ≤ (n : Int)) = true := decide_eq_true (by omega)
        rcases Nat.lt_trichotomy i p with hip | hip | hip
        · have j1 : ((i : Int) == (p : Int)) = false := by rw [beq_eq_false_iff_ne]; omega
          have hlt : i < n := by omega
          have j2 : decide ((i : Int) < (n : Int)) = true := decide_eq_true (by omega)
          have hqe : i = q := by have := HQQ.out; omega
          have HQ : Hid (L.getD i ent0 = es.getD i ent0) := by show _ = _; rw [HAT.out i, if_pos hip]
          subst hqe
          go_upto_region 10 with fail
          clear dn
          obtain ⟨b, o, A1, n1, c1, A2, n2, c2, L0, r0_, s0_, Ky, Va, rfl, hat, hrk, hrv, hent⟩ := HR.out.pair i hlt
          have hatr := hat.below HWr.out
          have hbl := hat.lt
          have HRK := Lib.hid (hrk.below HWr.out)
          have HRV := Lib.hid (hrv.below HWr.out)
          have HEN : Hid (L.getD i ent0 = ⟨Ky, Va, L0, r0_, s0_⟩) := by show _ = _; rw [HQ.out]; exact hent
          have hln : n1 ≤ 140737488355328 ∧ n2 ≤ 140737488355328 := by
            have := HS.out i (by rw [← HLn.out]; exact hlt)
            rw [hent] at this
            rw [hrk.len, hrv.len]
            exact this
          have i1 : (0 : Int) ≤ (i : Int) := by omega
          have i2 : (i : Int) < (n : Int) := by omega
          have TR : Hid (∀ V, Below W2.heap.size wr V → (fun V => V.cell? ⟨w.heap.size + 1 + 1 + 1, 2, none⟩ = some (.slice A3 i c3) ∧ V.cell? ⟨w.heap.size, 2, none⟩ = some (.slice (some ⟨b, o, none⟩) n c) ∧ V.cell? ⟨b, o + i * 9, none⟩ = some (.slice A1 n1 c1) ∧ V.cell? ⟨b, o + i * 9 + 1, none⟩ = some (.slice A2 n2 c2) ∧ V.cell? ⟨b, o + i * 9 + 2, none⟩ = some (.int .i64 L0) ∧ V.cell? ⟨b, o + i * 9 + 3, none⟩ = some (.int .u32 (r0_.1 : Int)) ∧ V.cell? ⟨b, o + i * 9 + 4, none⟩ = some (.int .u64 (r0_.2.1 : Int)) ∧ V.cell? ⟨b, o + i * 9 + 5, none⟩ = some (.int .u16 (r0_.2.2 : Int)) ∧ V.cell? ⟨b, o + i * 9 + 6, none⟩ = some (.int .u32 (s0_.1 : Int)) ∧ V.cell? ⟨b, o + i * 9 + 7, none⟩ = some (.int .u64 (s0_.2.1 : Int)) ∧ V.cell? ⟨b, o + i * 9 + 8, none⟩ = some (.int .u16 (s0_.2.2 : Int)) ∧ Below W2.heap.size wr V) V) := fun V hb => by
            have k2 := HKM.out.below hb (by omega)
            have k1 := hatr.keep (hb.block b (by omega))
            have k3 := KNr.out.below hb (by omega)
            exact ⟨k2.cell 2, k3.cell 2, k1.c0, k1.c1, k1.c2, k1.c3, k1.c4, k1.c5, k1.c6, k1.c7, k1.c8, hb⟩
          have d2 : wr.cell? ⟨w.heap.size, 2, none⟩ = some (.slice (some ⟨b, o, none⟩) n c) := KNr.out.cell 2
          clear hat hatr hrk hrv hent
          go_wp2_with fail
          clear d2
          refine region_gate 11 (fun V => V.cell? ⟨w.heap.size + 1 + 1 + 1, 2, none⟩ = some (.slice A3 i c3) ∧ V.cell? ⟨w.heap.size, 2, none⟩ = some (.slice (some ⟨b, o, none⟩) n c) ∧ V.cell? ⟨b, o + i * 9, none⟩ = some (.slice A1 n1 c1) ∧ V.cell? ⟨b, o + i * 9 + 1, none⟩ = some (.slice A2 n2 c2) ∧ V.cell? ⟨b, o + i * 9 + 2, none⟩ = some (.int .i64 L0) ∧ V.cell? ⟨b, o + i * 9 + 3, none⟩ = some (.int .u32 (r0_.1 : Int)) ∧ V.cell? ⟨b, o + i * 9 + 4, none⟩ = some (.int .u64 (r0_.2.1 : Int)) ∧ V.cell? ⟨b, o + i * 9 + 5, none⟩ = some (.int .u16 (r0_.2.2 : Int)) ∧ V.cell? ⟨b, o + i * 9 + 6, none⟩ = some (.int .u32 (s0_.1 : Int)) ∧ V.cell? ⟨b, o + i * 9 + 7, none⟩ = some (.int .u64 (s0_.2.1 : Int)) ∧ V.cell? ⟨b, o + i * 9 + 8, none⟩ = some (.int .u16 (s0_.2.2 : Int)) ∧ Below W2.heap.size wr V) (by kernel_rfl) ?th1 (fun hHeld => ?tk1)
          case th1 => ((try dsimp only); exact TR.out _ (Below.refl _ _).drew)
          refine' takeV 0 (oi := _) (d := _) (v := _) ?ti2 ?td2 (by kernel_rfl) (by kernel_rfl) (by kernel_rfl) (by kernel_rfl) (by decide) (fun _ _ _ _ _ h => h) ?tg2 ?ty2 (by assumption) ?tr2
          case ti2 => (simp only [List.getElem?_toArray, List.getElem?_cons_succ, List.getElem?_cons_zero]; rfl)
          case td2 => exact rfl
          case tg2 => exact rfl
          case ty2 => (intro w hSw; (try dsimp only at hSw); go_split_ands; go_simp; try with_reducible rfl)
          simp only [List.setIfInBounds_toArray, List.set_cons_zero, List.set_cons_succ]
          refine' takeV 1 (oi := _) (d := _) (v := _) ?ti3 ?td3 (by kernel_rfl) (by kernel_rfl) (by kernel_rfl) (by kernel_rfl) (by decide) (fun _ _ _ _ _ h => h) ?tg3 ?ty3 (by assumption) ?tr3
          case ti3 => (simp only [List.getElem?_toArray, List.getElem?_cons_succ, List.getElem?_cons_zero]; rfl)
          case td3 => exact rfl
          case tg3 => exact rfl
          case ty3 => (intro w hSw; (try dsimp only at hSw); go_split_ands; go_simp; try with_reducible rfl)
          simp only [List.setIfInBounds_toArray, List.set_cons_zero, List.set_cons_succ]
          refine' takeV 2 (oi := _) (d := _) (v := _) ?ti4 ?td4 (by kernel_rfl) (by kernel_rfl) (by kernel_rfl) (by kernel_rfl) (by decide) (fun _ _ _ _ _ h => h) ?tg4 ?ty4 (by assumption) ?tr4
          case ti4 => (simp only [List.getElem?_toArray, List.getElem?_cons_succ, List.getElem?_cons_zero]; rfl)
          case td4 => exact rfl
          case tg4 => exact rfl
          case ty4 => (intro w hSw; (try dsimp only at hSw); go_split_ands; go_simp; try with_reducible rfl)
          simp only [List.setIfInBounds_toArray, List.set_cons_zero, List.set_cons_succ]
          refine' takeV 3 (oi := _) (d := _) (v := _) ?ti5 ?td5 (by kernel_rfl) (by kernel_rfl) (by kernel_rfl) (by kernel_rfl) (by decide) (fun _ _ _ _ _ h => h) ?tg5 ?ty5 (by assumption) ?tr5
          case ti5 => (simp only [List.getElem?_toArray, List.getElem?_cons_succ, List.getElem?_cons_zero]; rfl)
          case td5 => exact rfl
          case tg5 => exact rfl
          case ty5 => (intro w hSw; (try dsimp only at hSw); go_split_ands; go_simp; try with_reducible rfl)
          simp only [List.setIfInBounds_toArray, List.set_cons_zero, List.set_cons_succ]
          refine' takeV 4 (oi := _) (d := _) (v := _) ?ti6 ?td6 (by kernel_rfl) (by kernel_rfl) (by kernel_rfl) (by kernel_rfl) (by decide) (fun _ _ _ _ _ h => h) ?tg6 ?ty6 (by assumption) ?tr6
          case ti6 => (simp only [List.getElem?_toArray, List.getElem?_cons_succ, List.getElem?_cons_zero]; rfl)
          case td6 => exact rfl
          case tg6 => exact rfl
          case ty6 => (intro w hSw; (try dsimp only at hSw); go_split_ands; go_simp; try with_reducible rfl)
          simp only [List.setIfInBounds_toArray, List.set_cons_zero, List.set_cons_succ]
          refine' takeV 5 (oi := _) (d := _) (v := _) ?ti7 ?td7 (by kernel_rfl) (by kernel_rfl) (by kernel_rfl) (by kernel_rfl) (by decide) (fun _ _ _ _ _ h => h) ?tg7 ?ty7 (by assumption) ?tr7
          case ti7 => (simp only [List.getElem?_toArray, List.getElem?_cons_succ, List.getElem?_cons_zero]; rfl)
          case td7 => exact rfl
          case tg7 => exact rfl
          case ty7 => (intro w hSw; (try dsimp only at hSw); go_split_ands; go_simp; try with_reducible rfl)
          simp only [List.setIfInBounds_toArray, List.set_cons_zero, List.set_cons_succ]
          refine' takeV 6 (oi := _) (d := _) (v := _) ?ti8 ?td8 (by kernel_rfl) (by kernel_rfl) (by kernel_rfl) (by kernel_rfl) (by decide) (fun _ _ _ _ _ h => h) ?tg8 ?ty8 (by assumption) ?tr8
          case ti8 => (simp only [List.getElem?_toArray, List.getElem?_cons_succ, List.getElem?_cons_zero]; rfl)
          case td8 => exact rfl
          case tg8 => exact rfl
          case ty8 => (intro w hSw; (try dsimp only at hSw); go_split_ands; go_simp; try with_reducible rfl)
          simp only [List.setIfInBounds_toArray, List.set_cons_zero, List.set_cons_succ]
          obtain ⟨V0, hV0⟩ : ∃ V0, V0 = wr.drew := ⟨_, rfl⟩
          have B0 : Hid (Below wr.heap.size wr V0) := by rw [hV0]; exact (Below.refl _ _).drew
          rw [← hV0]
          clear hV0 hHeld
          have s0 := B0.out.size
          refine stepG 7 (by kernel_rfl) (by simp only [List.getElem?_toArray, List.getElem?_cons_succ, List.getElem?_cons_zero]; rfl) (fun K hK => ?_)
          go_simp
          refine (copyent_any A1 n1 c1 A2 n2 c2 L0 r0_ s0_ Ky Va _ (HRK.out.below B0.out) (HRV.out.below B0.out) hln.1 hln.2).mono ?_
          rintro e w1 ⟨B1, d1, B2, d2, rfl, hown1, hown2, hb1⟩
          refine hK.out _ _ ?ts9 (fun hHeld => ?_)
          case ts9 => ((try dsimp only); exact TR.out _ ((B0.out.trans (hb1.mono s0)).mono (by omega)))
          clear hK K
          have BB1 := Lib.hid (B0.out.trans (hb1.mono s0))
          have s1 := BB1.out.size
          have hec : EC w1 W2.heap.size (enC B1 n1 d1 B2 n2 d2 L0 r0_ s0_) (L.getD i ent0) := by
            rw [HEN.out]
            exact ⟨B1, n1, d1, B2, n2, d2, rfl, hown1.mono (by omega), hown2.mono (by omega)⟩
          have HEC := Lib.hid hec
          clear hown1 hown2 hb1 hHeld hec
          refine stepG 8 (by kernel_rfl) (by simp only [List.getElem?_toArray, List.getElem?_cons_succ, List.getElem?_cons_zero]; rfl) (fun K hK => ?_)
          go_simp
          refine hK.out _ _ ?ts10 (fun hHeld => ?_)
          case ts10 => ((try dsimp only); exact TR.out _ ((BB1.out.alloc s1 _).mono (by omega)))
          clear hK K
          obtain ⟨V2, hV2⟩ : ∃ V2, V2 = w1.alloc (.cells (enA B1 n1 d1 B2 n2 d2 L0 r0_ s0_) 46) := ⟨_, rfl⟩
          have KE : Hid (Blk V2 w1.heap.size 46 (enC B1 n1 d1 B2 n2 d2 L0 r0_ s0_).toArray) := by rw [hV2]; exact Blk.new _ _ _
          have BB2 : Hid (Below wr.heap.size wr V2) := by rw [hV2]; exact BB1.out.alloc s1 _
          have HEC2 : Hid (EC V2 W2.heap.size (enC B1 n1 d1 B2 n2 d2 L0 r0_ s0_) (L.getD i ent0)) := by rw [hV2]; exact HEC.out.below (below_new _ _)
          have s2 := BB2.out.size
          rw [← hV2] at hHeld ⊢
          clear hV2 HEC hHeld
          obtain ⟨css, hoe, hall⟩ := HO.out
          have HOE2 := Lib.hid (hoe.below BB2.out)
          have HALL2 : Hid (∀ j, j < i → EC V2 W2.heap.size (css.getD j []) (L.getD j ent0)) := fun j hj => (hall j hj).below BB2.out
          have KM2 := Lib.hid (HKM.out.below BB2.out HKM.out.lt)
          clear hoe hall
          refine stepG 9 (by kernel_rfl) (by simp only [List.getElem?_toArray, List.getElem?_cons_succ, List.getElem?_cons_zero]; rfl) (fun K hK => ?_)
          refine step_appE 22 Try.underlying22 rfl (.tmp 49) (.tmp 56) rfl rfl rfl HOE2.out KE.out rfl (enC_one _ _ _ _ _ _ _ _ _) (by omega) (by omega) ?_
          intro A4 c4 w3 hown3 hg3 hb3
          refine hK.out _ _ ?ts11 (fun hHeld => ?_)
          case ts11 => ((try dsimp only); exact TR.out _ ((BB2.out.mono (by omega)).trans hb3))
          clear hK K
          have HPU := Lib.hid (OwnN.push HOE2.out HALL2.out HEC2.out hown3 hg3)
          have KM3 := Lib.hid (HOE2.out.keepBlk KM2.out (by decide) hg3)
          have BB3 : Hid (Below W2.heap.size wr w3) := (BB2.out.mono (by omega)).trans hb3
          clear hown3 hg3 hb3
          refine stepG 10 (by kernel_rfl) (by simp only [List.getElem?_toArray, List.getElem?_cons_succ, List.getElem?_cons_zero]; rfl) (fun K hK => ?_)
          go_simp
          refine hK.out _ _ ?ts12 (fun hHeld => ?_)
          case ts12 => ((try dsimp only); exact hHeld)
          clear hK K
          have hfr : w3.frozen? ⟨w.heap.size + 1 + 1 + 1, 2, none⟩ = false := KM3.out.frozen 2
          refine stepGate 11 (by kernel_rfl) (by kernel_rfl) (by simp only [List.getElem?_toArray, List.getElem?_cons_succ, List.getElem?_cons_zero]; rfl) (fun K hK => ?_)
          go_simp
          refine hK.out _ _ ?_
          clear hK K
          refine doneG (by kernel_rfl) ?_ _
          clear hHeld
          go_wp2_with fail
          go_roundw
          case rel => exact ⟨i + 1, i + 1, c4, A4, by omega, by go_num, .inl ⟨by omega, rfl⟩, KM3.out.set_ 2 _, HPU.out.keptE KM3.out (by decide) (by decide) (grown_setCell _ _ _ _), (HBE.out.trans (BB3.out.mono (by omega))).setCell (Nat.le_refl _) _⟩
          case measure => first | (simp [intOf]; done) | (simp [intOf]; omega)
        · subst hip
          have hqe : i = q := by have := HQQ.out; omega
          subst hqe
          have HQ : Hid (L.getD i ent0 = x) := by show _ = _; rw [HAT.out i, if_neg (by omega), if_pos rfl]
          have HRK := Lib.hid (HR1.out.below HWr.out)
          have HRV := Lib.hid (HR2.out.below HWr.out)
          have j1 : ((i : Int) == (i : Int)) = true := beq_self_eq_true _
          go_upto_region 8 with fail
          have TR : Hid (∀ V, Below W2.heap.size wr V → (fun V => V.cell? ⟨w.heap.size + 1 + 1 + 1, 2, none⟩ = some (.slice A3 i c3) ∧ V.cell? ⟨w.heap.size + 1, 0, none⟩ = some (.slice A1 n1 c1) ∧ V.cell? ⟨w.heap.size + 1, 1, none⟩ = some (.slice A2 n2 c2) ∧ V.cell? ⟨w.heap.size + 1, 2, none⟩ = some (.int .i64 x.len) ∧ V.cell? ⟨w.heap.size + 1, 3, none⟩ = some (.int .u32 (x.chain.1 : Int)) ∧ V.cell? ⟨w.heap.size + 1, 4, none⟩ = some (.int .u64 (x.chain.2.1 : Int)) ∧ V.cell? ⟨w.heap.size + 1, 5, none⟩ = some (.int .u16 (x.chain.2.2 : Int)) ∧ V.cell? ⟨w.heap.size + 1, 6, none⟩ = some (.int .u32 (x.child.1 : Int)) ∧ V.cell? ⟨w.heap.size + 1, 7, none⟩ = some (.int .u64 (x.child.2.1 : Int)) ∧ V.cell? ⟨w.heap.size + 1, 8, none⟩ = some (.int .u16 (x.child.2.2 : Int)) ∧ Below W2.heap.size wr V) V) := fun V hb => by
            have k2 := HKM.out.below hb (by omega)
            have k1 := KXr.out.below hb (by omega)
            exact ⟨k2.cell 2, k1.cell 0, k1.cell 1, k1.cell 2, k1.cell 3, k1.cell 4, k1.cell 5, k1.cell 6, k1.cell 7, k1.cell 8, hb⟩
          go_wp2_with fail
          refine region_gate 7 (fun V => V.cell? ⟨w.heap.size + 1 + 1 + 1, 2, none⟩ = some (.slice A3 i c3) ∧ V.cell? ⟨w.heap.size + 1, 0, none⟩ = some (.slice A1 n1 c1) ∧ V.cell? ⟨w.heap.size + 1, 1, none⟩ = some (.slice A2 n2 c2) ∧ V.cell? ⟨w.heap.size + 1, 2, none⟩ = some (.int .i64 x.len) ∧ V.cell? ⟨w.heap.size + 1, 3, none⟩ = some (.int .u32 (x.chain.1 : Int)) ∧ V.cell? ⟨w.heap.size + 1, 4, none⟩ = some (.int .u64 (x.chain.2.1 : Int)) ∧ V.cell? ⟨w.heap.size + 1, 5, none⟩ = some (.int .u16 (x.chain.2.2 : Int)) ∧ V.cell? ⟨w.heap.size + 1, 6, none⟩ = some (.int .u32 (x.child.1 : Int)) ∧ V.cell? ⟨w.heap.size + 1, 7, none⟩ = some (.int .u64 (x.child.2.1 : Int)) ∧ V.cell? ⟨w.heap.size + 1, 8, none⟩ = some (.int .u16 (x.child.2.2 : Int)) ∧ Below W2.heap.size wr V) (by kernel_rfl) ?th13 (fun hHeld => ?tk13)
          case th13 => ((try dsimp only); exact TR.out _ (Below.refl _ _).drew)
          refine' takeV 0 (oi := _) (d := _) (v := _) ?ti14 ?td14 (by kernel_rfl) (by kernel_rfl) (by kernel_rfl) (by kernel_rfl) (by decide) (fun _ _ _ _ _ h => h) ?tg14 ?ty14 (by assumption) ?tr14
          case ti14 => (simp only [List.getElem?_toArray, List.getElem?_cons_succ, List.getElem?_cons_zero]; rfl)
          case td14 => exact rfl
          case tg14 => exact rfl
          case ty14 => (intro w hSw; (try dsimp only at hSw); go_split_ands; go_simp; try with_reducible rfl)
          simp only [List.setIfInBounds_toArray, List.set_cons_zero, List.set_cons_succ]
          refine' takeV 1 (oi := _) (d := _) (v := _) ?ti15 ?td15 (by kernel_rfl) (by kernel_rfl) (by kernel_rfl) (by kernel_rfl) (by decide) (fun _ _ _ _ _ h => h) ?tg15 ?ty15 (by assumption) ?tr15
          case ti15 => (simp only [List.getElem?_toArray, List.getElem?_cons_succ, List.getElem?_cons_zero]; rfl)
          case td15 => exact rfl
          case tg15 => exact rfl
          case ty15 => (intro w hSw; (try dsimp only at hSw); go_split_ands; go_simp; try with_reducible rfl)
          simp only [List.setIfInBounds_toArray, List.set_cons_zero, List.set_cons_succ]
          refine' takeV 2 (oi := _) (d := _) (v := _) ?ti16 ?td16 (by kernel_rfl) (by kernel_rfl) (by kernel_rfl) (by kernel_rfl) (by decide) (fun _ _ _ _ _ h => h) ?tg16 ?ty16 (by assumption) ?tr16
          case ti16 => (simp only [List.getElem?_toArray, List.getElem?_cons_succ, List.getElem?_cons_zero]; rfl)
          case td16 => exact rfl
          case tg16 => exact rfl
          case ty16 => (intro w hSw; (try dsimp only at hSw); go_split_ands; go_simp; try with_reducible rfl)
          simp only [List.setIfInBounds_toArray, List.set_cons_zero, List.set_cons_succ]
          obtain ⟨V0, hV0⟩ : ∃ V0, V0 = wr.drew := ⟨_, rfl⟩
          have B0 : Hid (Below wr.heap.size wr V0) := by rw [hV0]; exact (Below.refl _ _).drew
          rw [← hV0]
          clear hV0 hHeld
          have s0 := B0.out.size
          refine stepG 3 (by kernel_rfl) (by simp only [List.getElem?_toArray, List.getElem?_cons_succ, List.getElem?_cons_zero]; rfl) (fun K hK => ?_)
          go_simp
          refine (copyent_any A1 n1 c1 A2 n2 c2 x.len x.chain x.child x.key x.val _ (HRK.out.below B0.out) (HRV.out.below B0.out) hln.1 hln.2).mono ?_
          rintro e w1 ⟨B1, d1, B2, d2, rfl, hown1, hown2, hb1⟩
          refine hK.out _ _ ?ts17 (fun hHeld => ?_)
          case ts17 => ((try dsimp only); exact TR.out _ ((B0.out.trans (hb1.mono s0)).mono (by omega)))
          clear hK K
          have BB1 := Lib.hid (B0.out.trans (hb1.mono s0))
          have s1 := BB1.out.size
          have hec : EC w1 W2.heap.size (enC B1 n1 d1 B2 n2 d2 x.len x.chain x.child) (L.getD i ent0) := by
            rw [HQ.out]
            exact ⟨B1, n1, d1, B2, n2, d2, rfl, hown1.mono (by omega), hown2.mono (by omega)⟩
          have HEC := Lib.hid hec
          clear hown1 hown2 hb1 hHeld hec
          refine stepG 4 (by kernel_rfl) (by simp only [List.getElem?_toArray, List.getElem?_cons_succ, List.getElem?_cons_zero]; rfl) (fun K hK => ?_)
          go_simp
          refine hK.out _ _ ?ts18 (fun hHeld => ?_)
          case ts18 => ((try dsimp only); exact TR.out _ ((BB1.out.alloc s1 _).mono (by omega)))
          clear hK K
          obtain ⟨V2, hV2⟩ : ∃ V2, V2 = w1.alloc (.cells (enA B1 n1 d1 B2 n2 d2 x.len x.chain x.child) 46) := ⟨_, rfl⟩
          have KE : Hid (Blk V2 w1.heap.size 46 (enC B1 n1 d1 B2 n2 d2 x.len x.chain x.child).toArray) := by rw [hV2]; exact Blk.new _ _ _
          have BB2 : Hid (Below wr.heap.size wr V2) := by rw [hV2]; exact BB1.out.alloc s1 _
          have HEC2 : Hid (EC V2 W2.heap.size (enC B1 n1 d1 B2 n2 d2 x.len x.chain x.child) (L.getD i ent0)) := by rw [hV2]; exact HEC.out.below (below_new _ _)
          have s2 := BB2.out.size
          rw [← hV2] at hHeld ⊢
          clear hV2 HEC hHeld
          obtain ⟨css, hoe, hall⟩ := HO.out
          have HOE2 := Lib.hid (hoe.below BB2.out)
          have HALL2 : Hid (∀ j, j < i → EC V2 W2.heap.size (css.getD j []) (L.getD j ent0)) := fun j hj => (hall j hj).below BB2.out
          have KM2 := Lib.hid (HKM.out.below BB2.out HKM.out.lt)
          clear hoe hall
          refine stepG 5 (by kernel_rfl) (by simp only [List.getElem?_toArray, List.getElem?_cons_succ, List.getElem?_cons_zero]; rfl) (fun K hK => ?_)
          refine step_appE 22 Try.underlying22 rfl (.tmp 37) (.tmp 40) rfl rfl rfl HOE2.out KE.out rfl (enC_one _ _ _ _ _ _ _ _ _) (by omega) (by omega) ?_
          intro A4 c4 w3 hown3 hg3 hb3
          refine hK.out _ _ ?ts19 (fun hHeld => ?_)
          case ts19 => ((try dsimp only); exact TR.out _ ((BB2.out.mono (by omega)).trans hb3))
          clear hK K
          have HPU := Lib.hid (OwnN.push HOE2.out HALL2.out HEC2.out hown3 hg3)
          have KM3 := Lib.hid (HOE2.out.keepBlk KM2.out (by decide) hg3)
          have BB3 : Hid (Below W2.heap.size wr w3) := (BB2.out.mono (by omega)).trans hb3
          clear hown3 hg3 hb3
          refine stepG 6 (by kernel_rfl) (by simp only [List.getElem?_toArray, List.getElem?_cons_succ, List.getElem?_cons_zero]; rfl) (fun K hK => ?_)
          go_simp
          refine hK.out _ _ ?ts20 (fun hHeld => ?_)
          case ts20 => ((try dsimp only); exact hHeld)
          clear hK K
          have hfr : w3.frozen? ⟨w.heap.size + 1 + 1 + 1, 2, none⟩ = false := KM3.out.frozen 2
          refine stepGate 7 (by kernel_rfl) (by kernel_rfl) (by simp only [List.getElem?_toArray, List.getElem?_cons_succ, List.getElem?_cons_zero]; rfl) (fun K hK => ?_)
          go_simp
          refine hK.out _ _ ?_
          clear hK K
          refine doneG (by kernel_rfl) ?_ _
          clear hHeld
          have HBm : Hid (Below (w.heap.size + 1 + 1 + 1) W2 (w3.setCell ⟨w.heap.size + 1 + 1 + 1, 2, none⟩ (.slice A4 (i + 1) c4))) := (HBE.out.trans (BB3.out.mono (by omega))).setCell (Nat.le_refl _) _
          have HKm := Lib.hid (KM3.out.set_ 2 (.slice A4 (i + 1) c4))
          have HOm := Lib.hid (HPU.out.keptE KM3.out (by decide) (by decide) (grown_setCell w3 (w.heap.size + 1 + 1 + 1) 2 (.slice A4 (i + 1) c4)))
          by_cases hlt : i < n
          · have j2 : decide ((i : Int) < (n : Int)) = true := decide_eq_true (by omega)
            have dn3 : w3.cell? ⟨w.heap.size, 2, none⟩ = some (.slice A n c) := (KN2.out.below (HBE.out.trans (BB3.out.mono (by omega))) (by omega)).cell 2
            clear dn
            go_upto_region 10 with fail
            clear dn3 hfr
            obtain ⟨wq, hwq⟩ : ∃ wq, wq = w3.setCell ⟨w.heap.size + 1 + 1 + 1, 2, none⟩ (.slice A4 (i + 1) c4) := ⟨_, rfl⟩
            rw [← hwq] at HBm HKm HOm ⊢
            have HKM2 := HKm
            have hbsq := HBm.out.size
            have KNq := Lib.hid (KN2.out.below HBm.out (by omega))
            have HWq : Hid (Below w.heap.size w wq) := HWB2.out.trans (HBm.out.mono (by omega))
            have HQ2 : Hid (L.getD (i + 1) ent0 = es.getD i ent0) := by show _ = _; rw [HAT.out (i + 1), if_neg (by omega), if_neg (by omega)]; rfl
            clear hwq HKM HO HBE KNr KXr HWr HQ HRK HRV HPU KM3 BB3 TR HEC2 HOE2 HALL2 KM2 KE BB2 BB1 B0 hbs hcap s0 s1 s2
            have HKM := Lib.hid HKm.out
            have HO := Lib.hid HOm.out
            have KNr := KNq
            have HWr := HWq
            have hbs : W2.heap.size ≤ wq.heap.size := hbsq
            have HQ := HQ2
            clear HKm HOm KNq HWq HQ2 HKM2 hbsq
            obtain ⟨b, o, A1, n1, c1, A2, n2, c2, L0, r0_, s0_, Ky, Va, rfl, hat, hrk, hrv, hent⟩ := HR.out.pair i hlt
            have hatr := hat.below HWr.out
            have hbl := hat.lt
            have HRK := Lib.hid (hrk.below HWr.out)
            have HRV := Lib.hid (hrv.below HWr.out)
            have HEN : Hid (L.getD (i + 1) ent0 = ⟨Ky, Va, L0, r0_, s0_⟩) := by show _ = _; rw [HQ.out]; exact hent
            have hln : n1 ≤ 140737488355328 ∧ n2 ≤ 140737488355328 := by
              have := HS.out i (by rw [← HLn.out]; exact hlt)
              rw [hent] at this
              rw [hrk.len, hrv.len]
              exact this
            have i1 : (0 : Int) ≤ (i : Int) := by omega
            have i2 : (i : Int) < (n : Int) := by omega
            have TR : Hid (∀ V, Below W2.heap.size wq V → (fun V => V.cell? ⟨w.heap.size + 1 + 1 + 1, 2, none⟩ = some (.slice A4 (i + 1) c4) ∧ V.cell? ⟨w.heap.size, 2, none⟩ = some (.slice (some ⟨b, o, none⟩) n c) ∧ V.cell? ⟨b, o + i * 9, none⟩ = some (.slice A1 n1 c1) ∧ V.cell? ⟨b, o + i * 9 + 1, none⟩ = some (.slice A2 n2 c2) ∧ V.cell? ⟨b, o + i * 9 + 2, none⟩ = some (.int .i64 L0) ∧ V.cell? ⟨b, o + i * 9 + 3, none⟩ = some (.int .u32 (r0_.1 : Int)) ∧ V.cell? ⟨b, o + i * 9 + 4, none⟩ = some (.int .u64 (r0_.2.1 : Int)) ∧ V.cell? ⟨b, o + i * 9 + 5, none⟩ = some (.int .u16 (r0_.2.2 : Int)) ∧ V.cell? ⟨b, o + i * 9 + 6, none⟩ = some (.int .u32 (s0_.1 : Int)) ∧ V.cell? ⟨b, o + i * 9 + 7, none⟩ = some (.int .u64 (s0_.2.1 : Int)) ∧ V.cell? ⟨b, o + i * 9 + 8, none⟩ = some (.int .u16 (s0_.2.2 : Int)) ∧ Below W2.heap.size wq V) V) := fun V hb => by
              have k2 := HKM.out.below hb (by omega)
              have k1 := hatr.keep (hb.block b (by omega))
              have k3 := KNr.out.below hb (by omega)
              exact ⟨k2.cell 2, k3.cell 2, k1.c0, k1.c1, k1.c2, k1.c3, k1.c4, k1.c5, k1.c6, k1.c7, k1.c8, hb⟩
            have d2 : wq.cell? ⟨w.heap.size, 2, none⟩ = some (.slice (some ⟨b, o, none⟩) n c) := KNr.out.cell 2
            clear hat hatr hrk hrv hent
            go_wp2_with fail
            clear d2
            refine region_gate 11 (fun V => V.cell? ⟨w.heap.size + 1 + 1 + 1, 2, none⟩ = some (.slice A4 (i + 1) c4) ∧ V.cell? ⟨w.heap.size, 2, none⟩ = some (.slice (some ⟨b, o, none⟩) n c) ∧ V.cell? ⟨b, o + i * 9, none⟩ = some (.slice A1 n1 c1) ∧ V.cell? ⟨b, o + i * 9 + 1, none⟩ = some (.slice A2 n2 c2) ∧ V.cell? ⟨b, o + i * 9 + 2, none⟩ = some (.int .i64 L0) ∧ V.cell? ⟨b, o + i * 9 + 3, none⟩ = some (.int .u32 (r0_.1 : Int)) ∧ V.cell? ⟨b, o + i * 9 + 4, none⟩ = some (.int .u64 (r0_.2.1 : Int)) ∧ V.cell? ⟨b, o + i * 9 + 5, none⟩ = some (.int .u16 (r0_.2.2 : Int)) ∧ V.cell? ⟨b, o + i * 9 + 6, none⟩ = some (.int .u32 (s0_.1 : Int)) ∧ V.cell? ⟨b, o + i * 9 + 7, none⟩ = some (.int .u64 (s0_.2.1 : Int)) ∧ V.cell? ⟨b, o + i * 9 + 8, none⟩ = some (.int .u16 (s0_.2.2 : Int)) ∧ Below W2.heap.size wq V) (by kernel_rfl) ?th21 (fun hHeld => ?tk21)
            case th21 => ((try dsimp only); exact TR.out _ (Below.refl _ _).drew)
            refine' takeV 0 (oi := _) (d := _) (v := _) ?ti22 ?td22 (by kernel_rfl) (by kernel_rfl) (by kernel_rfl) (by kernel_rfl) (by decide) (fun _ _ _ _ _ h => h) ?tg22 ?ty22 (by assumption) ?tr22
            case ti22 => (simp only [List.getElem?_toArray, List.getElem?_cons_succ, List.getElem?_cons_zero]; rfl)
            case td22 => exact rfl
            case tg22 => exact rfl
            case ty22 => (intro w hSw; (try dsimp only at hSw); go_split_ands; go_simp; try with_reducible rfl)
            simp only [List.setIfInBounds_toArray, List.set_cons_zero, List.set_cons_succ]
            refine' takeV 1 (oi := _) (d := _) (v := _) ?ti23 ?td23 (by kernel_rfl) (by kernel_rfl) (by kernel_rfl) (by kernel_rfl) (by decide) (fun _ _ _ _ _ h => h) ?tg23 ?ty23 (by assumption) ?tr23
            case ti23 => (simp only [List.getElem?_toArray, List.getElem?_cons_succ, List.getElem?_cons_zero]; rfl)
            case td23 => exact rfl
            case tg23 => exact rfl
            case ty23 => (intro w hSw; (try dsimp only at hSw); go_split_ands; go_simp; try with_reducible rfl)
            simp only [List.setIfInBounds_toArray, List.set_cons_zero, List.set_cons_succ]
            refine' takeV 2 (oi := _) (d := _) (v := _) ?ti24 ?td24 (by kernel_rfl) (by kernel_rfl) (by kernel_rfl) (by kernel_rfl) (by decide) (fun _ _ _ _ _ h => h) ?tg24 ?ty24 (by assumption) ?tr24
            case ti24 => (simp only [List.getElem?_toArray, List.getElem?_cons_succ, List.getElem?_cons_zero]; rfl)
            case td24 => exact rfl
            case tg24 => exact rfl
            case ty24 => (intro w hSw; (try dsimp only at hSw); go_split_ands; go_simp; try with_reducible rfl)
            simp only [List.setIfInBounds_toArray, List.set_cons_zero, List.set_cons_succ]
            refine' takeV 3 (oi := _) (d := _) (v := _) ?ti25 ?td25 (by kernel_rfl) (by kernel_rfl) (by kernel_rfl) (by kernel_rfl) (by decide) (fun _ _ _ _ _ h => h) ?tg25 ?ty25 (by assumption) ?tr25
            case ti25 => (simp only [List.getElem?_toArray, List.getElem?_cons_succ, List.getElem?_cons_zero]; rfl)
            case td25 => exact rfl
            case tg25 => exact rfl
            case ty25 => (intro w hSw; (try dsimp only at hSw); go_split_ands; go_simp; try with_reducible rfl)
            simp only [List.setIfInBounds_toArray, List.set_cons_zero, List.set_cons_succ]
            refine' takeV 4 (oi := _) (d := _) (v := _) ?ti26 ?td26 (by kernel_rfl) (by kernel_rfl) (by kernel_rfl) (by kernel_rfl) (by decide) (fun _ _ _ _ _ h => h) ?tg26 ?ty26 (by assumption) ?tr26
            case ti26 => (simp only [List.getElem?_toArray, List.getElem?_cons_succ, List.getElem?_cons_zero]; rfl)
            case td26 => exact rfl
            case tg26 => exact rfl
            case ty26 => (intro w hSw; (try dsimp only at hSw); go_split_ands; go_simp; try with_reducible rfl)
            simp only [List.setIfInBounds_toArray, List.set_cons_zero, List.set_cons_succ]
            refine' takeV 5 (oi := _) (d := _) (v := _) ?ti27 ?td27 (by kernel_rfl) (by kernel_rfl) (by kernel_rfl) (by kernel_rfl) (by decide) (fun _ _ _ _ _ h => h) ?tg27 ?ty27 (by assumption) ?tr27
            case ti27 => (simp only [List.getElem?_toArray, List.getElem?_cons_succ, List.getElem?_cons_zero]; rfl)
            case td27 => exact rfl
            case tg27 => exact rfl
            case ty27 => (intro w hSw; (try dsimp only at hSw); go_split_ands; go_simp; try with_reducible rfl)
            simp only [List.setIfInBounds_toArray, List.set_cons_zero, List.set_cons_succ]
            refine' takeV 6 (oi := _) (d := _) (v := _) ?ti28 ?td28 (by kernel_rfl) (by kernel_rfl) (by kernel_rfl) (by kernel_rfl) (by decide) (fun _ _ _ _ _ h => h) ?tg28 ?ty28 (by assumption) ?tr28
            case ti28 => (simp only [List.getElem?_toArray, List.getElem?_cons_succ, List.getElem?_cons_zero]; rfl)
            case td28 => exact rfl
            case tg28 => exact rfl
            case ty28 => (intro w hSw; (try dsimp only at hSw); go_split_ands; go_simp; try with_reducible rfl)
            simp only [List.setIfInBounds_toArray, List.set_cons_zero, List.set_cons_succ]
            obtain ⟨V0, hV0⟩ : ∃ V0, V0 = wq.drew := ⟨_, rfl⟩
            have B0 : Hid (Below wq.heap.size wq V0) := by rw [hV0]; exact (Below.refl _ _).drew
            rw [← hV0]
            clear hV0 hHeld
            have s0 := B0.out.size
            refine stepG 7 (by kernel_rfl) (by simp only [List.getElem?_toArray, List.getElem?_cons_succ, List.getElem?_cons_zero]; rfl) (fun K hK => ?_)
            go_simp
            refine (copyent_any A1 n1 c1 A2 n2 c2 L0 r0_ s0_ Ky Va _ (HRK.out.below B0.out) (HRV.out.below B0.out) hln.1 hln.2).mono ?_
            rintro e w1 ⟨B1, d1, B2, d2, rfl, hown1, hown2, hb1⟩
            refine hK.out _ _ ?ts29 (fun hHeld => ?_)
            case ts29 => ((try dsimp only); exact TR.out _ ((B0.out.trans (hb1.mono s0)).mono (by omega)))
            clear hK K
            have BB1 := Lib.hid (B0.out.trans (hb1.mono s0))
            have s1 := BB1.out.size
            have hec : EC w1 W2.heap.size (enC B1 n1 d1 B2 n2 d2 L0 r0_ s0_) (L.getD (i + 1) ent0) := by
              rw [HEN.out]
              exact ⟨B1, n1, d1, B2, n2, d2, rfl, hown1.mono (by omega), hown2.mono (by omega)⟩
            have HEC := Lib.hid hec
            clear hown1 hown2 hb1 hHeld hec
            refine stepG 8 (by kernel_rfl) (by simp only [List.getElem?_toArray, List.getElem?_cons_succ, List.getElem?_cons_zero]; rfl) (fun K hK => ?_)
            go_simp
            refine hK.out _ _ ?ts30 (fun hHeld => ?_)
            case ts30 => ((try dsimp only); exact TR.out _ ((BB1.out.alloc s1 _).mono (by omega)))
            clear hK K
            obtain ⟨V2, hV2⟩ : ∃ V2, V2 = w1.alloc (.cells (enA B1 n1 d1 B2 n2 d2 L0 r0_ s0_) 46) := ⟨_, rfl⟩
            have KE : Hid (Blk V2 w1.heap.size 46 (enC B1 n1 d1 B2 n2 d2 L0 r0_ s0_).toArray) := by rw [hV2]; exact Blk.new _ _ _
            have BB2 : Hid (Below wq.heap.size wq V2) := by rw [hV2]; exact BB1.out.alloc s1 _
            have HEC2 : Hid (EC V2 W2.heap.size (enC B1 n1 d1 B2 n2 d2 L0 r0_ s0_) (L.getD (i + 1) ent0)) := by rw [hV2]; exact HEC.out.below (below_new _ _)
            have s2 := BB2.out.size
            rw [← hV2] at hHeld ⊢
            clear hV2 HEC hHeld
            obtain ⟨css, hoe, hall⟩ := HO.out
            have HOE2 := Lib.hid (hoe.below BB2.out)
            have HALL2 : Hid (∀ j, j < (i + 1) → EC V2 W2.heap.size (css.getD j []) (L.getD j ent0)) := fun j hj => (hall j hj).below BB2.out
            have KM2 := Lib.hid (HKM.out.below BB2.out HKM.out.lt)
            clear hoe hall
            refine stepG 9 (by kernel_rfl) (by simp only [List.getElem?_toArray, List.getElem?_cons_succ, List.getElem?_cons_zero]; rfl) (fun K hK => ?_)
            refine step_appE 22 Try.underlying22 rfl (.tmp 49) (.tmp 56) rfl rfl rfl HOE2.out KE.out rfl (enC_one _ _ _ _ _ _ _ _ _) (by omega) (by omega) ?_
            intro A4 c4 w3 hown3 hg3 hb3
            refine hK.out _ _ ?ts31 (fun hHeld => ?_)
            case ts31 => ((try dsimp only); exact TR.out _ ((BB2.out.mono (by omega)).trans hb3))
            clear hK K
            have HPU := Lib.hid (OwnN.push HOE2.out HALL2.out HEC2.out hown3 hg3)
            have KM3 := Lib.hid (HOE2.out.keepBlk KM2.out (by decide) hg3)
            have BB3 : Hid (Below W2.heap.size wq w3) := (BB2.out.mono (by omega)).trans hb3
            clear hown3 hg3 hb3
            refine stepG 10 (by kernel_rfl) (by simp only [List.getElem?_toArray, List.getElem?_cons_succ, List.getElem?_cons_zero]; rfl) (fun K hK => ?_)
            go_simp
            refine hK.out _ _ ?ts32 (fun hHeld => ?_)
            case ts32 => ((try dsimp only); exact hHeld)
            clear hK K
            have hfr : w3.frozen? ⟨w.heap.size + 1 + 1 + 1, 2, none⟩ = false := KM3.out.frozen 2
            refine stepGate 11 (by kernel_rfl) (by kernel_rfl) (by simp only [List.getElem?_toArray, List.getElem?_cons_succ, List.getElem?_cons_zero]; rfl) (fun K hK => ?_)
            go_simp
            refine hK.out _ _ ?_
            clear hK K
            refine doneG (by kernel_rfl) ?_ _
            clear hHeld
            go_wp2_with fail
            go_roundw
            case rel => exact ⟨i + 1, i + 1 + 1, c4, A4, by omega, by go_num, .inr (.inl ⟨by omega, by omega, rfl⟩), KM3.out.set_ 2 _, HPU.out.keptE KM3.out (by decide) (by decide) (grown_setCell _ _ _ _), (HBm.out.trans (BB3.out.mono (by omega))).setCell (Nat.le_refl _) _⟩
            case measure => first | (simp [intOf]; done) | (simp [intOf]; omega)
          · have j2 : decide ((i : Int) < (n : Int)) = false := decide_eq_false (by omega)
            have dn3 : w3.cell? ⟨w.heap.size, 2, none⟩ = some (.slice A n c) := (KN2.out.below (HBE.out.trans (BB3.out.mono (by omega))) (by omega)).cell 2
            clear dn
            go_wp2_with fail
            go_roundw
            case rel => exact ⟨i + 1, i + 1, c4, A4, by omega, by go_num, .inr (.inr ⟨by omega, by omega⟩), HKm.out, HOm.out, HBm.out⟩
            case measure => first | (simp [intOf]; done) | (simp [intOf]; omega)
        · have j1 : ((i : Int) == (p : Int)) = false := by rw [beq_eq_false_iff_ne]; omega
          by_cases hlt : i < n
          · have j2 : decide ((i : Int) < (n : Int)) = true := decide_eq_true (by omega)
            have hqe : q = i + 1 := by have := HQQ.out; omega
            have HQ : Hid (L.getD (i + 1) ent0 = es.getD i ent0) := by show _ = _; rw [HAT.out (i + 1), if_neg (by omega), if_neg (by omega)]; rfl
            subst hqe
            go_upto_region 10 with fail
            clear dn
            obtain ⟨b, o, A1, n1, c1, A2, n2, c2, L0, r0_, s0_, Ky, Va, rfl, hat, hrk, hrv, hent⟩ := HR.out.pair i hlt
            have hatr := hat.below HWr.out
            have hbl := hat.lt
            have HRK := Lib.hid (hrk.below HWr.out)
            have HRV := Lib.hid (hrv.below HWr.out)
            have HEN : Hid (L.getD (i + 1) ent0 = ⟨Ky, Va, L0, r0_, s0_⟩) := by show _ = _; rw [HQ.out]; exact hent
            have hln : n1 ≤ 140737488355328 ∧ n2 ≤ 140737488355328 := by
              have := HS.out i (by rw [← HLn.out]; exact hlt)
              rw [hent] at this
              rw [hrk.len, hrv.len]
              exact this
            have i1 : (0 : Int) ≤ (i : Int) := by omega
            have i2 : (i : Int) < (n : Int) := by omega
            have TR : Hid (∀ V, Below W2.heap.size wr V → (fun V => V.cell? ⟨w.heap.size + 1 + 1 + 1, 2, none⟩ = some (.slice A3 (i + 1) c3) ∧ V.cell? ⟨w.heap.size, 2, none⟩ = some (.slice (some ⟨b, o, none⟩) n c) ∧ V.cell? ⟨b, o + i * 9, none⟩ = some (.slice A1 n1 c1) ∧ V.cell? ⟨b, o + i * 9 + 1, none⟩ = some (.slice A2 n2 c2) ∧ V.cell? ⟨b, o + i * 9 + 2, none⟩ = some (.int .i64 L0) ∧ V.cell? ⟨b, o + i * 9 + 3, none⟩ = some (.int .u32 (r0_.1 : Int)) ∧ V.cell? ⟨b, o + i * 9 + 4, none⟩ = some (.int .u64 (r0_.2.1 : Int)) ∧ V.cell? ⟨b, o + i * 9 + 5, none⟩ = some (.int .u16 (r0_.2.2 : Int)) ∧ V.cell? ⟨b, o + i * 9 + 6, none⟩ = some (.int .u32 (s0_.1 : Int)) ∧ V.cell? ⟨b, o + i * 9 + 7, none⟩ = some (.int .u64 (s0_.2.1 : Int)) ∧ V.cell? ⟨b, o + i * 9 + 8, none⟩ = some (.int .u16 (s0_.2.2 : Int)) ∧ Below W2.heap.size wr V) V) := fun V hb => by
              have k2 := HKM.out.below hb (by omega)
              have k1 := hatr.keep (hb.block b (by omega))
              have k3 := KNr.out.below hb (by omega)
              exact ⟨k2.cell 2, k3.cell 2, k1.c0, k1.c1, k1.c2, k1.c3, k1.c4, k1.c5, k1.c6, k1.c7, k1.c8, hb⟩
            have d2 : wr.cell? ⟨w.heap.size, 2, none⟩ = some (.slice (some ⟨b, o, none⟩) n c) := KNr.out.cell 2
            clear hat hatr hrk hrv hent
            go_wp2_with fail
            clear d2
            refine region_gate 11 (fun V => V.cell? ⟨w.heap.size + 1 + 1 + 1, 2, none⟩ = some (.slice A3 (i + 1) c3) ∧ V.cell? ⟨w.heap.size, 2, none⟩ = some (.slice (some ⟨b, o, none⟩) n c) ∧ V.cell? ⟨b, o + i * 9, none⟩ = some (.slice A1 n1 c1) ∧ V.cell? ⟨b, o + i * 9 + 1, none⟩ = some (.slice A2 n2 c2) ∧ V.cell? ⟨b, o + i * 9 + 2, none⟩ = some (.int .i64 L0) ∧ V.cell? ⟨b, o + i * 9 + 3, none⟩ = some (.int .u32 (r0_.1 : Int)) ∧ V.cell? ⟨b, o + i * 9 + 4, none⟩ = some (.int .u64 (r0_.2.1 : Int)) ∧ V.cell? ⟨b, o + i * 9 + 5, none⟩ = some (.int .u16 (r0_.2.2 : Int)) ∧ V.cell? ⟨b, o + i * 9 + 6, none⟩ = some (.int .u32 (s0_.1 : Int)) ∧ V.cell? ⟨b, o + i * 9 + 7, none⟩ = some (.int .u64 (s0_.2.1 : Int)) ∧ V.cell? ⟨b, o + i * 9 + 8, none⟩ = some (.int .u16 (s0_.2.2 : Int)) ∧ Below W2.heap.size wr V) (by kernel_rfl) ?th33 (fun hHeld => ?tk33)
            case th33 => ((try dsimp only); exact TR.out _ (Below.refl _ _).drew)
            refine' takeV 0 (oi := _) (d := _) (v := _) ?ti34 ?td34 (by kernel_rfl) (by kernel_rfl) (by kernel_rfl) (by kernel_rfl) (by decide) (fun _ _ _ _ _ h => h) ?tg34 ?ty34 (by assumption) ?tr34
            case ti34 => (simp only [List.getElem?_toArray, List.getElem?_cons_succ, List.getElem?_cons_zero]; rfl)
            case td34 => exact rfl
            case tg34 => exact rfl
            case ty34 => (intro w hSw; (try dsimp only at hSw); go_split_ands; go_simp; try with_reducible rfl)
            simp only [List.setIfInBounds_toArray, List.set_cons_zero, List.set_cons_succ]
            refine' takeV 1 (oi := _) (d := _) (v := _) ?ti35 ?td35 (by kernel_rfl) (by kernel_rfl) (by kernel_rfl) (by kernel_rfl) (by decide) (fun _ _ _ _ _ h => h) ?tg35 ?ty35 (by assumption) ?tr35
            case ti35 => (simp only [List.getElem?_toArray, List.getElem?_cons_succ, List.getElem?_cons_zero]; rfl)
            case td35 => exact rfl
            case tg35 => exact rfl
            case ty35 => (intro w hSw; (try dsimp only at hSw); go_split_ands; go_simp; try with_reducible rfl)
            simp only [List.setIfInBounds_toArray, List.set_cons_zero, List.set_cons_succ]
            refine' takeV 2 (oi := _) (d := _) (v := _) ?ti36 ?td36 (by kernel_rfl) (by kernel_rfl) (by kernel_rfl) (by kernel_rfl) (by decide) (fun _ _ _ _ _ h => h) ?tg36 ?ty36 (by assumption) ?tr36
            case ti36 => (simp only [List.getElem?_toArray, List.getElem?_cons_succ, List.getElem?_cons_zero]; rfl)
            case td36 => exact rfl
            case tg36 => exact rfl
            case ty36 => (intro w hSw; (try dsimp only at hSw); go_split_ands; go_simp; try with_reducible rfl)
            simp only [List.setIfInBounds_toArray, List.set_cons_zero, List.set_cons_succ]
            refine' takeV 3 (oi := _) (d := _) (v := _) ?ti37 ?td37 (by kernel_rfl) (by kernel_rfl) (by kernel_rfl) (by kernel_rfl) (by decide) (fun _ _ _ _ _ h => h) ?tg37 ?ty37 (by assumption) ?tr37
            case ti37 => (simp only [List.getElem?_toArray, List.getElem?_cons_succ, List.getElem?_cons_zero]; rfl)
            case td37 => exact rfl
            case tg37 => exact rfl
            case ty37 => (intro w hSw; (try dsimp only at hSw); go_split_ands; go_simp; try with_reducible rfl)
            simp only [List.setIfInBounds_toArray, List.set_cons_zero, List.set_cons_succ]
            refine' takeV 4 (oi := _) (d := _) (v := _) ?ti38 ?td38 (by kernel_rfl) (by kernel_rfl) (by kernel_rfl) (by kernel_rfl) (by decide) (fun _ _ _ _ _ h => h) ?tg38 ?ty38 (by assumption) ?tr38
            case ti38 => (simp only [List.getElem?_toArray, List.getElem?_cons_succ, List.getElem?_cons_zero]; rfl)
            case td38 => exact rfl
            case tg38 => exact rfl
            case ty38 => (intro w hSw; (try dsimp only at hSw); go_split_ands; go_simp; try with_reducible rfl)
            simp only [List.setIfInBounds_toArray, List.set_cons_zero, List.set_cons_succ]
            refine' takeV 5 (oi := _) (d := _) (v := _) ?ti39 ?td39 (by kernel_rfl) (by kernel_rfl) (by kernel_rfl) (by kernel_rfl) (by decide) (fun _ _ _ _ _ h => h) ?tg39 ?ty39 (by assumption) ?tr39
            case ti39 => (simp only [List.getElem?_toArray, List.getElem?_cons_succ, List.getElem?_cons_zero]; rfl)
            case td39 => exact rfl
            case tg39 => exact rfl
            case ty39 => (intro w hSw; (try dsimp only at hSw); go_split_ands; go_simp; try with_reducible rfl)
            simp only [List.setIfInBounds_toArray, List.set_cons_zero, List.set_cons_succ]
            refine' takeV 6 (oi := _) (d := _) (v := _) ?ti40 ?td40 (by kernel_rfl) (by kernel_rfl) (by kernel_rfl) (by kernel_rfl) (by decide) (fun _ _ _ _ _ h => h) ?tg40 ?ty40 (by assumption) ?tr40
            case ti40 => (simp only [List.getElem?_toArray, List.getElem?_cons_succ, List.getElem?_cons_zero]; rfl)
            case td40 => exact rfl
            case tg40 => exact rfl
            case ty40 => (intro w hSw; (try dsimp only at hSw); go_split_ands; go_simp; try with_reducible rfl)
            simp only [List.setIfInBounds_toArray, List.set_cons_zero, List.set_cons_succ]
            obtain ⟨V0, hV0⟩ : ∃ V0, V0 = wr.drew := ⟨_, rfl⟩
            have B0 : Hid (Below wr.heap.size wr V0) := by rw [hV0]; exact (Below.refl _ _).drew
            rw [← hV0]
            clear hV0 hHeld
            have s0 := B0.out.size
            refine stepG 7 (by kernel_rfl) (by simp only [List.getElem?_toArray, List.getElem?_cons_succ, List.getElem?_cons_zero]; rfl) (fun K hK => ?_)
            go_simp
            refine (copyent_any A1 n1 c1 A2 n2 c2 L0 r0_ s0_ Ky Va _ (HRK.out.below B0.out) (HRV.out.below B0.out) hln.1 hln.2).mono ?_
            rintro e w1 ⟨B1, d1, B2, d2, rfl, hown1, hown2, hb1⟩
            refine hK.out _ _ ?ts41 (fun hHeld => ?_)
            case ts41 => ((try dsimp only); exact TR.out _ ((B0.out.trans (hb1.mono s0)).mono (by omega)))
            clear hK K
            have BB1 := Lib.hid (B0.out.trans (hb1.mono s0))
            have s1 := BB1.out.size
            have hec : EC w1 W2.heap.size (enC B1 n1 d1 B2 n2 d2 L0 r0_ s0_) (L.getD (i + 1) ent0) := by
              rw [HEN.out]
              exact ⟨B1, n1, d1, B2, n2, d2, rfl, hown1.mono (by omega), hown2.mono (by omega)⟩
            have HEC := Lib.hid hec
            clear hown1 hown2 hb1 hHeld hec
            refine stepG 8 (by kernel_rfl) (by simp only [List.getElem?_toArray, List.getElem?_cons_succ, List.getElem?_cons_zero]; rfl) (fun K hK => ?_)
            go_simp
            refine hK.out _ _ ?ts42 (fun hHeld => ?_)
            case ts42 => ((try dsimp only); exact TR.out _ ((BB1.out.alloc s1 _).mono (by omega)))
            clear hK K
            obtain ⟨V2, hV2⟩ : ∃ V2, V2 = w1.alloc (.cells (enA B1 n1 d1 B2 n2 d2 L0 r0_ s0_) 46) := ⟨_, rfl⟩
            have KE : Hid (Blk V2 w1.heap.size 46 (enC B1 n1 d1 B2 n2 d2 L0 r0_ s0_).toArray) := by rw [hV2]; exact Blk.new _ _ _
            have BB2 : Hid (Below wr.heap.size wr V2) := by rw [hV2]; exact BB1.out.alloc s1 _
            have HEC2 : Hid (EC V2 W2.heap.size (enC B1 n1 d1 B2 n2 d2 L0 r0_ s0_) (L.getD (i + 1) ent0)) := by rw [hV2]; exact HEC.out.below (below_new _ _)
            have s2 := BB2.out.size
            rw [← hV2] at hHeld ⊢
            clear hV2 HEC hHeld
            obtain ⟨css, hoe, hall⟩ := HO.out
            have HOE2 := Lib.hid (hoe.below BB2.out)
            have HALL2 : Hid (∀ j, j < (i + 1) → EC V2 W2.heap.size (css.getD j []) (L.getD j ent0)) := fun j hj => (hall j hj).below BB2.out
            have KM2 := Lib.hid (HKM.out.below BB2.out HKM.out.lt)
            clear hoe hall
            refine stepG 9 (by kernel_rfl) (by simp only [List.getElem?_toArray, List.getElem?_cons_succ, List.getElem?_cons_zero]; rfl) (fun K hK => ?_)
            refine step_appE 22 Try.underlying22 rfl (.tmp 49) (.tmp 56) rfl rfl rfl HOE2.out KE.out rfl (enC_one _ _ _ _ _ _ _ _ _) (by omega) (by omega) ?_
            intro A4 c4 w3 hown3 hg3 hb3
            refine hK.out _ _ ?ts43 (fun hHeld => ?_)
            case ts43 => ((try dsimp only); exact TR.out _ ((BB2.out.mono (by omega)).trans hb3))
            clear hK K
            have HPU := Lib.hid (OwnN.push HOE2.out HALL2.out HEC2.out hown3 hg3)
            have KM3 := Lib.hid (HOE2.out.keepBlk KM2.out (by decide) hg3)
            have BB3 : Hid (Below W2.heap.size wr w3) := (BB2.out.mono (by omega)).trans hb3
            clear hown3 hg3 hb3
            refine stepG 10 (by kernel_rfl) (by simp only [List.getElem?_toArray, List.getElem?_cons_succ, List.getElem?_cons_zero]; rfl) (fun K hK => ?_)
            go_simp
            refine hK.out _ _ ?ts44 (fun hHeld => ?_)
            case ts44 => ((try dsimp only); exact hHeld)
            clear hK K
            have hfr : w3.frozen? ⟨w.heap.size + 1 + 1 + 1, 2, none⟩ = false := KM3.out.frozen 2
            refine stepGate 11 (by kernel_rfl) (by kernel_rfl) (by simp only [List.getElem?_toArray, List.getElem?_cons_succ, List.getElem?_cons_zero]; rfl) (fun K hK => ?_)
            go_simp
            refine hK.out _ _ ?_
            clear hK K
            refine doneG (by kernel_rfl) ?_ _
            clear hHeld
            go_wp2_with fail
            go_roundw
            case rel => exact ⟨i + 1, i + 1 + 1, c4, A4, by omega, by go_num, .inr (.inl ⟨by omega, by omega, rfl⟩), KM3.out.set_ 2 _, HPU.out.keptE KM3.out (by decide) (by decide) (grown_setCell _ _ _ _), (HBE.out.trans (BB3.out.mono (by omega))).setCell (Nat.le_refl _) _⟩
            case measure => first | (simp [intOf]; done) | (simp [intOf]; omega)
          · have j2 : decide ((i : Int) < (n : Int)) = false := decide_eq_false (by omega)
            have hqe : q = n + 1 := by have := HQQ.out; omega
            obtain rfl : i = n := by omega
            subst hqe
            go_wp2_with fail
            go_roundw
            case rel => exact ⟨i + 1, i + 1, c3, A3, by omega, by go_num, .inr (.inr ⟨rfl, rfl⟩), HKM.out, HO.out, HBE.out⟩
            case measure => first | (simp [intOf]; done) | (simp [intOf]; omega)
      · obtain rfl : i = n + 1 := by omega
        have hqe : n + 1 = q := by have := HQQ.out; omega
        subst hqe
        have j0 : decide (((n + 1 : Nat) : Int) ≤ (n : Int)) = false := decide_eq_false (by omega)
        have N1 : Hid (Nin wr (w.heap.size + 1 + 1 + 1) k l A3 (n + 1) c3 L) := ⟨HKM.out, HO.out.rdl HLL.out.symm⟩
        have HM := Lib.hid (refright_any k l A3 (n + 1) c3 L wr N1.out.rd hk hl)
        rw [HEE.out] at HM
        have m0 := N1.out.c0
        have m1 := N1.out.c1
        have m2 := N1.out.c2
        go_wp2_with fail
        refine HM.out.mono ?_
        rintro e w1 ⟨rfl, hb1⟩
        have HX : Hid (Below w.heap.size w w1) := HWr.out.trans (hb1.mono HWr.out.size)
        have N2 := Lib.hid (N1.out.below hb1)
        have HO2 := Lib.hid (HO.out.below hb1)
        have KZ3 : Hid (Blk w1 (w.heap.size + 1 + 1) 24 [Value.int .u8 0, .int .u8 0, .slice none 0 0].toArray) := (KZ2.out.below HBE.out (by omega)).below hb1 (by have := hbs; omega)
        have sy := HX.out.size
        clear hb1 m0 m1 m2 HM N1 dn
        by_cases he : E = 0
        · have hd : (E != 0) = false := by rw [he]; rfl
          have d0 := N2.out.c0
          have d1 := N2.out.c1
          have d2 := N2.out.c2
          have hlz : [Value.int .u8 0, .int .u8 0, .slice none 0 0].length = [Value.int .u8 (k : Int), .int .u8 (l : Int), .slice A3 (n + 1) c3].length := rfl
          have hiz : (Try.prog.info? 24).map (·.size) = some [Value.int .u8 (k : Int), .int .u8 (l : Int), .slice A3 (n + 1) c3].length := infoNd
          have h1 : ∀ v ∈ [Value.int .u8 (k : Int), .int .u8 (l : Int), .slice A3 (n + 1) c3], v.oneCell' = true := nd_one k l A3 (n + 1) c3
          go_wp2_with (with_reducible refine wpList_store_blk rfl 24 (.tmp 6) (.tmp 65) rfl rfl (cs := [Value.int .u8 (k : Int), .int .u8 (l : Int), .slice A3 (n + 1) c3]) rfl KZ3.out hlz hiz h1 ?_; intro w5 hk5 hg5)
          have e0 := hk5.cell 0
          have e1 := hk5.cell 1
          have e2 := hk5.cell 2
          refine bodyPost_ret (v := .tuple #[NdV k l A3 (n + 1) c3, .int .i64 0]) ?_ rfl ?_
          · simp [results, Try.results28, go_sem, e0, e1, e2]
          · rw [he]
            exact OneP.some_ HLL.out.symm ((HO2.out.keptE KZ3.out (by decide) (by decide) hg5).mono (by omega)) (HX.out.grown hg5 sy (by intro q hq; simp at hq; omega))
        · have hd : (E != 0) = true := by rw [bne_iff_ne]; exact he
          have HEN := Lib.hid he
          have hiz : (Try.prog.info? 24).map (·.size) = some [Value.int .u8 0, .int .u8 0, .slice none 0 0].length := infoNd
          have h1 : ∀ v ∈ [Value.int .u8 0, .int .u8 0, .slice none 0 0], v.oneCell' = true := nd_one 0 0 none 0 0
          clear he
          go_wp2_with (with_reducible refine wpList_store_blk rfl 24 (.tmp 6) (.tmp 63) rfl rfl (cs := [Value.int .u8 0, .int .u8 0, .slice none 0 0]) rfl KZ3.out z3len hiz h1 ?_; intro w5 hk5 hg5)
          have e0 := hk5.cell 0
          have e1 := hk5.cell 1
          have e2 := hk5.cell 2
          refine bodyPost_ret (v := .tuple #[NdV 0 0 none 0 0, .int .i64 E]) ?_ rfl (OneP.none_ HEN.out (HX.out.grown hg5 sy (by intro q hq; simp at hq; omega)))
          simp [results, Try.results28, go_sem, e0, e1, e2]
end Go.Proofs.Ytgihcjmcefdkiaa
