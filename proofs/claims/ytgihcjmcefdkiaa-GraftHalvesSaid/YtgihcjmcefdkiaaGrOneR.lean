/- Contracts: donjonref14.One. -/
import Derived.Test.YtgihcjmcefdkiaaGrOne
set_option linter.unusedVariables false
set_option linter.unusedSimpArgs false
namespace Go.Proofs.Ytgihcjmcefdkiaa
open Go.RowKit

set_option maxRecDepth 100000 in
set_option maxHeartbeats 6400000 in
theorem refone_any (k l : Nat) (A : Option Addr) (n c : Nat) (es : List Ent) (k' l' : Nat) (A' : Option Addr) (n' c' : Nat) (es' : List Ent) (Ak : Option Addr) (nk ck : Nat) (key : List UInt8) (w : World) (h : RdL w A n c es) (h' : RdL w A' n' c' es') (hky : Rd w Ak nk ck key)
    (hk : k < 256) (hl : l < 256) (hk' : k' < 256) (hl' : l' < 256) (hN : n ≤ 4000) (hN' : n' ≤ 4000) (hs : shortE es) (hc4 : ∀ j, j < es.length → (es.getD j ent0).key.length ≤ 4096 ∧ (es.getD j ent0).val.length ≤ 4096) (hs' : shortE es') (hkn : nk ≤ 140737488355328) :
    Calls Try.prog 50 #[NdV k l A n c, NdV k' l' A' n' c', .slice Ak nk ck] w (NodB (oneB k l es k' l' es') (oneB k l es k' l' es' && (rE k l (oneL k es es' key) == 0)) k l (oneL k es es' key) w) := by
  have hcap := h.cap
  have hmax := h.max
  have hcap' := h'.cap
  have hmax' := h'.max
  unfold maxLen at hmax hmax'
  have HLn := Lib.hid h.len
  have HLn' := Lib.hid h'.len
  have HS := Lib.hid hs
  have HC4 := Lib.hid hc4
  have HS' := Lib.hid hs'
  obtain ⟨W, hW⟩ : ∃ W, W = ((w.alloc (.cells #[.int .u8 (k : Int), .int .u8 (l : Int), .slice A n c] 24)).alloc (.cells #[.int .u8 (k' : Int), .int .u8 (l' : Int), .slice A' n' c'] 24)).alloc (.cells #[.int .u8 0, .int .u8 0, .slice none 0 0] 24) := ⟨_, rfl⟩
  have HWB : Hid (Below w.heap.size w W) := by rw [hW]; exact ((below_new _ _).alloc (by simp) _).alloc (by simp; omega) _
  have NA : Hid (Nin W w.heap.size k l A n c es) := ⟨by rw [hW]; exact ((Blk.new _ _ _).alloc _).alloc _, h.below HWB.out⟩
  have NB : Hid (Nin W (w.heap.size + 1) k' l' A' n' c' es') := ⟨by rw [hW]; exact (Blk.new' _ _ _ _ (by simp)).alloc _, h'.below HWB.out⟩
  have KZ : Hid (Blk W (w.heap.size + 1 + 1) 24 [Value.int .u8 0, .int .u8 0, .slice none 0 0].toArray) := by rw [hW]; exact Blk.new' _ _ _ _ (by simp)
  have HKY := Lib.hid (hky.below HWB.out)
  have HW := Lib.hid hW
  have hWs := KZ.out.lt
  have HM := Lib.hid (refright_any k l A n c es W NA.out.rd hk hl)
  have HRA := Lib.hid h
  have HRB := Lib.hid h'
  clear h h' hky hs hs' hc4 hW
  have d0 := NA.out.c0
  have d1 := NA.out.c1
  have d2 := NA.out.c2
  by_cases hr : rE k l es = 0
  · rw [hr] at HM
    by_cases hr' : rE k' l' es' = 0
    · by_cases hkk : k = k'
      · by_cases hll : l = l'
        · subst hkk
          subst hll
          have hone : oneB k l es k l es' = true := by simp [oneB, hr, hr']
          obtain ⟨L, HL⟩ : ∃ L, Hid (oneL k es es' key = L) := ⟨_, rfl⟩
          obtain ⟨E, HEE⟩ : ∃ E, Hid (rE k l L = E) := ⟨_, rfl⟩
          obtain ⟨qq, hqq⟩ : ∃ qq : Bool, (E == 0) = qq := ⟨_, rfl⟩
          have HQQ := Lib.hid hqq
          obtain ⟨N, HNN⟩ : ∃ N, Hid (n + n' = N) := ⟨_, rfl⟩
          have HLL : Hid (L.length = N) := by show _ = _; rw [← HL.out, oneL_length, ← HLn.out, ← HLn'.out]; exact HNN.out
          rw [HL.out, HEE.out, hqq]
          obtain ⟨b1, hb1⟩ : ∃ b1, b1 = oneB k l es k l es' := ⟨_, rfl⟩
          rw [← hb1] at hone ⊢
          clear hb1
          have HOK := Lib.hid hone
          have hn'pos : k = 2 → 0 < n' := fun e => by rw [HLn'.out]; exact (right_may hr').2.2.1 e
          have HPOS := Lib.hid hn'pos
          have HR2 := Lib.hid (fun V (hb : Below W.heap.size W V) => refright_any k l A' n' c' es' V (NB.out.below hb).rd hk hl)
          rw [hr'] at HR2
          clear hr hr' hone hqq hn'pos
          go_enter Try.func50, Try.ntmps50
          go_wp2_with fail
          rw [← HW.out]
          refine HM.out.mono ?_
          rintro e w1 ⟨rfl, hb1⟩
          have NB1 := Lib.hid (NB.out.below hb1)
          have HB1 := Lib.hid hb1
          have s1 := hb1.size
          have HCC := Lib.hid (HR2.out w1 hb1)
          clear d0 d1 d2 hb1 HM
          have d0 := NB1.out.c0
          have d1 := NB1.out.c1
          have d2 := NB1.out.c2
          go_wp2_with fail
          refine HCC.out.mono ?_
          rintro e w2 ⟨rfl, hb2⟩
          have HB2 : Hid (Below W.heap.size W w2) := HB1.out.trans (hb2.mono s1)
          have NB2 := Lib.hid (NB.out.below HB2.out)
          have NA2 := Lib.hid (NA.out.below HB2.out)
          have s2 := HB2.out.size
          clear d0 d1 d2 hb2 HCC HB1 NB1
          have d0 := NB2.out.c0
          have d1 := NB2.out.c1
          have d2 := NB2.out.c2
          have f0 := NA2.out.c0
          have f1 := NA2.out.c1
          have f2 := NA2.out.c2
          have j0 : ((k : Int) != (k : Int)) = false := by rw [bne_eq_false_iff_eq]
          have j1 : ((l : Int) != (l : Int)) = false := by rw [bne_eq_false_iff_eq]
          have hll2 : [es, es'].flatten.length = N := by rw [← HNN.out, HLn.out, HLn'.out]; simp
          have hcpy : ∀ j, j < es.length → (es.getD j ent0).key.length ≤ 4096 ∧ (es.getD j ent0).val.length ≤ 4096 := HC4.out
          have HCP := Lib.hid (copynode_any k l A n c es w2 NA2.out.rd (by omega) hcpy)
          clear hcpy
          go_wp2_with fail
          refine HCP.out.mono ?_
          rintro e w4 ⟨A8, c8, rfl, ho, hb⟩
          have HB4 : Hid (Below W.heap.size W w4) := HB2.out.trans (hb.mono s2)
          have s4 := HB4.out.size
          obtain ⟨g8, hg8e⟩ : ∃ g8, w4.heap.size = g8 := ⟨_, rfl⟩
          obtain ⟨w5, hw5⟩ : ∃ w5, w5 = w4.alloc (.cells #[.int .u8 (k : Int), .int .u8 (l : Int), .slice A8 n c8] 24) := ⟨_, rfl⟩
          have HK5 : Hid (Blk w5 g8 24 (ndA k l A8 n c8)) := by rw [hw5]; exact Blk.new' _ _ _ _ hg8e
          obtain ⟨LL, HLL2⟩ : ∃ LL, Hid ([es, es'].flatten = LL) := ⟨_, rfl⟩
          have hf : ∀ j, j < n → es.getD j ent0 = LL.getD j ent0 := fun j hj => by rw [← HLL2.out, flat2_at, if_pos (by rw [← HLn.out]; exact hj)]
          have hf' : ∀ j, LL.getD (n + j) ent0 = es'.getD j ent0 := fun j => by rw [← HLL2.out, flat2_at, if_neg (by rw [← HLn.out]; omega), ← HLn.out, Nat.add_sub_cancel_left]
          have HF' := Lib.hid hf'
          have HO5 : Hid (OwnN w5 W.heap.size A8 n c8 LL) := by rw [hw5]; exact ((ho.mono s2).below (below_new _ _)).congr hf
          have HB5 : Hid (Below W.heap.size W w5) := by rw [hw5]; exact HB4.out.alloc s4 _
          have hg8 : W.heap.size ≤ g8 := by rw [← hg8e]; exact s4
          have s5 := HB5.out.size
          have HG8 := Lib.hid hg8e
          have HW5 := Lib.hid hw5
          rw [HLL2.out] at hll2
          have HLLN := Lib.hid hll2
          clear ho hb hw5 hg8e d0 d1 d2 f0 f1 f2 HCP hf hf' hll2
          go_upto_region 4 with fail
          rw [← HW5.out, HG8.out]
          have hWn : w.heap.size + 1 < W.heap.size := by omega
          have hWb : w.heap.size ≤ W.heap.size := by omega
          go_wp2_with fail
          go_loopw [9] (fun z wr => ∃ (j c2 : Nat) (A2 : Option Addr), j ≤ n' ∧ z = .int .i64 (j : Int) ∧ Blk wr g8 24 (ndA k l A2 (n + j) c2) ∧ OwnN wr W.heap.size A2 (n + j) c2 LL ∧ Below W.heap.size W wr) (fun z _ => n' - (intOf z).toNat)
          case atStart => exact ⟨0, c8, A8, Nat.zero_le _, rfl, HK5.out, HO5.out, HB5.out⟩
          case round =>
            clear HK5 HO5 HB5 s5
            obtain ⟨j, c3, A3, hj, rfl, hkm, hown, hbel⟩ := hrel
            have HKM := Lib.hid hkm
            have HO := Lib.hid hown
            have HBE := Lib.hid hbel
            have hbs := hbel.size
            have KNr := Lib.hid (NB.out.blk.below hbel (by omega))
            have dn : wr.cell? ⟨w.heap.size + 1, 2, none⟩ = some (.slice A' n' c') := KNr.out.cell 2
            clear hkm hown hbel
            by_cases hlt : j < n'
            · have j2 : decide ((j : Int) < (n' : Int)) = true := decide_eq_true (by omega)
              have HQ : Hid (LL.getD (n + j) ent0 = es'.getD j ent0) := HF'.out j
              have HWr := HWB.out.trans (HBE.out.mono hWb)
              have HWr := Lib.hid HWr
              clear dn
              obtain ⟨b, o, A1, n1, c1, A2, n2, c2, L0, r0_, s0_, Ky, Va, rfl, hat, hrk, hrv, hent⟩ := HRB.out.pair j hlt
              have hatr := hat.below HWr.out
              have hbl := hat.lt
              have HRK := Lib.hid (hrk.below HWr.out)
              have HRV := Lib.hid (hrv.below HWr.out)
              have HEN : Hid (LL.getD (n + j) ent0 = ⟨Ky, Va, L0, r0_, s0_⟩) := by show _ = _; rw [HQ.out]; exact hent
              have hln : n1 ≤ 140737488355328 ∧ n2 ≤ 140737488355328 := by
                have := HS'.out j (by rw [← HLn'.out]; exact hlt)
                rw [hent] at this
                rw [hrk.len, hrv.len]
                exact this
              have i1 : (0 : Int) ≤ (j : Int) := by omega
              have i2 : (j : Int) < (n' : Int) := by omega
              have TR : Hid (∀ V, V.cell? ⟨g8, 2, none⟩ = some (.slice A3 (n + j) c3) → Below W.heap.size wr V → (fun V => V.cell? ⟨g8, 2, none⟩ = some (.slice A3 (n + j) c3) ∧ V.cell? ⟨w.heap.size + 1, 2, none⟩ = some (.slice (some ⟨b, o, none⟩) n' c') ∧ V.cell? ⟨b, o + j * 9, none⟩ = some (.slice A1 n1 c1) ∧ V.cell? ⟨b, o + j * 9 + 1, none⟩ = some (.slice A2 n2 c2) ∧ V.cell? ⟨b, o + j * 9 + 2, none⟩ = some (.int .i64 L0) ∧ V.cell? ⟨b, o + j * 9 + 3, none⟩ = some (.int .u32 (r0_.1 : Int)) ∧ V.cell? ⟨b, o + j * 9 + 4, none⟩ = some (.int .u64 (r0_.2.1 : Int)) ∧ V.cell? ⟨b, o + j * 9 + 5, none⟩ = some (.int .u16 (r0_.2.2 : Int)) ∧ V.cell? ⟨b, o + j * 9 + 6, none⟩ = some (.int .u32 (s0_.1 : Int)) ∧ V.cell? ⟨b, o + j * 9 + 7, none⟩ = some (.int .u64 (s0_.2.1 : Int)) ∧ V.cell? ⟨b, o + j * 9 + 8, none⟩ = some (.int .u16 (s0_.2.2 : Int)) ∧ Below W.heap.size wr V) V) := fun V hm2 hb => by
                have k1 := hatr.keep (hb.block b (by omega))
                have k3 := KNr.out.below hb (by omega)
                exact ⟨hm2, k3.cell 2, k1.c0, k1.c1, k1.c2, k1.c3, k1.c4, k1.c5, k1.c6, k1.c7, k1.c8, hb⟩
              have d2 : wr.cell? ⟨w.heap.size + 1, 2, none⟩ = some (.slice (some ⟨b, o, none⟩) n' c') := KNr.out.cell 2
              clear hat hatr hrk hrv hent
              go_wp2_with fail
              clear d2
              refine region_gate 11 (fun V => V.cell? ⟨g8, 2, none⟩ = some (.slice A3 (n + j) c3) ∧ V.cell? ⟨w.heap.size + 1, 2, none⟩ = some (.slice (some ⟨b, o, none⟩) n' c') ∧ V.cell? ⟨b, o + j * 9, none⟩ = some (.slice A1 n1 c1) ∧ V.cell? ⟨b, o + j * 9 + 1, none⟩ = some (.slice A2 n2 c2) ∧ V.cell? ⟨b, o + j * 9 + 2, none⟩ = some (.int .i64 L0) ∧ V.cell? ⟨b, o + j * 9 + 3, none⟩ = some (.int .u32 (r0_.1 : Int)) ∧ V.cell? ⟨b, o + j * 9 + 4, none⟩ = some (.int .u64 (r0_.2.1 : Int)) ∧ V.cell? ⟨b, o + j * 9 + 5, none⟩ = some (.int .u16 (r0_.2.2 : Int)) ∧ V.cell? ⟨b, o + j * 9 + 6, none⟩ = some (.int .u32 (s0_.1 : Int)) ∧ V.cell? ⟨b, o + j * 9 + 7, none⟩ = some (.int .u64 (s0_.2.1 : Int)) ∧ V.cell? ⟨b, o + j * 9 + 8, none⟩ = some (.int .u16 (s0_.2.2 : Int)) ∧ Below W.heap.size wr V) (by kernel_rfl) ?th1 (fun hHeld => ?tk1)
              case th1 => ((try dsimp only); exact TR.out _ (HKM.out.cell 2) (Below.refl _ _).drew)
              refine' takeV 0 (oi := _) (d := _) (v := _) ?ti2 ?td2 (by kernel_rfl) (by kernel_rfl) (by kernel_rfl) (by kernel_rfl) (by decide) (fun _ _ _ _ _ h => h) ?tg2 ?ty2 (by assumption) ?tr2
              case ti2 => (simp only [List.getElem?_toArray, List.getElem?_cons_succ, List.getElem?_cons_zero]; rfl)
              case td2 => exact rfl
              case tg2 => exact rfl
              case ty2 => (intro w hSw; (try dsimp only at hSw); go_split_ands; go_simp; try with_reducible rfl)
              simp only [List.setIfInBounds_toArray, List.set_cons_zero, List.set_cons_succ]
              refine' takeV 1 (oi := _) (d := _) (v := _) ?ti3 ?td3 (by kernel_rfl) (by kernel_rfl) (by kernel_rfl) (by kernel_rfl) (by decide) (fun _ _ _ _ _ h => h) ?tg3 ?ty3 (by assumption) ?tr3
              case ti3 => (simp only [List.getElem?_toArray, List.getElem?_cons_succ, List.getElem?_cons_zero]; rfl)
              case td3 => exact rfl
              case tg3 => exact rfl
              case ty3 => (intro w hSw; (try dsimp only at hSw); go_split_ands; go_simp; try with_reducible rfl)
              simp only [List.setIfInBounds_toArray, List.set_cons_zero, List.set_cons_succ]
              refine' takeV 2 (oi := _) (d := _) (v := _) ?ti4 ?td4 (by kernel_rfl) (by kernel_rfl) (by kernel_rfl) (by kernel_rfl) (by decide) (fun _ _ _ _ _ h => h) ?tg4 ?ty4 (by assumption) ?tr4
              case ti4 => (simp only [List.getElem?_toArray, List.getElem?_cons_succ, List.getElem?_cons_zero]; rfl)
              case td4 => exact rfl
              case tg4 => exact rfl
              case ty4 => (intro w hSw; (try dsimp only at hSw); go_split_ands; go_simp; try with_reducible rfl)
              simp only [List.setIfInBounds_toArray, List.set_cons_zero, List.set_cons_succ]
              refine' takeV 3 (oi := _) (d := _) (v := _) ?ti5 ?td5 (by kernel_rfl) (by kernel_rfl) (by kernel_rfl) (by kernel_rfl) (by decide) (fun _ _ _ _ _ h => h) ?tg5 ?ty5 (by assumption) ?tr5
              case ti5 => (simp only [List.getElem?_toArray, List.getElem?_cons_succ, List.getElem?_cons_zero]; rfl)
              case td5 => exact rfl
              case tg5 => exact rfl
              case ty5 => (intro w hSw; (try dsimp only at hSw); go_split_ands; go_simp; try with_reducible rfl)
              simp only [List.setIfInBounds_toArray, List.set_cons_zero, List.set_cons_succ]
              refine' takeV 4 (oi := _) (d := _) (v := _) ?ti6 ?td6 (by kernel_rfl) (by kernel_rfl) (by kernel_rfl) (by kernel_rfl) (by decide) (fun _ _ _ _ _ h => h) ?tg6 ?ty6 (by assumption) ?tr6
              case ti6 => (simp only [List.getElem?_toArray, List.getElem?_cons_succ, List.getElem?_cons_zero]; rfl)
              case td6 => exact rfl
              case tg6 => exact rfl
              case ty6 => (intro w hSw; (try dsimp only at hSw); go_split_ands; go_simp; try with_reducible rfl)
              simp only [List.setIfInBounds_toArray, List.set_cons_zero, List.set_cons_succ]
              refine' takeV 5 (oi := _) (d := _) (v := _) ?ti7 ?td7 (by kernel_rfl) (by kernel_rfl) (by kernel_rfl) (by kernel_rfl) (by decide) (fun _ _ _ _ _ h => h) ?tg7 ?ty7 (by assumption) ?tr7
              case ti7 => (simp only [List.getElem?_toArray, List.getElem?_cons_succ, List.getElem?_cons_zero]; rfl)
              case td7 => exact rfl
              case tg7 => exact rfl
              case ty7 => (intro w hSw; (try dsimp only at hSw); go_split_ands; go_simp; try with_reducible rfl)
              simp only [List.setIfInBounds_toArray, List.set_cons_zero, List.set_cons_succ]
              refine' takeV 6 (oi := _) (d := _) (v := _) ?ti8 ?td8 (by kernel_rfl) (by kernel_rfl) (by kernel_rfl) (by kernel_rfl) (by decide) (fun _ _ _ _ _ h => h) ?tg8 ?ty8 (by assumption) ?tr8
              case ti8 => (simp only [List.getElem?_toArray, List.getElem?_cons_succ, List.getElem?_cons_zero]; rfl)
              case td8 => exact rfl
              case tg8 => exact rfl
              case ty8 => (intro w hSw; (try dsimp only at hSw); go_split_ands; go_simp; try with_reducible rfl)
              simp only [List.setIfInBounds_toArray, List.set_cons_zero, List.set_cons_succ]
              obtain ⟨V0, hV0⟩ : ∃ V0, V0 = wr.drew := ⟨_, rfl⟩
              have B0 : Hid (Below wr.heap.size wr V0) := by rw [hV0]; exact (Below.refl _ _).drew
              rw [← hV0]
              clear hV0 hHeld
              have s0 := B0.out.size
              refine stepG 7 (by kernel_rfl) (by simp only [List.getElem?_toArray, List.getElem?_cons_succ, List.getElem?_cons_zero]; rfl) (fun K hK => ?_)
              go_simp
              refine (copyent_any A1 n1 c1 A2 n2 c2 L0 r0_ s0_ Ky Va _ (HRK.out.below B0.out) (HRV.out.below B0.out) hln.1 hln.2).mono ?_
              rintro e wm1 ⟨B1, d1, B2, d2, rfl, hown1, hown2, hb1⟩
              refine hK.out _ _ ?ts9 (fun hHeld => ?_)
              case ts9 => ((try dsimp only); exact TR.out _ ((HKM.out.below (B0.out.trans (hb1.mono s0)) HKM.out.lt).cell 2) ((B0.out.trans (hb1.mono s0)).mono (by omega)))
              clear hK K
              have BB1 := Lib.hid (B0.out.trans (hb1.mono s0))
              have s1 := BB1.out.size
              have hec : EC wm1 W.heap.size (enC B1 n1 d1 B2 n2 d2 L0 r0_ s0_) (LL.getD (n + j) ent0) := by
                rw [HEN.out]
                exact ⟨B1, n1, d1, B2, n2, d2, rfl, hown1.mono (by omega), hown2.mono (by omega)⟩
              have HEC := Lib.hid hec
              clear hown1 hown2 hb1 hHeld hec
              refine stepG 8 (by kernel_rfl) (by simp only [List.getElem?_toArray, List.getElem?_cons_succ, List.getElem?_cons_zero]; rfl) (fun K hK => ?_)
              go_simp
              refine hK.out _ _ ?ts10 (fun hHeld => ?_)
              case ts10 => ((try dsimp only); exact TR.out _ ((HKM.out.below (BB1.out.alloc s1 _) HKM.out.lt).cell 2) ((BB1.out.alloc s1 _).mono (by omega)))
              clear hK K
              obtain ⟨V2, hV2⟩ : ∃ V2, V2 = wm1.alloc (.cells (enA B1 n1 d1 B2 n2 d2 L0 r0_ s0_) 46) := ⟨_, rfl⟩
              have KE : Hid (Blk V2 wm1.heap.size 46 (enC B1 n1 d1 B2 n2 d2 L0 r0_ s0_).toArray) := by rw [hV2]; exact Blk.new _ _ _
              have BB2 : Hid (Below wr.heap.size wr V2) := by rw [hV2]; exact BB1.out.alloc s1 _
              have HEC2 : Hid (EC V2 W.heap.size (enC B1 n1 d1 B2 n2 d2 L0 r0_ s0_) (LL.getD (n + j) ent0)) := by rw [hV2]; exact HEC.out.below (below_new _ _)
              have s2 := BB2.out.size
              rw [← hV2] at hHeld ⊢
              clear hV2 HEC hHeld
              obtain ⟨css, hoe, hall⟩ := HO.out
              have HOE2 := Lib.hid (hoe.below BB2.out)
              have HALL2 : Hid (∀ jj, jj < (n + j) → EC V2 W.heap.size (css.getD jj []) (LL.getD jj ent0)) := fun jj hj => (hall jj hj).below BB2.out
              have KM2 := Lib.hid (HKM.out.below BB2.out HKM.out.lt)
              clear hoe hall
              refine stepG 9 (by kernel_rfl) (by simp only [List.getElem?_toArray, List.getElem?_cons_succ, List.getElem?_cons_zero]; rfl) (fun K hK => ?_)
              refine step_appE 22 Try.underlying22 rfl (.tmp 43) (.tmp 50) rfl rfl rfl HOE2.out KE.out rfl (enC_one _ _ _ _ _ _ _ _ _) (by omega) (by omega) ?_
              intro A4 c4 w3 hown3 hg3 hb3
              refine hK.out _ _ ?ts11 (fun hHeld => ?_)
              case ts11 => ((try dsimp only); exact TR.out _ ((HOE2.out.keepBlk KM2.out (by decide) hg3).cell 2) ((BB2.out.mono (by omega)).trans hb3))
              clear hK K
              have HPU := Lib.hid (OwnN.push HOE2.out HALL2.out HEC2.out hown3 hg3)
              have KM3 := Lib.hid (HOE2.out.keepBlk KM2.out (by decide) hg3)
              have BB3 : Hid (Below W.heap.size wr w3) := (BB2.out.mono (by omega)).trans hb3
              clear hown3 hg3 hb3
              refine stepG 10 (by kernel_rfl) (by simp only [List.getElem?_toArray, List.getElem?_cons_succ, List.getElem?_cons_zero]; rfl) (fun K hK => ?_)
              go_simp
              refine hK.out _ _ ?ts12 (fun hHeld => ?_)
              case ts12 => ((try dsimp only); exact hHeld)
              clear hK K
              have hfr : w3.frozen? ⟨g8, 2, none⟩ = false := KM3.out.frozen 2
              refine stepGate 11 (by kernel_rfl) (by kernel_rfl) (by simp only [List.getElem?_toArray, List.getElem?_cons_succ, List.getElem?_cons_zero]; rfl) (fun K hK => ?_)
              go_simp
              refine hK.out _ _ ?_
              clear hK K
              refine doneG (by kernel_rfl) ?_ _
              clear hHeld
              go_wp2_with fail
              go_roundw
              case rel => exact ⟨j + 1, c4, A4, by omega, by go_num, KM3.out.set_ 2 _, HPU.out.keptE KM3.out (by decide) (by decide) (grown_setCell _ _ _ _), (HBE.out.trans BB3.out).setCell hg8 _⟩
              case measure => first | (simp [intOf]; done) | (simp [intOf]; omega)
            · obtain rfl : j = n' := by omega
              have j2 : decide ((j : Int) < (j : Int)) = false := decide_eq_false (by omega)
              have HNN2 := HNN.out
              rw [HNN2] at HKM HO
              clear HNN2 hlt hj
              have s5 := hbs
              have m0 : wr.cell? ⟨g8, 0, none⟩ = some (.int .u8 (k : Int)) := HKM.out.cell 0
              obtain ⟨w5', hw5'⟩ : ∃ w5', w5' = wr := ⟨_, rfl⟩
              by_cases hk2 : k = 2
              · have hd : ((k : Int) == 2) = true := by rw [beq_iff_eq]; omega
                have hn'0 : 0 < j := HPOS.out hk2
                have HLk : Hid (L = setK LL n key) := by show _ = _; rw [← HL.out, oneL, if_pos hk2, ← HLn.out, HLL2.out]
                clear hk2
                go_upto_region 9 with fail
                clear m0 hd hw5' dn
                have HK5 := HKM
                have HO5 := HO
                have HB5 := HBE
                clear HKM HO HBE
                have NA5 := Lib.hid (NA.out.below HB5.out)
                have hnN : n < N := by have := HNN.out; omega
                obtain ⟨g9, v9, rfl, a9, fr9, hg9⟩ := HO5.out.cellAt n hnN
                have HL9 := Lib.hid (HO5.out.lt _ rfl)
                have hN9 : N ≤ c3 := HO5.out.cap.1
                have hc9 : c3 ≤ 9223372036854775807 := by have := HO5.out.cap.2; unfold maxLen at this; omega
                have i1 : (0 : Int) ≤ (n : Int) := by omega
                have i2 : (n : Int) < (N : Int) := by omega
                refine region_gate 9 (fun V => V.cell? ⟨g8, 2, none⟩ = some (.slice (some ⟨g9, 0, none⟩) N c3) ∧ V.cell? ⟨w.heap.size, 2, none⟩ = some (.slice A n c)) (by kernel_rfl) ?th13 (fun hHeld => ?tk13)
                case th13 => ((try dsimp only); exact ⟨HK5.out.cell 2, NA5.out.c2⟩)
                refine' takeV 0 (oi := _) (d := _) (v := _) ?ti14 ?td14 (by kernel_rfl) (by kernel_rfl) (by kernel_rfl) (by kernel_rfl) (by decide) (fun _ _ _ _ _ h => h) ?tg14 ?ty14 (by assumption) ?tr14
                case ti14 => (simp only [List.getElem?_toArray, List.getElem?_cons_succ, List.getElem?_cons_zero]; rfl)
                case td14 => exact rfl
                case tg14 => exact rfl
                case ty14 => (intro w hSw; (try dsimp only at hSw); go_split_ands; go_simp; try with_reducible rfl)
                simp only [List.setIfInBounds_toArray, List.set_cons_zero, List.set_cons_succ]
                refine' takeV 1 (oi := _) (d := _) (v := _) ?ti15 ?td15 (by kernel_rfl) (by kernel_rfl) (by kernel_rfl) (by kernel_rfl) (by decide) (fun _ _ _ _ _ h => h) ?tg15 ?ty15 (by assumption) ?tr15
                case ti15 => (simp only [List.getElem?_toArray, List.getElem?_cons_succ, List.getElem?_cons_zero]; rfl)
                case td15 => exact rfl
                case tg15 => exact rfl
                case ty15 => (intro w hSw; (try dsimp only at hSw); go_split_ands; go_simp; try with_reducible rfl)
                simp only [List.setIfInBounds_toArray, List.set_cons_zero, List.set_cons_succ]
                refine' takeV 2 (oi := _) (d := _) (v := _) ?ti16 ?td16 (by kernel_rfl) (by kernel_rfl) (by kernel_rfl) (by kernel_rfl) (by decide) (fun _ _ _ _ _ h => h) ?tg16 ?ty16 (by assumption) ?tr16
                case ti16 => (simp only [List.getElem?_toArray, List.getElem?_cons_succ, List.getElem?_cons_zero]; rfl)
                case td16 => exact rfl
                case tg16 => exact rfl
                case ty16 => (intro w hSw; (try dsimp only at hSw); go_split_ands; go_simp; try with_reducible rfl)
                simp only [List.setIfInBounds_toArray, List.set_cons_zero, List.set_cons_succ]
                refine' takeV 3 (oi := _) (d := _) (v := _) ?ti17 ?td17 (by kernel_rfl) (by kernel_rfl) (by kernel_rfl) (by kernel_rfl) (by decide) (fun _ _ _ _ _ h => h) ?tg17 ?ty17 (by assumption) ?tr17
                case ti17 => (simp only [List.getElem?_toArray, List.getElem?_cons_succ, List.getElem?_cons_zero]; rfl)
                case td17 => exact rfl
                case tg17 => exact rfl
                case ty17 => (intro w hSw; (try dsimp only at hSw); go_split_ands; go_simp; try with_reducible rfl)
                simp only [List.setIfInBounds_toArray, List.set_cons_zero, List.set_cons_succ]
                refine' takeV 4 (oi := _) (d := _) (v := _) ?ti18 ?td18 (by kernel_rfl) (by kernel_rfl) (by kernel_rfl) (by kernel_rfl) (by decide) (fun _ _ _ _ _ h => h) ?tg18 ?ty18 (by assumption) ?tr18
                case ti18 => (simp only [List.getElem?_toArray, List.getElem?_cons_succ, List.getElem?_cons_zero]; rfl)
                case td18 => exact rfl
                case tg18 => exact rfl
                case ty18 => (intro w hSw; (try dsimp only at hSw); go_split_ands; go_simp; try with_reducible rfl)
                simp only [List.setIfInBounds_toArray, List.set_cons_zero, List.set_cons_succ]
                refine' takeV 5 (oi := _) (d := _) (v := _) ?ti19 ?td19 (by kernel_rfl) (by kernel_rfl) (by kernel_rfl) (by kernel_rfl) (by decide) (fun _ _ _ _ _ h => h) ?tg19 ?ty19 (by assumption) ?tr19
                case ti19 => (simp only [List.getElem?_toArray, List.getElem?_cons_succ, List.getElem?_cons_zero]; rfl)
                case td19 => exact rfl
                case tg19 => exact rfl
                case ty19 => (intro w hSw; (try dsimp only at hSw); go_split_ands; go_simp; try with_reducible rfl)
                simp only [List.setIfInBounds_toArray, List.set_cons_zero, List.set_cons_succ]
                obtain ⟨V0, hV0⟩ : ∃ V0, V0 = wr.drew := ⟨_, rfl⟩
                have b0 : Below wr.heap.size wr V0 := by rw [hV0]; exact (Below.refl _ _).drew
                rw [← hV0] at hHeld ⊢
                clear hV0
                have hl8 := HK5.out.lt
                have hln := NA5.out.blk.lt
                have t0 := b0.size
                have hRk := (HKY.out.below HB5.out).below b0
                clear hHeld
                refine stepG 6 (by kernel_rfl) (by simp only [List.getElem?_toArray, List.getElem?_cons_succ, List.getElem?_cons_zero]; rfl) (fun K hK => ?_)
                go_simp
                refine (copy_any Ak nk ck key V0 hRk hkn).mono ?_
                rintro e v2 ⟨B1, d1, rfl, hown2, hb2⟩
                refine hK.out _ _ ?ts20 (fun hHeld => ?_)
                case ts20 => ((try dsimp only); (have hx := b0.trans (hb2.mono t0); exact ⟨(HK5.out.below hx hl8).cell 2, (NA5.out.blk.below hx hln).cell 2⟩))
                clear hK K
                have hx2 : Below wr.heap.size wr v2 := b0.trans (hb2.mono t0)
                have t2 := hx2.size
                have OK2 : Own v2 W.heap.size B1 nk d1 key := Own.mono hown2 (by omega)
                have O2 := HO5.out.below hx2
                have a2 : v2.cell? ⟨g9, n * 9, none⟩ = some v9 := (hx2.cell (p := ⟨g9, n * 9, none⟩) HL9.out).trans a9
                have fr2 : v2.frozen? ⟨g9, n * 9, none⟩ = false := (hx2.frozen (p := ⟨g9, n * 9, none⟩) HL9.out).trans fr9
                have HKA := Lib.hid (O2.keyAt n hnN HLLN.out.symm OK2)
                have HK2 := Lib.hid (HK5.out.below hx2 hl8)
                have HG2 := Lib.hid (grown_setCell v2 g9 (n * 9) (.slice B1 nk d1))
                have HX2 : Hid (Below W.heap.size W v2) := HB5.out.trans (hx2.mono s5)
                have sx2 := HX2.out.size
                have HNE : Hid (OwnN v2 W.heap.size (some ⟨g9, 0, none⟩) N c3 LL) := O2
                clear hown2 hb2 hRk OK2 O2 a9 fr9
                refine' takeW 7 (oi := _) (d := _) (v := _) ?ti21 ?td21 (by kernel_rfl) (by kernel_rfl) (by kernel_rfl) (by decide) (fun _ _ _ _ _ h => h) ?tg21 ?ty21 ?tf21 ?tr21
                case ti21 => (simp only [List.getElem?_toArray, List.getElem?_cons_succ, List.getElem?_cons_zero]; rfl)
                case td21 => exact rfl
                case tg21 => exact rfl
                case ty21 => (intro w; go_simp; try with_reducible rfl)
                case tf21 => first | (intro _; assumption) | (intro e; exact absurd e (by decide +kernel))
                simp only [List.setIfInBounds_toArray, List.set_cons_zero, List.set_cons_succ]
                refine' takeW 8 (oi := _) (d := _) (v := _) ?ti22 ?td22 (by kernel_rfl) (by kernel_rfl) (by kernel_rfl) (by decide) (fun _ _ _ _ _ h => h) ?tg22 ?ty22 ?tf22 ?tr22
                case ti22 => (simp only [List.getElem?_toArray, List.getElem?_cons_succ, List.getElem?_cons_zero]; rfl)
                case td22 => exact rfl
                case tg22 => exact rfl
                case ty22 => (intro w; go_simp; try with_reducible rfl)
                case tf22 => first | (intro _; assumption) | (intro e; exact absurd e (by decide +kernel))
                simp only [List.setIfInBounds_toArray, List.set_cons_zero, List.set_cons_succ]
                clear hHeld
                refine stepGate 9 (by kernel_rfl) (by kernel_rfl) (by simp only [List.getElem?_toArray, List.getElem?_cons_succ, List.getElem?_cons_zero]; rfl) (fun K hK => ?_)
                go_simp
                refine hK.out _ _ ?_
                clear hK K
                refine doneG (by kernel_rfl) ?_ _
                go_upto_region 10 with fail
                obtain ⟨w6, hw6⟩ : ∃ w6, w6 = v2.setCell ⟨g9, n * 9, none⟩ (.slice B1 nk d1) := ⟨_, rfl⟩
                rw [← hw6] at HKA HG2 ⊢
                clear hw6 a2 fr2
                have HO : Hid (OwnN w6 W.heap.size (some ⟨g9, 0, none⟩) N c3 L) := by rw [HLk.out]; exact HKA.out
                have HKM : Hid (Blk w6 g8 24 (ndA k l (some ⟨g9, 0, none⟩) N c3)) := by obtain ⟨css, hoe, _⟩ := HNE.out; exact hoe.keepBlk HK2.out (by decide) HG2.out
                have HBE : Hid (Below W.heap.size W w6) := HX2.out.grown HG2.out (by omega) (by intro q hq; simp at hq; omega)
                clear HKA HK2 HNE HX2 HK5 HO5 NA5 HB5 s5 hx2 b0
                have m0 : w6.cell? ⟨g8, 0, none⟩ = some (.int .u8 (k : Int)) := HKM.out.cell 0
                have m1 : w6.cell? ⟨g8, 1, none⟩ = some (.int .u8 (l : Int)) := HKM.out.cell 1
                have m2 : w6.cell? ⟨g8, 2, none⟩ = some (.slice (some ⟨g9, 0, none⟩) N c3) := HKM.out.cell 2
                refine region_gate 6 (fun V => V.cell? ⟨g8, 0, none⟩ = some (.int .u8 (k : Int)) ∧ V.cell? ⟨g8, 1, none⟩ = some (.int .u8 (l : Int)) ∧ V.cell? ⟨g8, 2, none⟩ = some (.slice (some ⟨g9, 0, none⟩) N c3)) (by kernel_rfl) ?th23 (fun hHeld => ?tk23)
                case th23 => ((try dsimp only); exact ⟨m0, m1, m2⟩)
                refine' takeV 0 (oi := _) (d := _) (v := _) ?ti24 ?td24 (by kernel_rfl) (by kernel_rfl) (by kernel_rfl) (by kernel_rfl) (by decide) (fun _ _ _ _ _ h => h) ?tg24 ?ty24 (by assumption) ?tr24
                case ti24 => (simp only [List.getElem?_toArray, List.getElem?_cons_succ, List.getElem?_cons_zero]; rfl)
                case td24 => exact rfl
                case tg24 => exact rfl
                case ty24 => (intro w hSw; (try dsimp only at hSw); go_split_ands; go_simp; try with_reducible rfl)
                simp only [List.setIfInBounds_toArray, List.set_cons_zero, List.set_cons_succ]
                refine' takeV 1 (oi := _) (d := _) (v := _) ?ti25 ?td25 (by kernel_rfl) (by kernel_rfl) (by kernel_rfl) (by kernel_rfl) (by decide) (fun _ _ _ _ _ h => h) ?tg25 ?ty25 (by assumption) ?tr25
                case ti25 => (simp only [List.getElem?_toArray, List.getElem?_cons_succ, List.getElem?_cons_zero]; rfl)
                case td25 => exact rfl
                case tg25 => exact rfl
                case ty25 => (intro w hSw; (try dsimp only at hSw); go_split_ands; go_simp; try with_reducible rfl)
                simp only [List.setIfInBounds_toArray, List.set_cons_zero, List.set_cons_succ]
                obtain ⟨V0, hV0⟩ : ∃ V0, V0 = w6.drew := ⟨_, rfl⟩
                have b0 : Below w6.heap.size w6 V0 := by rw [hV0]; exact (Below.refl _ _).drew
                rw [← hV0] at hHeld ⊢
                clear hV0 m0 m1 m2
                have k0 := Lib.hid (HKM.out.below b0 HKM.out.lt)
                have O0 := Lib.hid (HO.out.below b0)
                have B0 : Hid (Below W.heap.size W V0) := HBE.out.trans (b0.mono HBE.out.size)
                have s0 := B0.out.size
                have HC := refright_any k l (some ⟨g9, 0, none⟩) N c3 L V0 (O0.out.rdl HLL.out.symm) hk hl
                rw [HEE.out] at HC
                clear hHeld b0
                refine stepG 2 (by kernel_rfl) (by simp only [List.getElem?_toArray, List.getElem?_cons_succ, List.getElem?_cons_zero]; rfl) (fun K hK => ?_)
                go_simp
                refine (HC).mono ?_
                rintro e v1 ⟨rfl, hb⟩
                refine hK.out _ _ ?ts26 (fun hHeld => ?_)
                case ts26 => ((try dsimp only); (have q := k0.out.below hb k0.out.lt; exact ⟨q.cell 0, q.cell 1, q.cell 2⟩))
                clear hK K
                have k1 := Lib.hid (k0.out.below hb k0.out.lt)
                have O1 := Lib.hid (O0.out.below hb)
                have B1 : Hid (Below W.heap.size W v1) := B0.out.trans (hb.mono s0)
                have s1 := B1.out.size
                have kz := Lib.hid (KZ.out.below B1.out KZ.out.lt)
                have tokE : (E == 0) = qq := HQQ.out
                clear HC hb
                refine' takeV 3 (oi := _) (d := _) (v := _) ?ti27 ?td27 (by kernel_rfl) (by kernel_rfl) (by kernel_rfl) (by kernel_rfl) (by decide) (fun _ _ _ _ _ h => h) ?tg27 ?ty27 (by assumption) ?tr27
                case ti27 => (simp only [List.getElem?_toArray, List.getElem?_cons_succ, List.getElem?_cons_zero]; rfl)
                case td27 => exact rfl
                case tg27 => exact rfl
                case ty27 => (intro w hSw; (try dsimp only at hSw); go_split_ands; go_simp; try with_reducible rfl)
                simp only [List.setIfInBounds_toArray, List.set_cons_zero, List.set_cons_succ]
                clear hHeld
                refine stepG 4 (by kernel_rfl) (by simp only [List.getElem?_toArray, List.getElem?_cons_succ, List.getElem?_cons_zero]; rfl) (fun K hK => ?_)
                refine step_store_blk rfl 24 (.tmp 6) (.tmp 65) rfl rfl (cs := [.int .u8 (k : Int), .int .u8 (l : Int), .slice (some ⟨g9, 0, none⟩) N c3]) rfl kz.out rfl infoNd (nd_one _ _ _ _ _) ?_
                intro wa hka hga
                refine hK.out _ _ ?ts28 (fun hHeld => ?_)
                case ts28 => ((try dsimp only); (have q := k1.out.keep_grown hga (by simp; omega); exact ⟨q.cell 0, q.cell 1, q.cell 2⟩))
                clear hK K
                refine' takeV 5 (oi := _) (d := _) (v := _) ?ti29 ?td29 (by kernel_rfl) (by kernel_rfl) (by kernel_rfl) (by kernel_rfl) (by decide) (fun _ _ _ _ _ h => h) ?tg29 ?ty29 (by assumption) ?tr29
                case ti29 => (simp only [List.getElem?_toArray, List.getElem?_cons_succ, List.getElem?_cons_zero]; rfl)
                case td29 => exact rfl
                case tg29 => exact rfl
                case ty29 => (intro w hSw; (try dsimp only at hSw); go_split_ands; go_simp; try with_reducible rfl)
                simp only [List.setIfInBounds_toArray, List.set_cons_zero, List.set_cons_succ]
                refine doneG (by kernel_rfl) ?_ _
                clear hHeld
                go_wp2_with fail
                have e0 := hka.cell 0
                have e1 := hka.cell 1
                have e2 := hka.cell 2
                refine bodyPost_ret (v := .tuple #[NdV k l (some ⟨g9, 0, none⟩) N c3, .bool qq]) ?_ rfl ?_
                · simp [results, Try.results50, go_sem, e0, e1, e2]
                · rw [HOK.out]
                  refine NodB.some_ HLL.out.symm ?_ ((HWB.out.trans (B1.out.mono HWB.out.size)).grown hga (by omega) (by intro q hq; simp at hq; omega))
                  exact (O1.out.keptE kz.out (by decide) (by decide) hga).mono (by omega)
              · have hd : ((k : Int) == 2) = false := by rw [beq_eq_false_iff_ne]; omega
                have HLk : Hid (L = LL) := by show _ = _; rw [← HL.out, oneL, if_neg hk2, HLL2.out]
                clear hk2
                go_upto_region 10 with fail
                clear m0 hd dn hw5'
                rw [← HLk.out] at HO
                obtain ⟨A9, hA9⟩ : ∃ A9, A9 = A3 := ⟨_, rfl⟩
                obtain ⟨c9, hc9⟩ : ∃ c9, c9 = c3 := ⟨_, rfl⟩
                subst hA9
                subst hc9
                have m0 : wr.cell? ⟨g8, 0, none⟩ = some (.int .u8 (k : Int)) := HKM.out.cell 0
                have m1 : wr.cell? ⟨g8, 1, none⟩ = some (.int .u8 (l : Int)) := HKM.out.cell 1
                have m2 : wr.cell? ⟨g8, 2, none⟩ = some (.slice A9 N c9) := HKM.out.cell 2
                refine region_gate 6 (fun V => V.cell? ⟨g8, 0, none⟩ = some (.int .u8 (k : Int)) ∧ V.cell? ⟨g8, 1, none⟩ = some (.int .u8 (l : Int)) ∧ V.cell? ⟨g8, 2, none⟩ = some (.slice A9 N c9)) (by kernel_rfl) ?th30 (fun hHeld => ?tk30)
                case th30 => ((try dsimp only); exact ⟨m0, m1, m2⟩)
                refine' takeV 0 (oi := _) (d := _) (v := _) ?ti31 ?td31 (by kernel_rfl) (by kernel_rfl) (by kernel_rfl) (by kernel_rfl) (by decide) (fun _ _ _ _ _ h => h) ?tg31 ?ty31 (by assumption) ?tr31
                case ti31 => (simp only [List.getElem?_toArray, List.getElem?_cons_succ, List.getElem?_cons_zero]; rfl)
                case td31 => exact rfl
                case tg31 => exact rfl
                case ty31 => (intro w hSw; (try dsimp only at hSw); go_split_ands; go_simp; try with_reducible rfl)
                simp only [List.setIfInBounds_toArray, List.set_cons_zero, List.set_cons_succ]
                refine' takeV 1 (oi := _) (d := _) (v := _) ?ti32 ?td32 (by kernel_rfl) (by kernel_rfl) (by kernel_rfl) (by kernel_rfl) (by decide) (fun _ _ _ _ _ h => h) ?tg32 ?ty32 (by assumption) ?tr32
                case ti32 => (simp only [List.getElem?_toArray, List.getElem?_cons_succ, List.getElem?_cons_zero]; rfl)
                case td32 => exact rfl
                case tg32 => exact rfl
                case ty32 => (intro w hSw; (try dsimp only at hSw); go_split_ands; go_simp; try with_reducible rfl)
                simp only [List.setIfInBounds_toArray, List.set_cons_zero, List.set_cons_succ]
                obtain ⟨V0, hV0⟩ : ∃ V0, V0 = wr.drew := ⟨_, rfl⟩
                have b0 : Below wr.heap.size wr V0 := by rw [hV0]; exact (Below.refl _ _).drew
                rw [← hV0] at hHeld ⊢
                clear hV0 m0 m1 m2
                have k0 := Lib.hid (HKM.out.below b0 HKM.out.lt)
                have O0 := Lib.hid (HO.out.below b0)
                have B0 : Hid (Below W.heap.size W V0) := HBE.out.trans (b0.mono HBE.out.size)
                have s0 := B0.out.size
                have HC := refright_any k l A9 N c9 L V0 (O0.out.rdl HLL.out.symm) hk hl
                rw [HEE.out] at HC
                clear hHeld b0
                refine stepG 2 (by kernel_rfl) (by simp only [List.getElem?_toArray, List.getElem?_cons_succ, List.getElem?_cons_zero]; rfl) (fun K hK => ?_)
                go_simp
                refine (HC).mono ?_
                rintro e v1 ⟨rfl, hb⟩
                refine hK.out _ _ ?ts33 (fun hHeld => ?_)
                case ts33 => ((try dsimp only); (have q := k0.out.below hb k0.out.lt; exact ⟨q.cell 0, q.cell 1, q.cell 2⟩))
                clear hK K
                have k1 := Lib.hid (k0.out.below hb k0.out.lt)
                have O1 := Lib.hid (O0.out.below hb)
                have B1 : Hid (Below W.heap.size W v1) := B0.out.trans (hb.mono s0)
                have s1 := B1.out.size
                have kz := Lib.hid (KZ.out.below B1.out KZ.out.lt)
                have tokE : (E == 0) = qq := HQQ.out
                clear HC hb
                refine' takeV 3 (oi := _) (d := _) (v := _) ?ti34 ?td34 (by kernel_rfl) (by kernel_rfl) (by kernel_rfl) (by kernel_rfl) (by decide) (fun _ _ _ _ _ h => h) ?tg34 ?ty34 (by assumption) ?tr34
                case ti34 => (simp only [List.getElem?_toArray, List.getElem?_cons_succ, List.getElem?_cons_zero]; rfl)
                case td34 => exact rfl
                case tg34 => exact rfl
                case ty34 => (intro w hSw; (try dsimp only at hSw); go_split_ands; go_simp; try with_reducible rfl)
                simp only [List.setIfInBounds_toArray, List.set_cons_zero, List.set_cons_succ]
                clear hHeld
                refine stepG 4 (by kernel_rfl) (by simp only [List.getElem?_toArray, List.getElem?_cons_succ, List.getElem?_cons_zero]; rfl) (fun K hK => ?_)
                refine step_store_blk rfl 24 (.tmp 6) (.tmp 65) rfl rfl (cs := [.int .u8 (k : Int), .int .u8 (l : Int), .slice A9 N c9]) rfl kz.out rfl infoNd (nd_one _ _ _ _ _) ?_
                intro wa hka hga
                refine hK.out _ _ ?ts35 (fun hHeld => ?_)
                case ts35 => ((try dsimp only); (have q := k1.out.keep_grown hga (by simp; omega); exact ⟨q.cell 0, q.cell 1, q.cell 2⟩))
                clear hK K
                refine' takeV 5 (oi := _) (d := _) (v := _) ?ti36 ?td36 (by kernel_rfl) (by kernel_rfl) (by kernel_rfl) (by kernel_rfl) (by decide) (fun _ _ _ _ _ h => h) ?tg36 ?ty36 (by assumption) ?tr36
                case ti36 => (simp only [List.getElem?_toArray, List.getElem?_cons_succ, List.getElem?_cons_zero]; rfl)
                case td36 => exact rfl
                case tg36 => exact rfl
                case ty36 => (intro w hSw; (try dsimp only at hSw); go_split_ands; go_simp; try with_reducible rfl)
                simp only [List.setIfInBounds_toArray, List.set_cons_zero, List.set_cons_succ]
                refine doneG (by kernel_rfl) ?_ _
                clear hHeld
                go_wp2_with fail
                have e0 := hka.cell 0
                have e1 := hka.cell 1
                have e2 := hka.cell 2
                refine bodyPost_ret (v := .tuple #[NdV k l A9 N c9, .bool qq]) ?_ rfl ?_
                · simp [results, Try.results50, go_sem, e0, e1, e2]
                · rw [HOK.out]
                  refine NodB.some_ HLL.out.symm ?_ ((HWB.out.trans (B1.out.mono HWB.out.size)).grown hga (by omega) (by intro q hq; simp at hq; omega))
                  exact (O1.out.keptE kz.out (by decide) (by decide) hga).mono (by omega)
        · have HBAD : Hid (oneB k l es k' l' es' = false ∧ (oneB k l es k' l' es' && (rE k l (oneL k es es' key) == 0)) = false) := by
            have : oneB k l es k' l' es' = false := by simp [oneB, hll]
            exact ⟨this, by rw [this]; rfl⟩
          obtain ⟨b1, hb1⟩ : ∃ b1, b1 = oneB k l es k' l' es' := ⟨_, rfl⟩
          obtain ⟨b2, hb2⟩ : ∃ b2, b2 = (oneB k l es k' l' es' && (rE k l (oneL k es es' key) == 0)) := ⟨_, rfl⟩
          rw [← hb2, ← hb1] at HBAD ⊢
          clear hb1 hb2
          subst hkk
          have HR2 := Lib.hid (fun V (hb : Below W.heap.size W V) => refright_any k l' A' n' c' es' V (NB.out.below hb).rd hk hl')
          rw [hr'] at HR2
          have j0 : ((k : Int) != (k : Int)) = false := by rw [bne_eq_false_iff_eq]
          have j1 : ((l : Int) != (l' : Int)) = true := by rw [bne_iff_ne]; omega
          clear hr hr'
          go_enter Try.func50, Try.ntmps50
          go_wp2_with fail
          rw [← HW.out]
          refine HM.out.mono ?_
          rintro e w1 ⟨rfl, hb1⟩
          have NB1 := Lib.hid (NB.out.below hb1)
          have HB1 := Lib.hid hb1
          have s1 := hb1.size
          have HCC := Lib.hid (HR2.out w1 hb1)
          clear d0 d1 d2 hb1 HM
          have d0 := NB1.out.c0
          have d1 := NB1.out.c1
          have d2 := NB1.out.c2
          go_wp2_with fail
          refine HCC.out.mono ?_
          rintro e w2 ⟨rfl, hb2⟩
          have HB2 : Hid (Below W.heap.size W w2) := HB1.out.trans (hb2.mono s1)
          have NB2 := Lib.hid (NB.out.below HB2.out)
          have NA2 := Lib.hid (NA.out.below HB2.out)
          clear d0 d1 d2 hb2 HCC HB1 NB1
          have d0 := NB2.out.c0
          have d1 := NB2.out.c1
          have d2 := NB2.out.c2
          have f0 := NA2.out.c0
          have f1 := NA2.out.c1
          have f2 := NA2.out.c2
          have kz := Lib.hid (KZ.out.below HB2.out KZ.out.lt)
          have hi0 : (Try.prog.info? 24).map (·.size) = some [Value.int .u8 0, .int .u8 0, .slice none 0 0].length := infoNd
          have ho0 : ∀ v ∈ [Value.int .u8 0, .int .u8 0, .slice none 0 0], v.oneCell' = true := nd_one 0 0 none 0 0
          go_wp2_with (with_reducible refine wpList_store_blk rfl 24 (.tmp 6) (.tmp 32) rfl rfl (cs := [Value.int .u8 0, .int .u8 0, .slice none 0 0]) rfl kz.out z3len hi0 ho0 ?_; intro w9 hk9 hg9)
          have e0 := hk9.cell 0
          have e1 := hk9.cell 1
          have e2 := hk9.cell 2
          refine bodyPost_ret (v := .tuple #[NdV 0 0 none 0 0, .bool false]) ?_ rfl (NodB.none_ HBAD.out ((HWB.out.trans ((HB2.out).mono HWB.out.size)).grown hg9 (by have := (HB2.out).size; omega) (by intro q hq; simp at hq; omega)))
          simp [results, Try.results50, go_sem, e0, e1, e2]
      · have HBAD : Hid (oneB k l es k' l' es' = false ∧ (oneB k l es k' l' es' && (rE k l (oneL k es es' key) == 0)) = false) := by
          have : oneB k l es k' l' es' = false := by simp [oneB, hkk]
          exact ⟨this, by rw [this]; rfl⟩
        obtain ⟨b1, hb1⟩ : ∃ b1, b1 = oneB k l es k' l' es' := ⟨_, rfl⟩
        obtain ⟨b2, hb2⟩ : ∃ b2, b2 = (oneB k l es k' l' es' && (rE k l (oneL k es es' key) == 0)) := ⟨_, rfl⟩
        rw [← hb2, ← hb1] at HBAD ⊢
        clear hb1 hb2
        have HR2 := Lib.hid (fun V (hb : Below W.heap.size W V) => refright_any k' l' A' n' c' es' V (NB.out.below hb).rd hk' hl')
        rw [hr'] at HR2
        have j0 : ((k : Int) != (k' : Int)) = true := by rw [bne_iff_ne]; omega
        clear hr hr'
        go_enter Try.func50, Try.ntmps50
        go_wp2_with fail
        rw [← HW.out]
        refine HM.out.mono ?_
        rintro e w1 ⟨rfl, hb1⟩
        have NB1 := Lib.hid (NB.out.below hb1)
        have HB1 := Lib.hid hb1
        have s1 := hb1.size
        have HCC := Lib.hid (HR2.out w1 hb1)
        clear d0 d1 d2 hb1 HM
        have d0 := NB1.out.c0
        have d1 := NB1.out.c1
        have d2 := NB1.out.c2
        go_wp2_with fail
        refine HCC.out.mono ?_
        rintro e w2 ⟨rfl, hb2⟩
        have HB2 : Hid (Below W.heap.size W w2) := HB1.out.trans (hb2.mono s1)
        have NB2 := Lib.hid (NB.out.below HB2.out)
        have NA2 := Lib.hid (NA.out.below HB2.out)
        clear d0 d1 d2 hb2 HCC HB1 NB1
        have d0 := NB2.out.c0
        have d1 := NB2.out.c1
        have d2 := NB2.out.c2
        have f0 := NA2.out.c0
        have f1 := NA2.out.c1
        have f2 := NA2.out.c2
        have kz := Lib.hid (KZ.out.below HB2.out KZ.out.lt)
        have hi0 : (Try.prog.info? 24).map (·.size) = some [Value.int .u8 0, .int .u8 0, .slice none 0 0].length := infoNd
        have ho0 : ∀ v ∈ [Value.int .u8 0, .int .u8 0, .slice none 0 0], v.oneCell' = true := nd_one 0 0 none 0 0
        go_wp2_with (with_reducible refine wpList_store_blk rfl 24 (.tmp 6) (.tmp 32) rfl rfl (cs := [Value.int .u8 0, .int .u8 0, .slice none 0 0]) rfl kz.out z3len hi0 ho0 ?_; intro w9 hk9 hg9)
        have e0 := hk9.cell 0
        have e1 := hk9.cell 1
        have e2 := hk9.cell 2
        refine bodyPost_ret (v := .tuple #[NdV 0 0 none 0 0, .bool false]) ?_ rfl (NodB.none_ HBAD.out ((HWB.out.trans ((HB2.out).mono HWB.out.size)).grown hg9 (by have := (HB2.out).size; omega) (by intro q hq; simp at hq; omega)))
        simp [results, Try.results50, go_sem, e0, e1, e2]
    · have HBAD : Hid (oneB k l es k' l' es' = false ∧ (oneB k l es k' l' es' && (rE k l (oneL k es es' key) == 0)) = false) := by
        have : oneB k l es k' l' es' = false := by simp [oneB, hr']
        exact ⟨this, by rw [this]; rfl⟩
      obtain ⟨b1, hb1⟩ : ∃ b1, b1 = oneB k l es k' l' es' := ⟨_, rfl⟩
      obtain ⟨b2, hb2⟩ : ∃ b2, b2 = (oneB k l es k' l' es' && (rE k l (oneL k es es' key) == 0)) := ⟨_, rfl⟩
      rw [← hb2, ← hb1] at HBAD ⊢
      clear hb1 hb2
      obtain ⟨E', HE'⟩ : ∃ E', Hid (rE k' l' es' = E') := ⟨_, rfl⟩
      have HR2 := Lib.hid (fun V (hb : Below W.heap.size W V) => refright_any k' l' A' n' c' es' V (NB.out.below hb).rd hk' hl')
      rw [HE'.out] at HR2
      have jE : (E' != 0) = true := by rw [bne_iff_ne, ← HE'.out]; exact hr'
      clear hr hr'
      go_enter Try.func50, Try.ntmps50
      go_wp2_with fail
      rw [← HW.out]
      refine HM.out.mono ?_
      rintro e w1 ⟨rfl, hb1⟩
      have NB1 := Lib.hid (NB.out.below hb1)
      have HB1 := Lib.hid hb1
      have s1 := hb1.size
      have HCC := Lib.hid (HR2.out w1 hb1)
      clear d0 d1 d2 hb1 HM
      have d0 := NB1.out.c0
      have d1 := NB1.out.c1
      have d2 := NB1.out.c2
      go_wp2_with fail
      refine HCC.out.mono ?_
      rintro e w2 ⟨rfl, hb2⟩
      have HB2 : Hid (Below W.heap.size W w2) := HB1.out.trans (hb2.mono s1)
      have NB2 := Lib.hid (NB.out.below HB2.out)
      have NA2 := Lib.hid (NA.out.below HB2.out)
      clear d0 d1 d2 hb2 HCC HB1 NB1
      have d0 := NB2.out.c0
      have d1 := NB2.out.c1
      have d2 := NB2.out.c2
      have f0 := NA2.out.c0
      have f1 := NA2.out.c1
      have f2 := NA2.out.c2
      have kz := Lib.hid (KZ.out.below HB2.out KZ.out.lt)
      have hi0 : (Try.prog.info? 24).map (·.size) = some [Value.int .u8 0, .int .u8 0, .slice none 0 0].length := infoNd
      have ho0 : ∀ v ∈ [Value.int .u8 0, .int .u8 0, .slice none 0 0], v.oneCell' = true := nd_one 0 0 none 0 0
      go_wp2_with (with_reducible refine wpList_store_blk rfl 24 (.tmp 6) (.tmp 32) rfl rfl (cs := [Value.int .u8 0, .int .u8 0, .slice none 0 0]) rfl kz.out z3len hi0 ho0 ?_; intro w9 hk9 hg9)
      have e0 := hk9.cell 0
      have e1 := hk9.cell 1
      have e2 := hk9.cell 2
      refine bodyPost_ret (v := .tuple #[NdV 0 0 none 0 0, .bool false]) ?_ rfl (NodB.none_ HBAD.out ((HWB.out.trans ((HB2.out).mono HWB.out.size)).grown hg9 (by have := (HB2.out).size; omega) (by intro q hq; simp at hq; omega)))
      simp [results, Try.results50, go_sem, e0, e1, e2]
  · have HBAD : Hid (oneB k l es k' l' es' = false ∧ (oneB k l es k' l' es' && (rE k l (oneL k es es' key) == 0)) = false) := by
      have : oneB k l es k' l' es' = false := by simp [oneB, hr]
      exact ⟨this, by rw [this]; rfl⟩
    obtain ⟨b1, hb1⟩ : ∃ b1, b1 = oneB k l es k' l' es' := ⟨_, rfl⟩
    obtain ⟨b2, hb2⟩ : ∃ b2, b2 = (oneB k l es k' l' es' && (rE k l (oneL k es es' key) == 0)) := ⟨_, rfl⟩
    rw [← hb2, ← hb1] at HBAD ⊢
    clear hb1 hb2
    obtain ⟨E', HE'⟩ : ∃ E', Hid (rE k l es = E') := ⟨_, rfl⟩
    rw [HE'.out] at HM
    have jE : (E' != 0) = true := by rw [bne_iff_ne, ← HE'.out]; exact hr
    clear hr
    go_enter Try.func50, Try.ntmps50
    go_wp2_with fail
    rw [← HW.out]
    refine HM.out.mono ?_
    rintro e w1 ⟨rfl, hb1⟩
    have HB1 := Lib.hid hb1
    clear d0 d1 d2 hb1 HM
    have kz := Lib.hid (KZ.out.below HB1.out KZ.out.lt)
    have hi0 : (Try.prog.info? 24).map (·.size) = some [Value.int .u8 0, .int .u8 0, .slice none 0 0].length := infoNd
    have ho0 : ∀ v ∈ [Value.int .u8 0, .int .u8 0, .slice none 0 0], v.oneCell' = true := nd_one 0 0 none 0 0
    go_wp2_with (with_reducible refine wpList_store_blk rfl 24 (.tmp 6) (.tmp 32) rfl rfl (cs := [Value.int .u8 0, .int .u8 0, .slice none 0 0]) rfl kz.out z3len hi0 ho0 ?_; intro w9 hk9 hg9)
    have e0 := hk9.cell 0
    have e1 := hk9.cell 1
    have e2 := hk9.cell 2
    refine bodyPost_ret (v := .tuple #[NdV 0 0 none 0 0, .bool false]) ?_ rfl (NodB.none_ HBAD.out ((HWB.out.trans ((HB1.out).mono HWB.out.size)).grown hg9 (by have := (HB1.out).size; omega) (by intro q hq; simp at hq; omega)))
    simp [results, Try.results50, go_sem, e0, e1, e2]
end Go.Proofs.Ytgihcjmcefdkiaa
