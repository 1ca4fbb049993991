/- Contracts: graft.node. -/
import Derived.Test.YtgihcjmcefdkiaaGrOwn
set_option linter.unusedVariables false
set_option linter.unusedSimpArgs false
namespace Go.Proofs.Ytgihcjmcefdkiaa
open Go.RowKit

/-- A slice of slices of entries that reads as ess. -/
structure RdLL (w : World) (A : Option Addr) (m c : Nat) (ess : List (List Ent)) : Prop where
  len : m = ess.length
  cap : m ≤ c
  max : c ≤ maxLen
  at_ : 0 < m → ∃ b o, A = some ⟨b, o, none⟩ ∧ ∀ j, j < m → ∃ A' n' c', w.cell? ⟨b, o + j, none⟩ = some (.slice A' n' c') ∧ RdL w A' n' c' (ess.getD j [])
theorem RdLL.below {w w' : World} {A : Option Addr} {m c : Nat} {ess : List (List Ent)} (h : RdLL w A m c ess) (hb : Below w.heap.size w w') : RdLL w' A m c ess :=
  ⟨h.len, h.cap, h.max, fun h0 => by
    obtain ⟨b, o, e, hc⟩ := h.at_ h0
    refine ⟨b, o, e, fun j hj => ?_⟩
    obtain ⟨A', n', c', h1, h2⟩ := hc j hj
    exact ⟨A', n', c', (World.cell?_of_block (a := ⟨b, o + j, none⟩) (hb.block b (World.block_lt_of_cell? w _ h1))).trans h1, h2.below hb⟩⟩
/-- How many entries the first j lists have. -/
def totL (ess : List (List Ent)) (j : Nat) : Nat := (ess.take j).flatten.length
theorem totL_succ (ess : List (List Ent)) (j : Nat) (h : j < ess.length) : totL ess (j + 1) = totL ess j + (ess.getD j []).length := by
  unfold totL
  rw [List.take_succ_eq_append_getElem h, List.flatten_append, List.length_append]
  simp [List.getD, h]
theorem totL_all (ess : List (List Ent)) : totL ess ess.length = ess.flatten.length := by unfold totL; rw [List.take_length]
theorem totL_split (ess : List (List Ent)) (j : Nat) : ess.flatten = (ess.take j).flatten ++ (ess.drop j).flatten := by rw [← List.flatten_append, List.take_append_drop]
theorem totL_le (ess : List (List Ent)) (j : Nat) : totL ess j ≤ ess.flatten.length := by
  rw [totL_split ess j, List.length_append]; unfold totL; omega
theorem flat_at (ess : List (List Ent)) (j : Nat) (h : j < ess.length) (q : Nat) (hq : q < (ess.getD j []).length) : ess.flatten.getD (totL ess j + q) ent0 = (ess.getD j []).getD q ent0 := by
  have e : ess.drop j = ess.getD j [] :: ess.drop (j + 1) := by
    rw [List.drop_eq_getElem_cons h]; simp [List.getD, h]
  rw [totL_split ess j, e, List.flatten_cons]
  unfold totL
  simp only [List.getD_eq_getElem?_getD]
  rw [List.getElem?_append_right (by omega), Nat.add_sub_cancel_left, List.getElem?_append_left (by simpa [List.getD_eq_getElem?_getD] using hq)]
/-- The texts of entries are not too long to be copied. -/
def shortE (es : List Ent) : Prop := ∀ j, j < es.length → (es.getD j ent0).key.length ≤ 140737488355328 ∧ (es.getD j ent0).val.length ≤ 140737488355328
set_option maxRecDepth 100000 in
set_option maxHeartbeats 3200000 in
theorem node_any (k l : Nat) (A : Option Addr) (m c : Nat) (ess : List (List Ent)) (w : World) (h : RdLL w A m c ess) (hN : ess.flatten.length ≤ 10000) (hs : shortE ess.flatten) :
    Calls Try.prog 48 #[.int .u8 (k : Int), .int .u8 (l : Int), .slice A m c] w fun e w' => ∃ A' c', e = .returned (NdV k l A' ess.flatten.length c') ∧ OwnN w' w.heap.size A' ess.flatten.length c' ess.flatten ∧ Below w.heap.size w w' := by
  have hcap := h.cap
  have hmax := h.max
  unfold maxLen at hmax
  have HLn := Lib.hid h.len
  have HS := Lib.hid hs
  obtain ⟨W, hW⟩ : ∃ W, W = (w.alloc (.cells #[.int .u8 0, .int .u8 0, .slice none 0 0] 24)).alloc (.cells #[.int .u8 (k : Int), .int .u8 (l : Int), .slice none 0 0] 24) := ⟨_, rfl⟩
  have HWB : Hid (Below w.heap.size w W) := by rw [hW]; exact (below_new _ _).alloc (by simp) _
  have KZ : Hid (Blk W w.heap.size 24 [Value.int .u8 0, .int .u8 0, .slice none 0 0].toArray) := by rw [hW]; exact (Blk.new _ _ _).alloc _
  have KM : Hid (Blk W (w.heap.size + 1) 24 (ndA k l none 0 0)) := by rw [hW]; exact Blk.new' _ _ _ _ (by simp)
  have HR := Lib.hid h
  have HW := Lib.hid hW
  have hWm := KM.out.lt
  obtain ⟨N, HN⟩ : ∃ N, Hid (ess.flatten.length = N) := ⟨_, rfl⟩
  rw [HN.out] at hN ⊢
  clear h hs hW
  go_enter Try.func48, Try.ntmps48
  go_wp2_with fail
  rw [← HW.out]
  go_loopw [17] (fun z wr => ∃ (j c2 : Nat) (A2 : Option Addr), j ≤ m ∧ z = .int .i64 (j : Int) ∧ Blk wr (w.heap.size + 1) 24 (ndA k l A2 (totL ess j) c2) ∧ OwnN wr W.heap.size A2 (totL ess j) c2 ess.flatten ∧ Below (w.heap.size + 1) W wr) (fun z _ => m - (intOf z).toNat)
  case atStart => exact ⟨0, 0, none, Nat.zero_le _, rfl, KM.out, OwnN.nil _ _ _, Below.refl _ _⟩
  case round =>
    obtain ⟨j, c3, A3, hj, rfl, hkm, hown, hbel⟩ := hrel
    have HKM := Lib.hid hkm
    have HO := Lib.hid hown
    have HBE := Lib.hid hbel
    have hbs := hbel.size
    clear hkm hown hbel
    by_cases hlt : j < m
    · obtain ⟨b0, o0, rfl, hc⟩ := HR.out.at_ (by omega)
      obtain ⟨A4, n4, c4, hcell, hrl⟩ := hc j hlt
      have HWr : Hid (Below w.heap.size w wr) := HWB.out.trans (HBE.out.mono (by omega))
      have hcr : wr.cell? ⟨b0, o0 + j, none⟩ = some (.slice A4 n4 c4) := (World.cell?_of_block (a := ⟨b0, o0 + j, none⟩) (HWr.out.block b0 (World.block_lt_of_cell? w _ hcell))).trans hcell
      have HRL := Lib.hid hrl
      have HJ : Hid (j < ess.length) := by show _; rw [← HLn.out]; exact hlt
      have i1 : (0 : Int) ≤ (j : Int) := by omega
      have i2 : (j : Int) < (m : Int) := by omega
      have hn4 := hrl.cap
      have hm4 := hrl.max
      unfold maxLen at hm4
      have HTS : Hid (totL ess (j + 1) = totL ess j + n4) := by show _ = _; rw [totL_succ ess j HJ.out, ← HRL.out.len]
      have hto : totL ess j + n4 ≤ N := by rw [← HTS.out, ← HN.out]; exact totL_le _ _
      obtain ⟨T, HT⟩ : ∃ T, Hid (totL ess j = T) := ⟨_, rfl⟩
      rw [HT.out] at HKM HO hto
      clear hcell hrl hc
      go_wp2_with fail
      clear hcr
      go_loopw [23] (fun z wr => ∃ (q c2 : Nat) (A2 : Option Addr), q ≤ n4 ∧ z = .int .i64 (q : Int) ∧ Blk wr (w.heap.size + 1) 24 (ndA k l A2 (T + q) c2) ∧ OwnN wr W.heap.size A2 (T + q) c2 ess.flatten ∧ Below (w.heap.size + 1) W wr) (fun z _ => n4 - (intOf z).toNat)
      case atStart => exact ⟨0, c3, A3, Nat.zero_le _, rfl, HKM.out, HO.out, HBE.out⟩
      case round =>
        clear HKM HO HBE HWr hbs
        obtain ⟨q, c3, A3, hq, rfl, hkm, hown, hbel⟩ := hrel
        have HKM := Lib.hid hkm
        have HO := Lib.hid hown
        have HBE := Lib.hid hbel
        have hbs := hbel.size
        clear hkm hown hbel
        by_cases hlq : q < n4
        · obtain ⟨b, o, A1, n1, c1, A2, n2, c2, L, r, s, Ky, Va, rfl, hat, hrk, hrv, hent⟩ := HRL.out.pair q hlq
          have HWr : Hid (Below w.heap.size w wr) := HWB.out.trans (HBE.out.mono (by omega))
          have hatr := hat.below HWr.out
          have a0 := hatr.c0
          have a1 := hatr.c1
          have a2 := hatr.c2
          have a3 := hatr.c3
          have a4 := hatr.c4
          have a5 := hatr.c5
          have a6 := hatr.c6
          have a7 := hatr.c7
          have a8 := hatr.c8
          have HRK := Lib.hid (hrk.below HWr.out)
          have HRV := Lib.hid (hrv.below HWr.out)
          have HEN : Hid (ess.flatten.getD (T + q) ent0 = ⟨Ky, Va, L, r, s⟩) := by
            show _ = _
            rw [← HT.out, flat_at ess j HJ.out q (by rw [← HRL.out.len]; exact hlq)]; exact hent
          have hln : n1 ≤ 140737488355328 ∧ n2 ≤ 140737488355328 := by
            have := HS.out (T + q) (by rw [HN.out]; omega)
            rw [HEN.out] at this
            rw [hrk.len, hrv.len]
            exact this
          have j1 : (0 : Int) ≤ (q : Int) := by omega
          have j2 : (q : Int) < (n4 : Int) := by omega
          clear hat hatr hrk hrv hent
          go_upto_region 8 with fail
          obtain ⟨V, hV⟩ : ∃ V, V = wr.alloc (.cells #[.slice A1 n1 c1, .slice A2 n2 c2, .int .i64 L, .int .u32 (r.1 : Int), .int .u64 (r.2.1 : Int), .int .u16 (r.2.2 : Int), .int .u32 (s.1 : Int), .int .u64 (s.2.1 : Int), .int .u16 (s.2.2 : Int)] 46) := ⟨_, rfl⟩
          have hbV : Below wr.heap.size wr V := by rw [hV]; exact below_new1 _ _
          have KX : Hid (Blk V wr.heap.size 46 (enC A1 n1 c1 A2 n2 c2 L r s).toArray) := by rw [hV]; exact Blk.new _ _ _
          rw [← hV]
          have HBV := Lib.hid hbV
          have hsV := hbV.size
          have hlX := KX.out.lt
          clear hV hbV a0 a1 a2 a3 a4 a5 a6 a7 a8
          obtain ⟨i, HI⟩ : ∃ i, Hid (T + q = i) := ⟨_, rfl⟩
          rw [HI.out] at HKM HO HEN
          have KMV := Lib.hid (HKM.out.below HBV.out HKM.out.lt)
          have hi : i ≤ 10000 := by have := HI.out; omega
          have TR : Hid (∀ w', Below V.heap.size V w' → w'.cell? ⟨w.heap.size + 1, 2, none⟩ = some (.slice A3 i c3) ∧ w'.cell? ⟨wr.heap.size, 0, none⟩ = some (.slice A1 n1 c1) ∧ w'.cell? ⟨wr.heap.size, 1, none⟩ = some (.slice A2 n2 c2) ∧ w'.cell? ⟨wr.heap.size, 2, none⟩ = some (.int .i64 L) ∧ w'.cell? ⟨wr.heap.size, 3, none⟩ = some (.int .u32 (r.1 : Int)) ∧ w'.cell? ⟨wr.heap.size, 4, none⟩ = some (.int .u64 (r.2.1 : Int)) ∧ w'.cell? ⟨wr.heap.size, 5, none⟩ = some (.int .u16 (r.2.2 : Int)) ∧ w'.cell? ⟨wr.heap.size, 6, none⟩ = some (.int .u32 (s.1 : Int)) ∧ w'.cell? ⟨wr.heap.size, 7, none⟩ = some (.int .u64 (s.2.1 : Int)) ∧ w'.cell? ⟨wr.heap.size, 8, none⟩ = some (.int .u16 (s.2.2 : Int)) ∧ Below W.heap.size V w') := fun wx hb => by
            have k2 := KMV.out.below hb KMV.out.lt
            have k1 := KX.out.below hb KX.out.lt
            exact ⟨k2.cell 2, k1.cell 0, k1.cell 1, k1.cell 2, k1.cell 3, k1.cell 4, k1.cell 5, k1.cell 6, k1.cell 7, k1.cell 8, hb.mono (by omega)⟩
          go_wp2_with fail
          refine region_gate 7 (fun w' => w'.cell? ⟨w.heap.size + 1, 2, none⟩ = some (.slice A3 i c3) ∧ w'.cell? ⟨wr.heap.size, 0, none⟩ = some (.slice A1 n1 c1) ∧ w'.cell? ⟨wr.heap.size, 1, none⟩ = some (.slice A2 n2 c2) ∧ w'.cell? ⟨wr.heap.size, 2, none⟩ = some (.int .i64 L) ∧ w'.cell? ⟨wr.heap.size, 3, none⟩ = some (.int .u32 (r.1 : Int)) ∧ w'.cell? ⟨wr.heap.size, 4, none⟩ = some (.int .u64 (r.2.1 : Int)) ∧ w'.cell? ⟨wr.heap.size, 5, none⟩ = some (.int .u16 (r.2.2 : Int)) ∧ w'.cell? ⟨wr.heap.size, 6, none⟩ = some (.int .u32 (s.1 : Int)) ∧ w'.cell? ⟨wr.heap.size, 7, none⟩ = some (.int .u64 (s.2.1 : Int)) ∧ w'.cell? ⟨wr.heap.size, 8, none⟩ = some (.int .u16 (s.2.2 : Int)) ∧ Below W.heap.size V w') (by kernel_rfl) ?th1 (fun hHeld => ?tk1)
          case th1 => ((try dsimp only); exact TR.out _ (Below.refl _ _).drew)
          refine' takeV 0 (oi := _) (d := _) (v := _) ?ti2 ?td2 (by kernel_rfl) (by kernel_rfl) (by kernel_rfl) (by kernel_rfl) (by decide) (fun _ _ _ _ _ h => h) ?tg2 ?ty2 (by assumption) ?tr2
          case ti2 => (simp only [List.getElem?_toArray, List.getElem?_cons_succ, List.getElem?_cons_zero]; rfl)
          case td2 => exact rfl
          case tg2 => exact rfl
          case ty2 => (intro w hSw; (try dsimp only at hSw); go_split_ands; go_simp; try with_reducible rfl)
          simp only [List.setIfInBounds_toArray, List.set_cons_zero, List.set_cons_succ]
          refine' takeV 1 (oi := _) (d := _) (v := _) ?ti3 ?td3 (by kernel_rfl) (by kernel_rfl) (by kernel_rfl) (by kernel_rfl) (by decide) (fun _ _ _ _ _ h => h) ?tg3 ?ty3 (by assumption) ?tr3
          case ti3 => (simp only [List.getElem?_toArray, List.getElem?_cons_succ, List.getElem?_cons_zero]; rfl)
          case td3 => exact rfl
          case tg3 => exact rfl
          case ty3 => (intro w hSw; (try dsimp only at hSw); go_split_ands; go_simp; try with_reducible rfl)
          simp only [List.setIfInBounds_toArray, List.set_cons_zero, List.set_cons_succ]
          refine' takeV 2 (oi := _) (d := _) (v := _) ?ti4 ?td4 (by kernel_rfl) (by kernel_rfl) (by kernel_rfl) (by kernel_rfl) (by decide) (fun _ _ _ _ _ h => h) ?tg4 ?ty4 (by assumption) ?tr4
          case ti4 => (simp only [List.getElem?_toArray, List.getElem?_cons_succ, List.getElem?_cons_zero]; rfl)
          case td4 => exact rfl
          case tg4 => exact rfl
          case ty4 => (intro w hSw; (try dsimp only at hSw); go_split_ands; go_simp; try with_reducible rfl)
          simp only [List.setIfInBounds_toArray, List.set_cons_zero, List.set_cons_succ]
          obtain ⟨V0, hV0⟩ : ∃ V0, V0 = V.drew := ⟨_, rfl⟩
          have B0 : Hid (Below V.heap.size V V0) := by rw [hV0]; exact (Below.refl _ _).drew
          rw [← hV0]
          clear hV0 hHeld
          have s0 := B0.out.size
          have BV0 : Hid (Below wr.heap.size wr V0) := HBV.out.trans (B0.out.mono (by omega))
          refine stepG 3 (by kernel_rfl) (by simp only [List.getElem?_toArray, List.getElem?_cons_succ, List.getElem?_cons_zero]; rfl) (fun K hK => ?_)
          go_simp
          refine (own_any A1 n1 c1 A2 n2 c2 L r s Ky Va _ (HRK.out.below BV0.out) (HRV.out.below BV0.out) hln.1 hln.2).mono ?_
          rintro e w1 ⟨B1, d1, B2, d2, rfl, hown1, hown2, hb1⟩
          refine hK.out _ _ ?ts5 (fun hHeld => ?_)
          case ts5 => ((try dsimp only); exact TR.out _ (B0.out.trans (hb1.mono s0)))
          clear hK K
          have BB1 := Lib.hid (B0.out.trans (hb1.mono s0))
          have s1 := BB1.out.size
          have hec : EC w1 W.heap.size (enC B1 n1 d1 B2 n2 d2 L r s) (ess.flatten.getD i ent0) := by
            rw [HEN.out]
            exact ⟨B1, n1, d1, B2, n2, d2, rfl, hown1.mono (by omega), hown2.mono (by omega)⟩
          have HEC := Lib.hid hec
          clear hown1 hown2 hb1 hHeld hec
          refine stepG 4 (by kernel_rfl) (by simp only [List.getElem?_toArray, List.getElem?_cons_succ, List.getElem?_cons_zero]; rfl) (fun K hK => ?_)
          go_simp
          refine hK.out _ _ ?ts6 (fun hHeld => ?_)
          case ts6 => ((try dsimp only); exact TR.out _ (BB1.out.alloc s1 _))
          clear hK K
          obtain ⟨V2, hV2⟩ : ∃ V2, V2 = w1.alloc (.cells (enA B1 n1 d1 B2 n2 d2 L r s) 46) := ⟨_, rfl⟩
          have KE : Hid (Blk V2 w1.heap.size 46 (enC B1 n1 d1 B2 n2 d2 L r s).toArray) := by rw [hV2]; exact Blk.new _ _ _
          have BB2 : Hid (Below V.heap.size V V2) := by rw [hV2]; exact BB1.out.alloc s1 _
          have HEC2 : Hid (EC V2 W.heap.size (enC B1 n1 d1 B2 n2 d2 L r s) (ess.flatten.getD i ent0)) := by rw [hV2]; exact HEC.out.below (below_new _ _)
          have s2 := BB2.out.size
          have BW2 : Hid (Below wr.heap.size wr V2) := HBV.out.trans (BB2.out.mono (by omega))
          rw [← hV2] at hHeld ⊢
          clear hV2 HEC hHeld
          obtain ⟨css, hoe, hall⟩ := HO.out
          have hne : some wr.heap.size ≠ A3.map (·.block) := fun e => by
            cases A3 with
            | none => cases e
            | some a =>
              have h1 := hoe.lt a rfl
              simp only [Option.map_some, Option.some.injEq] at e
              omega
          have HNE := Lib.hid hne
          have HOE2 := Lib.hid (hoe.below BW2.out)
          have HALL2 : Hid (∀ j, j < i → EC V2 W.heap.size (css.getD j []) (ess.flatten.getD j ent0)) := fun j hj => (hall j hj).below BW2.out
          have KM2 := Lib.hid (KMV.out.below BB2.out KMV.out.lt)
          have KX2 := Lib.hid (KX.out.below BB2.out KX.out.lt)
          clear hoe hall hne
          have hVW : W.heap.size ≤ V.heap.size := by omega
          refine stepG 5 (by kernel_rfl) (by simp only [List.getElem?_toArray, List.getElem?_cons_succ, List.getElem?_cons_zero]; rfl) (fun K hK => ?_)
          refine step_appE 22 Try.underlying22 rfl (.tmp 28) (.tmp 31) rfl rfl rfl HOE2.out KE.out rfl (enC_one _ _ _ _ _ _ _ _ _) (by omega) (by omega) ?_
          intro A4 c4 w3 hown3 hg3 hb3
          refine hK.out _ _ ?ts7 (fun hHeld => ?_)
          case ts7 => ((try dsimp only); (have k2 := HOE2.out.keepBlk KM2.out (by decide) hg3; have k1 := KX2.out.keep_grown hg3 HNE.out; exact ⟨k2.cell 2, k1.cell 0, k1.cell 1, k1.cell 2, k1.cell 3, k1.cell 4, k1.cell 5, k1.cell 6, k1.cell 7, k1.cell 8, (BB2.out.mono hVW).trans hb3⟩))
          clear hK K
          have HPU := Lib.hid (OwnN.push HOE2.out HALL2.out HEC2.out hown3 hg3)
          have KM3 := Lib.hid (HOE2.out.keepBlk KM2.out (by decide) hg3)
          have BB3 : Hid (Below W.heap.size wr w3) := (BW2.out.mono (by omega)).trans hb3
          clear hown3 hg3 hb3
          refine stepG 6 (by kernel_rfl) (by simp only [List.getElem?_toArray, List.getElem?_cons_succ, List.getElem?_cons_zero]; rfl) (fun K hK => ?_)
          go_simp
          refine hK.out _ _ ?ts8 (fun hHeld => ?_)
          case ts8 => ((try dsimp only); exact hHeld)
          clear hK K
          have hfr : w3.frozen? ⟨w.heap.size + 1, 2, none⟩ = false := KM3.out.frozen 2
          refine stepGate 7 (by kernel_rfl) (by kernel_rfl) (by simp only [List.getElem?_toArray, List.getElem?_cons_succ, List.getElem?_cons_zero]; rfl) (fun K hK => ?_)
          go_simp
          refine hK.out _ _ ?_
          clear hK K
          refine doneG (by kernel_rfl) ?_ _
          clear hHeld
          go_wp2_with fail
          go_roundw
          case rel =>
            refine ⟨q + 1, c4, A4, by omega, by go_num, by rw [show T + (q + 1) = i + 1 by have := HI.out; omega]; exact KM3.out.set_ 2 _, by rw [show T + (q + 1) = i + 1 by have := HI.out; omega]; exact HPU.out.keptE KM3.out (by decide) (by decide) (grown_setCell _ _ _ _), ?_⟩
            exact (HBE.out.trans (BB3.out.mono (by omega))).setCell (Nat.le_refl _) _
          case measure => first | (simp [intOf]; done) | (simp [intOf]; omega)
        · obtain rfl : q = n4 := by omega
          go_wp2_with fail
          go_roundw
          case rel => exact ⟨j + 1, c3, A3, by omega, by go_num, by rw [HTS.out, HT.out]; exact HKM.out, by rw [HTS.out, HT.out]; exact HO.out, HBE.out⟩
          case measure => first | (simp [intOf]; done) | (simp [intOf]; omega)
    · obtain rfl : j = m := by omega
      have HT : Hid (totL ess j = N) := by show _ = _; rw [HLn.out, totL_all, HN.out]
      rw [HT.out] at HKM HO
      have m0 : wr.cell? ⟨w.heap.size + 1, 0, none⟩ = some (.int .u8 (k : Int)) := HKM.out.cell 0
      have m1 : wr.cell? ⟨w.heap.size + 1, 1, none⟩ = some (.int .u8 (l : Int)) := HKM.out.cell 1
      have m2 : wr.cell? ⟨w.heap.size + 1, 2, none⟩ = some (.slice A3 N c3) := HKM.out.cell 2
      have KZr := Lib.hid (KZ.out.below HBE.out (by omega))
      have hlz : [Value.int .u8 0, .int .u8 0, .slice none 0 0].length = [Value.int .u8 (k : Int), .int .u8 (l : Int), .slice A3 N c3].length := rfl
      have hiz : (Try.prog.info? 24).map (·.size) = some [Value.int .u8 (k : Int), .int .u8 (l : Int), .slice A3 N c3].length := by kernel_rfl
      have h1 : ∀ v ∈ [Value.int .u8 (k : Int), .int .u8 (l : Int), .slice A3 N c3], v.oneCell' = true := by intro v hv; simp at hv; rcases hv with rfl | rfl | rfl <;> rfl
      clear hj hlt
      go_wp2_with (with_reducible refine wpList_store_blk rfl 24 (.tmp 6) (.tmp 36) rfl rfl (cs := [Value.int .u8 (k : Int), .int .u8 (l : Int), .slice A3 N c3]) rfl KZr.out hlz hiz h1 ?_; intro W5 hk5 hg5)
      refine bodyPost_ret (v := NdV k l A3 N c3) (ret_blk (p := 6) rfl rfl hk5 _ Try.underlying24 rfl (by kernel_rfl)) rfl ⟨A3, c3, rfl, (HO.out.keptE KZr.out (by decide) (by decide) hg5).mono (by omega), ?_⟩
      exact (HWB.out.trans (HBE.out.mono (by omega))).grown hg5 (by omega) (by intro k hk; simp at hk; omega)
end Go.Proofs.Ytgihcjmcefdkiaa
