/- Contracts: Even, graft's and the reference's. -/
import Derived.Test.YtgihcjmcefdkiaaGrJoin
import Derived.Test.YtgihcjmcefdkiaaGrSplR
set_option linter.unusedVariables false
set_option linter.unusedSimpArgs false
namespace Go.Proofs.Ytgihcjmcefdkiaa
open Go.RowKit

/-- Are two nodes evened out? -/
def evB (k l : Nat) (es : List Ent) (k' l' : Nat) (es' : List Ent) (key : List UInt8) : Bool := oneB k l es k' l' es' && (rE k l (oneL k es es' key) == 0)
/-- What Even leaves. -/
def EvP (b : Bool) (k l : Nat) (L : List Ent) (w : World) (e : Ending) (w' : World) : Prop := ∃ A1 c1 A2 c2 B m d,
  e = .returned (.tuple #[NdV (bN b (splN k l L k)) (bN b (splN k l L l)) A1 (bE b (splA k l L)).length c1, NdV (bN b (splN k l L k)) (bN b (splN k l L l)) A2 (bE b (splB k l L)).length c2, .slice B m d, .int .i64 (if b then splE k l L else 2)]) ∧
  OwnN w' w.heap.size A1 (bE b (splA k l L)).length c1 (bE b (splA k l L)) ∧ OwnN w' w.heap.size A2 (bE b (splB k l L)).length c2 (bE b (splB k l L)) ∧ Own w' w.heap.size B m d (if b then splK k l L else []) ∧ Below w.heap.size w w' ∧ (∀ a a', A1 = some a → A2 = some a' → a.block ≠ a'.block)
theorem EvP.none_ {k l : Nat} {L : List Ent} {w w' : World} (hb : Below w.heap.size w w') : EvP false k l L w (.returned (.tuple #[NdV 0 0 none 0 0, NdV 0 0 none 0 0, .slice none 0 0, .int .i64 2])) w' :=
  ⟨none, 0, none, 0, none, 0, 0, rfl, OwnN.nil _ _ _, OwnN.nil _ _ _, Own.nil _ _, hb, fun a a' h1 h2 => by cases h1⟩
set_option maxRecDepth 100000 in
set_option maxHeartbeats 3200000 in
theorem even_any (k l : Nat) (A : Option Addr) (n c : Nat) (es : List Ent) (k' l' : Nat) (A' : Option Addr) (n' c' : Nat) (es' : List Ent) (Ak : Option Addr) (nk ck : Nat) (key : List UInt8) (w : World) (h : RdL w A n c es) (h' : RdL w A' n' c' es') (hky : Rd w Ak nk ck key)
    (hk : k < 256) (hl : l < 256) (hk' : k' < 256) (hl' : l' < 256) (hN : n ≤ 4000) (hN' : n' ≤ 4000) (hs : shortE es) (hc4 : ∀ j, j < es.length → (es.getD j ent0).key.length ≤ 4096 ∧ (es.getD j ent0).val.length ≤ 4096) (hs' : shortE es') (hin : esIn es) (hin' : esIn es') (hkn : nk ≤ 140737488355328) :
    Calls Try.prog 33 #[NdV k l A n c, NdV k' l' A' n' c', .slice Ak nk ck] w (EvP (evB k l es k' l' es' key) k l (oneL k es es' key) w) := by
  have hkn0 : key.length ≤ 140737488355328 := by rw [← hky.len]; exact hkn
  have hcap := h.cap
  have hcap' := h'.cap
  have HLn := Lib.hid h.len
  have HLn' := Lib.hid h'.len
  obtain ⟨L, HL⟩ : ∃ L, Hid (oneL k es es' key = L) := ⟨_, rfl⟩
  obtain ⟨N, HNN⟩ : ∃ N, Hid (n + n' = N) := ⟨_, rfl⟩
  have HLL : Hid (L.length = N) := by show _ = _; rw [← HL.out, oneL_length, ← HLn.out, ← HLn'.out]; exact HNN.out
  have HNle : Hid (N ≤ 9000) := by show _ ≤ _; rw [← HNN.out]; omega
  have HSL : Hid (shortE L) := by rw [← HL.out]; exact hs.one hs' hkn0
  have HIL : Hid (esIn L) := by rw [← HL.out]; exact hin.one hin'
  obtain ⟨W, hW⟩ : ∃ W, W = (((w.alloc (.cells #[.int .u8 (k : Int), .int .u8 (l : Int), .slice A n c] 24)).alloc (.cells #[.int .u8 (k' : Int), .int .u8 (l' : Int), .slice A' n' c'] 24)).alloc (.cells #[.int .u8 0, .int .u8 0, .slice none 0 0] 24)).alloc (.cells #[.int .u8 0, .int .u8 0, .slice none 0 0] 24) := ⟨_, rfl⟩
  have HWB : Hid (Below w.heap.size w W) := by rw [hW]; exact (((below_new _ _).alloc (by simp) _).alloc (by simp; omega) _).alloc (by simp; omega) _
  have NA : Hid (Nin W w.heap.size k l A n c es) := ⟨by rw [hW]; exact (((Blk.new _ _ _).alloc _).alloc _).alloc _, h.below HWB.out⟩
  have NB : Hid (Nin W (w.heap.size + 1) k' l' A' n' c' es') := ⟨by rw [hW]; exact ((Blk.new' _ _ _ _ (by simp)).alloc _).alloc _, h'.below HWB.out⟩
  have KZ1 : Hid (Blk W (w.heap.size + 1 + 1) 24 [Value.int .u8 0, .int .u8 0, .slice none 0 0].toArray) := by rw [hW]; exact (Blk.new' _ _ _ _ (by simp)).alloc _
  have KZ2 : Hid (Blk W (w.heap.size + 1 + 1 + 1) 24 [Value.int .u8 0, .int .u8 0, .slice none 0 0].toArray) := by rw [hW]; exact Blk.new' _ _ _ _ (by simp)
  have HW := Lib.hid hW
  have hWs := KZ2.out.lt
  have sW := HWB.out.size
  have HC := one_any k l A n c es k' l' A' n' c' es' Ak nk ck key W NA.out.rd NB.out.rd (hky.below HWB.out) hk hl hk' hl' hN hN' hs hs' hkn
  rw [HL.out] at HC ⊢
  obtain ⟨J, HJ⟩ : ∃ J, Hid (evB k l es k' l' es' key = J) := ⟨_, rfl⟩
  rw [HJ.out]
  have d0 := NA.out.c0
  have d1 := NA.out.c1
  have d2 := NA.out.c2
  have f0 := NB.out.c0
  have f1 := NB.out.c1
  have f2 := NB.out.c2
  clear h h' hky hW hs hs' hc4 hin hin'
  by_cases hq : (oneB k l es k' l' es' && (rE k l L == 0)) = true
  · have hbt : oneB k l es k' l' es' = true := by rw [Bool.and_eq_true] at hq; exact hq.1
    have HJT : Hid (J = true) := by show _ = _; rw [← HJ.out, evB, HL.out, hq]
    have HOK := Lib.hid (NodB.ok HC hbt hq HLL.out)
    clear HC hq hbt
    go_enter Try.func33, Try.ntmps33
    go_wp2_with fail
    rw [← HW.out]
    refine HOK.out.mono ?_
    rintro e w1 ⟨A9, c9, rfl, ho, hb⟩
    have HB1 : Hid (Below W.heap.size W w1) := hb
    have s1 := hb.size
    obtain ⟨g8, hg8e⟩ : ∃ g8, w1.heap.size = g8 := ⟨_, rfl⟩
    obtain ⟨w2, hw2⟩ : ∃ w2, w2 = w1.alloc (.cells #[.int .u8 (k : Int), .int .u8 (l : Int), .slice A9 N c9] 24) := ⟨_, rfl⟩
    have HB2 : Hid (Below W.heap.size W w2) := by rw [hw2]; exact HB1.out.alloc s1 _
    have HO2 : Hid (OwnN w2 W.heap.size A9 N c9 L) := by rw [hw2]; exact ho.below (below_new _ _)
    have HK2 : Hid (Blk w2 g8 24 (ndA k l A9 N c9)) := by rw [hw2]; exact Blk.new' _ _ _ _ hg8e
    have HW2 := Lib.hid hw2
    have HG8 := Lib.hid hg8e
    have s2 := HB2.out.size
    have HCSS := Lib.hid (split_any k l A9 N c9 L w2 (HO2.out.rdl HLL.out.symm) hk hl HIL.out (by have := HNle.out; omega) HSL.out)
    clear hb ho hw2 hg8e d0 d1 d2 f0 f1 f2 HOK
    go_upto_region 2 with fail
    rw [← HW2.out, HG8.out]
    have d0 : w2.cell? ⟨g8, 0, none⟩ = some (.int .u8 (k : Int)) := HK2.out.cell 0
    have d1 : w2.cell? ⟨g8, 1, none⟩ = some (.int .u8 (l : Int)) := HK2.out.cell 1
    have d2 : w2.cell? ⟨g8, 2, none⟩ = some (.slice A9 N c9) := HK2.out.cell 2
    go_wp2_with fail
    refine HCSS.out.mono ?_
    rintro e wb ⟨A1, c1, A2, c2, B, m, d, rfl, ho1, ho2, ho3, hb, hdis⟩
    obtain ⟨x9, HX9⟩ : ∃ x9, Hid (splN k l L k = x9) := ⟨_, rfl⟩
    obtain ⟨y9, HY9⟩ : ∃ y9, Hid (splN k l L l = y9) := ⟨_, rfl⟩
    obtain ⟨LA, HLA⟩ : ∃ LA, Hid (splA k l L = LA) := ⟨_, rfl⟩
    obtain ⟨LB, HLB⟩ : ∃ LB, Hid (splB k l L = LB) := ⟨_, rfl⟩
    obtain ⟨LK, HLK⟩ : ∃ LK, Hid (splK k l L = LK) := ⟨_, rfl⟩
    obtain ⟨E, HE⟩ : ∃ E, Hid (splE k l L = E) := ⟨_, rfl⟩
    rw [HLA.out] at ho1
    rw [HLB.out] at ho2
    rw [HLK.out] at ho3
    rw [HX9.out, HY9.out, HLA.out, HLB.out, HE.out]
    obtain ⟨nA, HNA⟩ : ∃ nA, Hid (LA.length = nA) := ⟨_, rfl⟩
    obtain ⟨nB, HNB⟩ : ∃ nB, Hid (LB.length = nB) := ⟨_, rfl⟩
    rw [HNA.out] at ho1
    rw [HNB.out] at ho2
    rw [HNA.out, HNB.out]
    have HBb : Hid (Below W.heap.size W wb) := HB2.out.trans (hb.mono s2)
    have O1 : Hid (OwnN wb W.heap.size A1 nA c1 LA) := ho1.mono s2
    have O2 : Hid (OwnN wb W.heap.size A2 nB c2 LB) := ho2.mono s2
    have O3 : Hid (Own wb W.heap.size B m d LK) := ho3.mono s2
    have HDIS := Lib.hid hdis
    have kz1 := Lib.hid (KZ1.out.below HBb.out KZ1.out.lt)
    have kz2 := Lib.hid (KZ2.out.below HBb.out KZ2.out.lt)
    have sb := HBb.out.size
    have hl1 : [Value.int .u8 0, .int .u8 0, .slice none 0 0].length = [Value.int .u8 (x9 : Int), .int .u8 (y9 : Int), .slice A1 nA c1].length := rfl
    have hl2 : [Value.int .u8 0, .int .u8 0, .slice none 0 0].length = [Value.int .u8 (x9 : Int), .int .u8 (y9 : Int), .slice A2 nB c2].length := rfl
    have hi1 : (Try.prog.info? 24).map (·.size) = some [Value.int .u8 (x9 : Int), .int .u8 (y9 : Int), .slice A1 nA c1].length := infoNd
    have hi2 : (Try.prog.info? 24).map (·.size) = some [Value.int .u8 (x9 : Int), .int .u8 (y9 : Int), .slice A2 nB c2].length := infoNd
    clear hb ho1 ho2 ho3 hdis d0 d1 d2 HCSS HK2 HO2 HB2
    go_wp2_with (first
      | (with_reducible refine wpList_store_blk rfl 24 (.tmp 6) (.tmp 25) rfl rfl (cs := [Value.int .u8 (x9 : Int), .int .u8 (y9 : Int), .slice A1 nA c1]) rfl kz1.out hl1 hi1 (nd_one _ _ _ _ _) ?_; intro wa hka hga; have kz3 := Lib.hid (kz2.out.keep_grown hga (by simp)))
      | (with_reducible refine wpList_store_blk rfl 24 (.tmp 7) (.tmp 26) rfl rfl (cs := [Value.int .u8 (x9 : Int), .int .u8 (y9 : Int), .slice A2 nB c2]) rfl kz3.out hl2 hi2 (nd_one _ _ _ _ _) ?_; intro wd hkb2 hgb))
    have hka2 := hka.keep_grown hgb (by simp)
    have e0 := hka2.cell 0
    have e1 := hka2.cell 1
    have e2 := hka2.cell 2
    have f0 := hkb2.cell 0
    have f1 := hkb2.cell 1
    have f2 := hkb2.cell 2
    have hfin := ((HBb.out.mono (by omega : w.heap.size + 1 + 1 ≤ W.heap.size)).grown hga (by omega) (by intro q hq; simp at hq; omega)).grown hgb (by have := hga.size; omega) (by intro q hq; simp at hq; omega)
    rw [HJT.out]
    refine bodyPost_ret (v := .tuple #[NdV x9 y9 A1 nA c1, NdV x9 y9 A2 nB c2, .slice B m d, .int .i64 E]) ?_ rfl ⟨A1, c1, A2, c2, B, m, d, ?_, ?_, ?_, ?_, HWB.out.trans (hfin.mono (by omega)), HDIS.out⟩
    · simp [results, Try.results33, go_sem, e0, e1, e2, f0, f1, f2]
    · simp only [bN, bE, if_true, HX9.out, HY9.out, HLA.out, HLB.out, HNA.out, HNB.out, HE.out]
    · simp only [bE, if_true, HLA.out, HNA.out]
      exact ((O1.out.keptE kz1.out (by decide) (by decide) hga).keptE kz3.out (by decide) (by decide) hgb).mono (by omega)
    · simp only [bE, if_true, HLB.out, HNB.out]
      exact ((O2.out.keptE kz1.out (by decide) (by decide) hga).keptE kz3.out (by decide) (by decide) hgb).mono (by omega)
    · simp only [if_true, HLK.out]
      exact ((O3.out.keptE kz1.out (by decide) hga).keptE kz3.out (by decide) hgb).mono (by omega)
  · have hqf : (oneB k l es k' l' es' && (rE k l L == 0)) = false := by cases hx : (oneB k l es k' l' es' && (rE k l L == 0)) with
      | true => exact absurd hx hq
      | false => rfl
    have HJF : Hid (J = false) := by show _ = _; rw [← HJ.out, evB, HL.out, hqf]
    have HNO := Lib.hid (NodB.no HC hqf)
    clear HC hq hqf
    go_enter Try.func33, Try.ntmps33
    go_wp2_with fail
    rw [← HW.out]
    refine HNO.out.mono ?_
    rintro e w1 ⟨k9, l9, A9, n9, c9, rfl, hb⟩
    have HB1 : Hid (Below W.heap.size W w1) := hb
    have s1 := hb.size
    obtain ⟨w2, hw2⟩ : ∃ w2, w2 = w1.alloc (.cells #[.int .u8 (k9 : Int), .int .u8 (l9 : Int), .slice A9 n9 c9] 24) := ⟨_, rfl⟩
    have HB2 : Hid (Below W.heap.size W w2) := by rw [hw2]; exact HB1.out.alloc s1 _
    have KA5 := Lib.hid (KZ1.out.below HB2.out KZ1.out.lt)
    have KB5 := Lib.hid (KZ2.out.below HB2.out KZ2.out.lt)
    clear hb d0 d1 d2 f0 f1 f2 HNO
    go_upto_region 2 with fail
    rw [← hw2]
    clear hw2
    go_upto_region 3 with fail
    refine region_gate 3 (fun V => V.cell? ⟨w.heap.size + 1 + 1, 0, none⟩ = some (.int .u8 (0 : Int)) ∧ V.cell? ⟨w.heap.size + 1 + 1, 1, none⟩ = some (.int .u8 (0 : Int)) ∧ V.cell? ⟨w.heap.size + 1 + 1, 2, none⟩ = some (.slice none 0 0) ∧ V.cell? ⟨w.heap.size + 1 + 1 + 1, 0, none⟩ = some (.int .u8 (0 : Int)) ∧ V.cell? ⟨w.heap.size + 1 + 1 + 1, 1, none⟩ = some (.int .u8 (0 : Int)) ∧ V.cell? ⟨w.heap.size + 1 + 1 + 1, 2, none⟩ = some (.slice none 0 0)) (by kernel_rfl) ?th1 (fun hHeld => ?tk1)
    case th1 => ((try dsimp only); exact ⟨(KA5.out.cell 0), (KA5.out.cell 1), (KA5.out.cell 2), (KB5.out.cell 0), (KB5.out.cell 1), (KB5.out.cell 2)⟩)
    refine' takeV 0 (oi := _) (d := _) (v := _) ?ti2 ?td2 (by kernel_rfl) (by kernel_rfl) (by kernel_rfl) (by kernel_rfl) (by decide) (fun _ _ _ _ _ h => h) ?tg2 ?ty2 (by assumption) ?tr2
    case ti2 => (simp only [List.getElem?_toArray, List.getElem?_cons_succ, List.getElem?_cons_zero]; rfl)
    case td2 => exact rfl
    case tg2 => exact rfl
    case ty2 => (intro w hSw; (try dsimp only at hSw); go_split_ands; go_simp; try with_reducible rfl)
    simp only [List.setIfInBounds_toArray, List.set_cons_zero, List.set_cons_succ]
    refine' takeV 1 (oi := _) (d := _) (v := _) ?ti3 ?td3 (by kernel_rfl) (by kernel_rfl) (by kernel_rfl) (by kernel_rfl) (by decide) (fun _ _ _ _ _ h => h) ?tg3 ?ty3 (by assumption) ?tr3
    case ti3 => (simp only [List.getElem?_toArray, List.getElem?_cons_succ, List.getElem?_cons_zero]; rfl)
    case td3 => exact rfl
    case tg3 => exact rfl
    case ty3 => (intro w hSw; (try dsimp only at hSw); go_split_ands; go_simp; try with_reducible rfl)
    simp only [List.setIfInBounds_toArray, List.set_cons_zero, List.set_cons_succ]
    obtain ⟨V0, hV0⟩ : ∃ V0, V0 = w2.drew := ⟨_, rfl⟩
    have B0 : Below w2.heap.size w2 V0 := by rw [hV0]; exact (Below.refl _ _).drew
    have ka := KA5.out.below B0 KA5.out.lt
    have kb := KB5.out.below B0 KB5.out.lt
    rw [← hV0] at hHeld ⊢
    clear hV0 hHeld
    refine stepG 2 (by kernel_rfl) (by simp only [List.getElem?_toArray, List.getElem?_cons_succ, List.getElem?_cons_zero]; rfl) (fun K hK => ?_)
    refine step_store_blk rfl 24 (.tmp 6) (.tmp 21) rfl rfl (cs := [.int .u8 (0 : Int), .int .u8 (0 : Int), .slice none 0 0]) rfl ka rfl infoNd (nd_one 0 0 none 0 0) ?_
    intro wa hka hga
    refine hK.out _ _ ?ts4 (fun hHeld => ?_)
    case ts4 => ((try dsimp only); (have kb2 := kb.keep_grown hga (by simp); exact ⟨hka.cell 0, hka.cell 1, hka.cell 2, kb2.cell 0, kb2.cell 1, kb2.cell 2⟩))
    clear hK K
    have kb2 := kb.keep_grown hga (by simp)
    clear hHeld
    refine stepGate 3 (by kernel_rfl) (by kernel_rfl) (by simp only [List.getElem?_toArray, List.getElem?_cons_succ, List.getElem?_cons_zero]; rfl) (fun K hK => ?_)
    refine step_store_blk rfl 24 (.tmp 7) (.tmp 22) rfl rfl (cs := [.int .u8 (0 : Int), .int .u8 (0 : Int), .slice none 0 0]) rfl kb2 rfl infoNd (nd_one 0 0 none 0 0) ?_
    intro wb hkb2 hgb
    refine hK.out _ _ ?_
    clear hK K
    refine' takeW 4 (oi := _) (d := _) (v := _) ?ti5 ?td5 (by kernel_rfl) (by kernel_rfl) (by kernel_rfl) (by decide) (fun _ _ _ _ _ h => h) ?tg5 ?ty5 ?tf5 ?tr5
    case ti5 => (simp only [List.getElem?_toArray, List.getElem?_cons_succ, List.getElem?_cons_zero]; rfl)
    case td5 => exact rfl
    case tg5 => exact rfl
    case ty5 => (intro w; go_simp; try with_reducible rfl)
    case tf5 => first | (intro _; assumption) | (intro e; exact absurd e (by decide +kernel))
    simp only [List.setIfInBounds_toArray, List.set_cons_zero, List.set_cons_succ]
    refine' takeW 5 (oi := _) (d := _) (v := _) ?ti6 ?td6 (by kernel_rfl) (by kernel_rfl) (by kernel_rfl) (by decide) (fun _ _ _ _ _ h => h) ?tg6 ?ty6 ?tf6 ?tr6
    case ti6 => (simp only [List.getElem?_toArray, List.getElem?_cons_succ, List.getElem?_cons_zero]; rfl)
    case td6 => exact rfl
    case tg6 => exact rfl
    case ty6 => (intro w; go_simp; try with_reducible rfl)
    case tf6 => first | (intro _; assumption) | (intro e; exact absurd e (by decide +kernel))
    simp only [List.setIfInBounds_toArray, List.set_cons_zero, List.set_cons_succ]
    refine doneG (by kernel_rfl) ?_ _
    go_wp2_with fail
    have t0 := B0.size
    have t5 := HB2.out.size
    have hfin := (((HB2.out.mono (by omega : w.heap.size + 1 + 1 ≤ W.heap.size)).trans (B0.mono (by omega))).grown hga (by omega) (by intro q hq; simp at hq; omega)).grown hgb (by have := hga.size; omega) (by intro q hq; simp at hq; omega)
    have hka2 := hka.keep_grown hgb (by simp)
    have e0 := hka2.cell 0
    have e1 := hka2.cell 1
    have e2 := hka2.cell 2
    have f0 := hkb2.cell 0
    have f1 := hkb2.cell 1
    have f2 := hkb2.cell 2
    rw [HJF.out]
    refine bodyPost_ret (v := .tuple #[NdV 0 0 none 0 0, NdV 0 0 none 0 0, .slice none 0 0, .int .i64 2]) ?_ rfl (EvP.none_ (HWB.out.trans (hfin.mono (by omega))))
    simp [results, Try.results33, go_sem, e0, e1, e2, f0, f1, f2]
set_option maxRecDepth 100000 in
set_option maxHeartbeats 3200000 in
theorem refeven_any (k l : Nat) (A : Option Addr) (n c : Nat) (es : List Ent) (k' l' : Nat) (A' : Option Addr) (n' c' : Nat) (es' : List Ent) (Ak : Option Addr) (nk ck : Nat) (key : List UInt8) (w : World) (h : RdL w A n c es) (h' : RdL w A' n' c' es') (hky : Rd w Ak nk ck key)
    (hk : k < 256) (hl : l < 256) (hk' : k' < 256) (hl' : l' < 256) (hN : n ≤ 4000) (hN' : n' ≤ 4000) (hs : shortE es) (hc4 : ∀ j, j < es.length → (es.getD j ent0).key.length ≤ 4096 ∧ (es.getD j ent0).val.length ≤ 4096) (hs' : shortE es') (hin : esIn es) (hin' : esIn es') (hkn : nk ≤ 140737488355328) :
    Calls Try.prog 35 #[NdV k l A n c, NdV k' l' A' n' c', .slice Ak nk ck] w (EvP (evB k l es k' l' es' key) k l (oneL k es es' key) w) := by
  have hkn0 : key.length ≤ 140737488355328 := by rw [← hky.len]; exact hkn
  have hcap := h.cap
  have hcap' := h'.cap
  have HLn := Lib.hid h.len
  have HLn' := Lib.hid h'.len
  obtain ⟨L, HL⟩ : ∃ L, Hid (oneL k es es' key = L) := ⟨_, rfl⟩
  obtain ⟨N, HNN⟩ : ∃ N, Hid (n + n' = N) := ⟨_, rfl⟩
  have HLL : Hid (L.length = N) := by show _ = _; rw [← HL.out, oneL_length, ← HLn.out, ← HLn'.out]; exact HNN.out
  have HNle : Hid (N ≤ 9000) := by show _ ≤ _; rw [← HNN.out]; omega
  have HSL : Hid (shortE L) := by rw [← HL.out]; exact hs.one hs' hkn0
  have HIL : Hid (esIn L) := by rw [← HL.out]; exact hin.one hin'
  obtain ⟨W, hW⟩ : ∃ W, W = (((w.alloc (.cells #[.int .u8 (k : Int), .int .u8 (l : Int), .slice A n c] 24)).alloc (.cells #[.int .u8 (k' : Int), .int .u8 (l' : Int), .slice A' n' c'] 24)).alloc (.cells #[.int .u8 0, .int .u8 0, .slice none 0 0] 24)).alloc (.cells #[.int .u8 0, .int .u8 0, .slice none 0 0] 24) := ⟨_, rfl⟩
  have HWB : Hid (Below w.heap.size w W) := by rw [hW]; exact (((below_new _ _).alloc (by simp) _).alloc (by simp; omega) _).alloc (by simp; omega) _
  have NA : Hid (Nin W w.heap.size k l A n c es) := ⟨by rw [hW]; exact (((Blk.new _ _ _).alloc _).alloc _).alloc _, h.below HWB.out⟩
  have NB : Hid (Nin W (w.heap.size + 1) k' l' A' n' c' es') := ⟨by rw [hW]; exact ((Blk.new' _ _ _ _ (by simp)).alloc _).alloc _, h'.below HWB.out⟩
  have KZ1 : Hid (Blk W (w.heap.size + 1 + 1) 24 [Value.int .u8 0, .int .u8 0, .slice none 0 0].toArray) := by rw [hW]; exact (Blk.new' _ _ _ _ (by simp)).alloc _
  have KZ2 : Hid (Blk W (w.heap.size + 1 + 1 + 1) 24 [Value.int .u8 0, .int .u8 0, .slice none 0 0].toArray) := by rw [hW]; exact Blk.new' _ _ _ _ (by simp)
  have HW := Lib.hid hW
  have hWs := KZ2.out.lt
  have sW := HWB.out.size
  have HC := refone_any k l A n c es k' l' A' n' c' es' Ak nk ck key W NA.out.rd NB.out.rd (hky.below HWB.out) hk hl hk' hl' hN hN' hs hc4 hs' hkn
  rw [HL.out] at HC ⊢
  obtain ⟨J, HJ⟩ : ∃ J, Hid (evB k l es k' l' es' key = J) := ⟨_, rfl⟩
  rw [HJ.out]
  have d0 := NA.out.c0
  have d1 := NA.out.c1
  have d2 := NA.out.c2
  have f0 := NB.out.c0
  have f1 := NB.out.c1
  have f2 := NB.out.c2
  clear h h' hky hW hs hs' hc4 hin hin'
  by_cases hq : (oneB k l es k' l' es' && (rE k l L == 0)) = true
  · have hbt : oneB k l es k' l' es' = true := by rw [Bool.and_eq_true] at hq; exact hq.1
    have HJT : Hid (J = true) := by show _ = _; rw [← HJ.out, evB, HL.out, hq]
    have HOK := Lib.hid (NodB.ok HC hbt hq HLL.out)
    clear HC hq hbt
    go_enter Try.func35, Try.ntmps35
    go_wp2_with fail
    rw [← HW.out]
    refine HOK.out.mono ?_
    rintro e w1 ⟨A9, c9, rfl, ho, hb⟩
    have HB1 : Hid (Below W.heap.size W w1) := hb
    have s1 := hb.size
    obtain ⟨g8, hg8e⟩ : ∃ g8, w1.heap.size = g8 := ⟨_, rfl⟩
    obtain ⟨w2, hw2⟩ : ∃ w2, w2 = w1.alloc (.cells #[.int .u8 (k : Int), .int .u8 (l : Int), .slice A9 N c9] 24) := ⟨_, rfl⟩
    have HB2 : Hid (Below W.heap.size W w2) := by rw [hw2]; exact HB1.out.alloc s1 _
    have HO2 : Hid (OwnN w2 W.heap.size A9 N c9 L) := by rw [hw2]; exact ho.below (below_new _ _)
    have HK2 : Hid (Blk w2 g8 24 (ndA k l A9 N c9)) := by rw [hw2]; exact Blk.new' _ _ _ _ hg8e
    have HW2 := Lib.hid hw2
    have HG8 := Lib.hid hg8e
    have s2 := HB2.out.size
    have HCSS := Lib.hid (refsplit_any k l A9 N c9 L w2 (HO2.out.rdl HLL.out.symm) hk hl HIL.out (by have := HNle.out; omega) HSL.out)
    clear hb ho hw2 hg8e d0 d1 d2 f0 f1 f2 HOK
    go_upto_region 2 with fail
    rw [← HW2.out, HG8.out]
    have d0 : w2.cell? ⟨g8, 0, none⟩ = some (.int .u8 (k : Int)) := HK2.out.cell 0
    have d1 : w2.cell? ⟨g8, 1, none⟩ = some (.int .u8 (l : Int)) := HK2.out.cell 1
    have d2 : w2.cell? ⟨g8, 2, none⟩ = some (.slice A9 N c9) := HK2.out.cell 2
    go_wp2_with fail
    refine HCSS.out.mono ?_
    rintro e wb ⟨A1, c1, A2, c2, B, m, d, rfl, ho1, ho2, ho3, hb, hdis⟩
    obtain ⟨x9, HX9⟩ : ∃ x9, Hid (splN k l L k = x9) := ⟨_, rfl⟩
    obtain ⟨y9, HY9⟩ : ∃ y9, Hid (splN k l L l = y9) := ⟨_, rfl⟩
    obtain ⟨LA, HLA⟩ : ∃ LA, Hid (splA k l L = LA) := ⟨_, rfl⟩
    obtain ⟨LB, HLB⟩ : ∃ LB, Hid (splB k l L = LB) := ⟨_, rfl⟩
    obtain ⟨LK, HLK⟩ : ∃ LK, Hid (splK k l L = LK) := ⟨_, rfl⟩
    obtain ⟨E, HE⟩ : ∃ E, Hid (splE k l L = E) := ⟨_, rfl⟩
    rw [HLA.out] at ho1
    rw [HLB.out] at ho2
    rw [HLK.out] at ho3
    rw [HX9.out, HY9.out, HLA.out, HLB.out, HE.out]
    obtain ⟨nA, HNA⟩ : ∃ nA, Hid (LA.length = nA) := ⟨_, rfl⟩
    obtain ⟨nB, HNB⟩ : ∃ nB, Hid (LB.length = nB) := ⟨_, rfl⟩
    rw [HNA.out] at ho1
    rw [HNB.out] at ho2
    rw [HNA.out, HNB.out]
    have HBb : Hid (Below W.heap.size W wb) := HB2.out.trans (hb.mono s2)
    have O1 : Hid (OwnN wb W.heap.size A1 nA c1 LA) := ho1.mono s2
    have O2 : Hid (OwnN wb W.heap.size A2 nB c2 LB) := ho2.mono s2
    have O3 : Hid (Own wb W.heap.size B m d LK) := ho3.mono s2
    have HDIS := Lib.hid hdis
    have kz1 := Lib.hid (KZ1.out.below HBb.out KZ1.out.lt)
    have kz2 := Lib.hid (KZ2.out.below HBb.out KZ2.out.lt)
    have sb := HBb.out.size
    have hl1 : [Value.int .u8 0, .int .u8 0, .slice none 0 0].length = [Value.int .u8 (x9 : Int), .int .u8 (y9 : Int), .slice A1 nA c1].length := rfl
    have hl2 : [Value.int .u8 0, .int .u8 0, .slice none 0 0].length = [Value.int .u8 (x9 : Int), .int .u8 (y9 : Int), .slice A2 nB c2].length := rfl
    have hi1 : (Try.prog.info? 24).map (·.size) = some [Value.int .u8 (x9 : Int), .int .u8 (y9 : Int), .slice A1 nA c1].length := infoNd
    have hi2 : (Try.prog.info? 24).map (·.size) = some [Value.int .u8 (x9 : Int), .int .u8 (y9 : Int), .slice A2 nB c2].length := infoNd
    clear hb ho1 ho2 ho3 hdis d0 d1 d2 HCSS HK2 HO2 HB2
    go_wp2_with (first
      | (with_reducible refine wpList_store_blk rfl 24 (.tmp 6) (.tmp 25) rfl rfl (cs := [Value.int .u8 (x9 : Int), .int .u8 (y9 : Int), .slice A1 nA c1]) rfl kz1.out hl1 hi1 (nd_one _ _ _ _ _) ?_; intro wa hka hga; have kz3 := Lib.hid (kz2.out.keep_grown hga (by simp)))
      | (with_reducible refine wpList_store_blk rfl 24 (.tmp 7) (.tmp 26) rfl rfl (cs := [Value.int .u8 (x9 : Int), .int .u8 (y9 : Int), .slice A2 nB c2]) rfl kz3.out hl2 hi2 (nd_one _ _ _ _ _) ?_; intro wd hkb2 hgb))
    have hka2 := hka.keep_grown hgb (by simp)
    have e0 := hka2.cell 0
    have e1 := hka2.cell 1
    have e2 := hka2.cell 2
    have f0 := hkb2.cell 0
    have f1 := hkb2.cell 1
    have f2 := hkb2.cell 2
    have hfin := ((HBb.out.mono (by omega : w.heap.size + 1 + 1 ≤ W.heap.size)).grown hga (by omega) (by intro q hq; simp at hq; omega)).grown hgb (by have := hga.size; omega) (by intro q hq; simp at hq; omega)
    rw [HJT.out]
    refine bodyPost_ret (v := .tuple #[NdV x9 y9 A1 nA c1, NdV x9 y9 A2 nB c2, .slice B m d, .int .i64 E]) ?_ rfl ⟨A1, c1, A2, c2, B, m, d, ?_, ?_, ?_, ?_, HWB.out.trans (hfin.mono (by omega)), HDIS.out⟩
    · simp [results, Try.results35, go_sem, e0, e1, e2, f0, f1, f2]
    · simp only [bN, bE, if_true, HX9.out, HY9.out, HLA.out, HLB.out, HNA.out, HNB.out, HE.out]
    · simp only [bE, if_true, HLA.out, HNA.out]
      exact ((O1.out.keptE kz1.out (by decide) (by decide) hga).keptE kz3.out (by decide) (by decide) hgb).mono (by omega)
    · simp only [bE, if_true, HLB.out, HNB.out]
      exact ((O2.out.keptE kz1.out (by decide) (by decide) hga).keptE kz3.out (by decide) (by decide) hgb).mono (by omega)
    · simp only [if_true, HLK.out]
      exact ((O3.out.keptE kz1.out (by decide) hga).keptE kz3.out (by decide) hgb).mono (by omega)
  · have hqf : (oneB k l es k' l' es' && (rE k l L == 0)) = false := by cases hx : (oneB k l es k' l' es' && (rE k l L == 0)) with
      | true => exact absurd hx hq
      | false => rfl
    have HJF : Hid (J = false) := by show _ = _; rw [← HJ.out, evB, HL.out, hqf]
    have HNO := Lib.hid (NodB.no HC hqf)
    clear HC hq hqf
    go_enter Try.func35, Try.ntmps35
    go_wp2_with fail
    rw [← HW.out]
    refine HNO.out.mono ?_
    rintro e w1 ⟨k9, l9, A9, n9, c9, rfl, hb⟩
    have HB1 : Hid (Below W.heap.size W w1) := hb
    have s1 := hb.size
    obtain ⟨w2, hw2⟩ : ∃ w2, w2 = w1.alloc (.cells #[.int .u8 (k9 : Int), .int .u8 (l9 : Int), .slice A9 n9 c9] 24) := ⟨_, rfl⟩
    have HB2 : Hid (Below W.heap.size W w2) := by rw [hw2]; exact HB1.out.alloc s1 _
    have KA5 := Lib.hid (KZ1.out.below HB2.out KZ1.out.lt)
    have KB5 := Lib.hid (KZ2.out.below HB2.out KZ2.out.lt)
    clear hb d0 d1 d2 f0 f1 f2 HNO
    go_upto_region 2 with fail
    rw [← hw2]
    clear hw2
    go_upto_region 3 with fail
    have hi0 : (Try.prog.info? 24).map (·.size) = some [Value.int .u8 0, .int .u8 0, .slice none 0 0].length := infoNd
    have ho0 : ∀ v ∈ [Value.int .u8 0, .int .u8 0, .slice none 0 0], v.oneCell' = true := nd_one 0 0 none 0 0
    go_wp2_with (first
      | (with_reducible refine wpList_store_blk rfl 24 (.tmp 6) (.tmp 21) rfl rfl (cs := [Value.int .u8 0, .int .u8 0, .slice none 0 0]) rfl KA5.out z3len hi0 ho0 ?_; intro wa hka hga; have kz3 := Lib.hid (KB5.out.keep_grown hga (by simp)))
      | (with_reducible refine wpList_store_blk rfl 24 (.tmp 7) (.tmp 22) rfl rfl (cs := [Value.int .u8 0, .int .u8 0, .slice none 0 0]) rfl kz3.out z3len hi0 ho0 ?_; intro wb hkb2 hgb))
    have t5 := HB2.out.size
    have hfin := ((HB2.out.mono (by omega : w.heap.size + 1 + 1 ≤ W.heap.size)).grown hga (by omega) (by intro q hq; simp at hq; omega)).grown hgb (by have := hga.size; omega) (by intro q hq; simp at hq; omega)
    have hka2 := hka.keep_grown hgb (by simp)
    have e0 := hka2.cell 0
    have e1 := hka2.cell 1
    have e2 := hka2.cell 2
    have f0 := hkb2.cell 0
    have f1 := hkb2.cell 1
    have f2 := hkb2.cell 2
    rw [HJF.out]
    refine bodyPost_ret (v := .tuple #[NdV 0 0 none 0 0, NdV 0 0 none 0 0, .slice none 0 0, .int .i64 2]) ?_ rfl (EvP.none_ (HWB.out.trans (hfin.mono (by omega))))
    simp [results, Try.results35, go_sem, e0, e1, e2, f0, f1, f2]
end Go.Proofs.Ytgihcjmcefdkiaa
