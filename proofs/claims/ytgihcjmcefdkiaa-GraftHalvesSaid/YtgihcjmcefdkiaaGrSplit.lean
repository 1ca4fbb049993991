/- Contracts: graft.Split. -/
import Derived.Test.YtgihcjmcefdkiaaSplP
import Derived.Test.YtgihcjmcefdkiaaEnc
import Derived.WalkMore
import Derived.Deep.DeepCutAuto
set_option linter.unusedVariables false
set_option linter.unusedSimpArgs false
namespace Go.Proofs.Ytgihcjmcefdkiaa
open Go.RowKit

theorem esIn.take {es : List Ent} (h : esIn es) (i : Nat) : esIn (es.take i) := fun j hj => by
  rw [List.length_take] at hj
  rw [take_getD es i j (by omega)]; exact h j (by omega)
theorem esIn.drop {es : List Ent} (h : esIn es) (i : Nat) : esIn (es.drop i) := fun j hj => by
  rw [List.length_drop] at hj
  rw [drop_getD]; exact h (i + j) (by omega)
theorem esIn.nk {es : List Ent} (h : esIn es) : esIn (nk es) := fun j hj => by
  rw [nk_length] at hj
  cases j with
  | zero => rw [nk_zero hj]; exact h 0 hj
  | succ j => rw [nk_succ]; exact h (j + 1) hj
theorem esIn.cutB {es : List Ent} (h : esIn es) (k i : Nat) : esIn (cutB k es i) := by
  unfold Go.Proofs.Ytgihcjmcefdkiaa.cutB; split
  · exact (h.drop i).nk
  · exact h.drop i
theorem right_reach {k l : Nat} {es : List Ent} (hl : es.length ≤ 10000) : rE k l es = 0 → 3 + (entsB k es).length ≤ 140737488355328 := fun hr => by
  have h1 := entsB_le (right_all hr) es.length (Nat.le_refl _)
  rw [List.take_length] at h1
  omega
def splN (k l : Nat) (es : List Ent) (x : Nat) : Nat := if splE k l es = 0 then x else 0
/-- What Split leaves. -/
def SplP (k l : Nat) (es : List Ent) (w : World) (e : Ending) (w' : World) : Prop := ∃ A1 c1 A2 c2 B m d,
  e = .returned (.tuple #[NdV (splN k l es k) (splN k l es l) A1 (splA k l es).length c1, NdV (splN k l es k) (splN k l es l) A2 (splB k l es).length c2, .slice B m d, .int .i64 (splE k l es)]) ∧
  OwnN w' w.heap.size A1 (splA k l es).length c1 (splA k l es) ∧ OwnN w' w.heap.size A2 (splB k l es).length c2 (splB k l es) ∧ Own w' w.heap.size B m d (splK k l es) ∧ Below w.heap.size w w' ∧ (∀ a a', A1 = some a → A2 = some a' → a.block ≠ a'.block)
theorem SplP.none_ {k l : Nat} {es : List Ent} {w w' : World} (h : splE k l es ≠ 0) (hb : Below w.heap.size w w') {E : Int} (hE : splE k l es = E) : SplP k l es w (.returned (.tuple #[NdV 0 0 none 0 0, NdV 0 0 none 0 0, .slice none 0 0, .int .i64 E])) w' := by
  have e1 : ∀ x, splN k l es x = 0 := fun x => by unfold splN; rw [if_neg h]
  have e2 : splA k l es = [] := by unfold splA; rw [if_neg h]
  have e3 : splB k l es = [] := by unfold splB; rw [if_neg h]
  have e4 : splK k l es = [] := by unfold splK; rw [if_neg h]
  refine ⟨none, 0, none, 0, none, 0, 0, ?_, ?_, ?_, ?_, hb, fun a a' h1 h2 => by cases h1⟩
  · rw [e1, e1, e2, e3, hE]; rfl
  · rw [e2]; exact OwnN.nil _ _ _
  · rw [e3]; exact OwnN.nil _ _ _
  · rw [e4]; exact Own.nil _ _
set_option maxRecDepth 100000 in
set_option maxHeartbeats 6400000 in
theorem split_any (k l : Nat) (A : Option Addr) (n c : Nat) (es : List Ent) (w : World) (h : RdL w A n c es) (hk : k < 256) (hl : l < 256) (hin : esIn es) (hN : n ≤ 10000) (hs : shortE es) :
    Calls Try.prog 15 #[NdV k l A n c] w (SplP k l es w) := by
  have hcap := h.cap
  have hmax := h.max
  unfold maxLen at hmax
  have HLn := Lib.hid h.len
  have HS := Lib.hid hs
  have HIN := Lib.hid hin
  have hNN : rE k l es = 0 → 3 + (entsB k es).length ≤ 140737488355328 := fun hr => by
    have h1 := entsB_le (right_all hr) es.length (Nat.le_refl _)
    rw [List.take_length] at h1
    have := h.len
    omega
  obtain ⟨W, hW⟩ : ∃ W, W = ((w.alloc (.cells #[.int .u8 (k : Int), .int .u8 (l : Int), .slice A n c] 24)).alloc (.cells #[.int .u8 0, .int .u8 0, .slice none 0 0] 24)).alloc (.cells #[.int .u8 0, .int .u8 0, .slice none 0 0] 24) := ⟨_, rfl⟩
  have HWB : Hid (Below w.heap.size w W) := by rw [hW]; exact ((below_new _ _).alloc (by simp) _).alloc (by simp; omega) _
  have KN : Hid (Blk W w.heap.size 24 (ndA k l A n c)) := by rw [hW]; exact ((Blk.new _ _ _).alloc _).alloc _
  have KZ1 : Hid (Blk W (w.heap.size + 1) 24 [Value.int .u8 0, .int .u8 0, .slice none 0 0].toArray) := by rw [hW]; exact (Blk.new' _ _ _ _ (by simp)).alloc _
  have KZ2 : Hid (Blk W (w.heap.size + 1 + 1) 24 [Value.int .u8 0, .int .u8 0, .slice none 0 0].toArray) := by rw [hW]; exact Blk.new' _ _ _ _ (by simp)
  have HR := Lib.hid (h.below HWB.out)
  have HW := Lib.hid hW
  have hWs := KZ2.out.lt
  have HM := Lib.hid (size_any k l A n c es W HR.out hk hl hin hNN)
  clear h hs hW hNN hin
  have d0 : W.cell? ⟨w.heap.size, 0, none⟩ = some (.int .u8 (k : Int)) := KN.out.cell 0
  have d1 : W.cell? ⟨w.heap.size, 1, none⟩ = some (.int .u8 (l : Int)) := KN.out.cell 1
  have d2 : W.cell? ⟨w.heap.size, 2, none⟩ = some (.slice A n c) := KN.out.cell 2
  by_cases hr : rE k l es = 0
  · have hsz : sizeV k l es = 3 + (entsB k es).length := by rw [sizeV, if_pos hr]
    rw [hr, hsz] at HM
    obtain ⟨t, ht⟩ : ∃ t, 3 + (entsB k es).length = t := ⟨_, rfl⟩
    rw [ht] at HM
    have HT := Lib.hid ht
    have HRR := Lib.hid hr
    clear hr hsz ht
    go_enter Try.func15, Try.ntmps15
    go_wp2_with fail
    rw [← HW.out]
    go_step3
    go_wp2_with fail
    refine HM.out.mono ?_
    rintro e w1 ⟨rfl, hb1⟩
    have HB1 := Lib.hid hb1
    clear hb1 HM d0 d1 d2
    by_cases h224 : t ≤ 224
    · have hd : decide ((t : Int) ≤ 224) = true := decide_eq_true (by omega)
      have HE : Hid (splE k l es = 7) := by show _ = _; rw [splE, if_pos HRR.out, if_pos (by rw [HT.out]; exact h224)]
      go_upto_region 5 with fail
      obtain ⟨w5, hw5⟩ : ∃ w5, w5 = w1 := ⟨_, rfl⟩
      have KA5 := Lib.hid (hw5 ▸ KZ1.out.below HB1.out KZ1.out.lt)
      have KB5 := Lib.hid (hw5 ▸ KZ2.out.below HB1.out KZ2.out.lt)
      have HB5 : Hid (Below (w.heap.size + 1) W w5) := by rw [hw5]; exact HB1.out.mono (by omega)
      rw [← hw5]
      clear hw5 hd
      refine region_gate 3 (fun V => V.cell? ⟨w.heap.size + 1, 0, none⟩ = some (.int .u8 (0 : Int)) ∧ V.cell? ⟨w.heap.size + 1, 1, none⟩ = some (.int .u8 (0 : Int)) ∧ V.cell? ⟨w.heap.size + 1, 2, none⟩ = some (.slice none 0 0) ∧ V.cell? ⟨w.heap.size + 1 + 1, 0, none⟩ = some (.int .u8 (0 : Int)) ∧ V.cell? ⟨w.heap.size + 1 + 1, 1, none⟩ = some (.int .u8 (0 : Int)) ∧ V.cell? ⟨w.heap.size + 1 + 1, 2, none⟩ = some (.slice none 0 0)) (by kernel_rfl) ?th1 (fun hHeld => ?tk1)
      case th1 => ((try dsimp only); exact ⟨(KA5.out.cell 0), (KA5.out.cell 1), (KA5.out.cell 2), (KB5.out.cell 0), (KB5.out.cell 1), (KB5.out.cell 2)⟩)
      refine' takeV 0 (oi := _) (d := _) (v := _) ?ti2 ?td2 (by kernel_rfl) (by kernel_rfl) (by kernel_rfl) (by kernel_rfl) (by decide) (fun _ _ _ _ _ h => h) ?tg2 ?ty2 (by assumption) ?tr2
      case ti2 => (simp only [List.getElem?_toArray, List.getElem?_cons_succ, List.getElem?_cons_zero]; rfl)
      case td2 => exact rfl
      case tg2 => exact rfl
      case ty2 => (intro w hSw; (try dsimp only at hSw); go_split_ands; go_simp; try with_reducible rfl)
      simp only [List.setIfInBounds_toArray, List.set_cons_zero, List.set_cons_succ]
      refine' takeV 1 (oi := _) (d := _) (v := _) ?ti3 ?td3 (by kernel_rfl) (by kernel_rfl) (by kernel_rfl) (by kernel_rfl) (by decide) (fun _ _ _ _ _ h => h) ?tg3 ?ty3 (by assumption) ?tr3
      case ti3 => (simp only [List.getElem?_toArray, List.getElem?_cons_succ, List.getElem?_cons_zero]; rfl)
      case td3 => exact rfl
      case tg3 => exact rfl
      case ty3 => (intro w hSw; (try dsimp only at hSw); go_split_ands; go_simp; try with_reducible rfl)
      simp only [List.setIfInBounds_toArray, List.set_cons_zero, List.set_cons_succ]
      obtain ⟨V0, hV0⟩ : ∃ V0, V0 = w5.drew := ⟨_, rfl⟩
      have B0 : Below w5.heap.size w5 V0 := by rw [hV0]; exact (Below.refl _ _).drew
      have ka := KA5.out.below B0 KA5.out.lt
      have kb := KB5.out.below B0 KB5.out.lt
      rw [← hV0] at hHeld ⊢
      clear hV0 hHeld
      refine stepG 2 (by kernel_rfl) (by simp only [List.getElem?_toArray, List.getElem?_cons_succ, List.getElem?_cons_zero]; rfl) (fun K hK => ?_)
      refine step_store_blk rfl 24 (.tmp 2) (.tmp 29) rfl rfl (cs := [.int .u8 (0 : Int), .int .u8 (0 : Int), .slice none 0 0]) rfl ka rfl infoNd (nd_one _ _ _ _ _) ?_
      intro wa hka hga
      refine hK.out _ _ ?ts4 (fun hHeld => ?_)
      case ts4 => ((try dsimp only); (have kb2 := kb.keep_grown hga (by simp); exact ⟨hka.cell 0, hka.cell 1, hka.cell 2, kb2.cell 0, kb2.cell 1, kb2.cell 2⟩))
      clear hK K
      have kb2 := kb.keep_grown hga (by simp)
      clear hHeld
      refine stepGate 3 (by kernel_rfl) (by kernel_rfl) (by simp only [List.getElem?_toArray, List.getElem?_cons_succ, List.getElem?_cons_zero]; rfl) (fun K hK => ?_)
      refine step_store_blk rfl 24 (.tmp 3) (.tmp 30) rfl rfl (cs := [.int .u8 (0 : Int), .int .u8 (0 : Int), .slice none 0 0]) rfl kb2 rfl infoNd (nd_one _ _ _ _ _) ?_
      intro wb hkb2 hgb
      refine hK.out _ _ ?_
      clear hK K
      refine' takeW 4 (oi := _) (d := _) (v := _) ?ti5 ?td5 (by kernel_rfl) (by kernel_rfl) (by kernel_rfl) (by decide) (fun _ _ _ _ _ h => h) ?tg5 ?ty5 ?tf5 ?tr5
      case ti5 => (simp only [List.getElem?_toArray, List.getElem?_cons_succ, List.getElem?_cons_zero]; rfl)
      case td5 => exact rfl
      case tg5 => exact rfl
      case ty5 => (intro w; go_simp; try with_reducible rfl)
      case tf5 => first | (intro _; assumption) | (intro e; exact absurd e (by decide +kernel))
      simp only [List.setIfInBounds_toArray, List.set_cons_zero, List.set_cons_succ]
      refine' takeW 5 (oi := _) (d := _) (v := _) ?ti6 ?td6 (by kernel_rfl) (by kernel_rfl) (by kernel_rfl) (by decide) (fun _ _ _ _ _ h => h) ?tg6 ?ty6 ?tf6 ?tr6
      case ti6 => (simp only [List.getElem?_toArray, List.getElem?_cons_succ, List.getElem?_cons_zero]; rfl)
      case td6 => exact rfl
      case tg6 => exact rfl
      case ty6 => (intro w; go_simp; try with_reducible rfl)
      case tf6 => first | (intro _; assumption) | (intro e; exact absurd e (by decide +kernel))
      simp only [List.setIfInBounds_toArray, List.set_cons_zero, List.set_cons_succ]
      refine doneG (by kernel_rfl) ?_ _
      go_wp2_with fail
      have hka2 := hka.keep_grown hgb (by simp)
      have e0 := hka2.cell 0
      have e1 := hka2.cell 1
      have e2 := hka2.cell 2
      have f0 := hkb2.cell 0
      have f1 := hkb2.cell 1
      have f2 := hkb2.cell 2
      have t0 := B0.size
      have t5 := HB5.out.size
      have hfin := ((HB5.out.trans (B0.mono (by omega))).grown hga (by omega) (by intro q hq; simp at hq; omega)).grown hgb (by have := hga.size; omega) (by intro q hq; simp at hq; omega)
      refine bodyPost_ret (v := .tuple #[NdV 0 0 none 0 0, NdV 0 0 none 0 0, .slice none 0 0, .int .i64 7]) ?_ rfl (SplP.none_ (by rw [HE.out]; decide) (HWB.out.trans (hfin.mono (by omega))) HE.out)
      simp [results, Try.results15, go_sem, e0, e1, e2, f0, f1, f2]
    · have hd : decide ((t : Int) ≤ 224) = false := decide_eq_false (by omega)
      have hn1 : 1 ≤ n := by
        rcases Nat.eq_zero_or_pos n with h0 | h0
        · have := HLn.out
          have e : es = [] := List.eq_nil_of_length_eq_zero (by omega)
          have h3 := HT.out
          rw [e] at h3
          simp [entsB] at h3
          omega
        · exact h0
      go_wp2_with fail
      go_step3
      have ht224 := h224
      clear hd h224
      rename_i K hK
      refine hK _ _ ?_
      clear hK K
      refine wp_seq_k (fun K hK => ?_)
      go_cut [7] (fun s7 wx => s7 = .int .i64 (best k es : Int) ∧ Below W.heap.size W wx)
      case first =>
        go_wp2_with fail
        go_loopw [7, 8, 9] (fun z7 z8 z9 wr => ∃ q : Nat, q + 1 ≤ n ∧ z9 = .int .i64 ((q + 1 : Nat) : Int) ∧ z7 = .int .i64 ((bst k es q).1 : Int) ∧ z8 = .int .i64 ((bst k es q).2 : Int) ∧ Below W.heap.size W wr) (fun _ _ z9 _ => n - (intOf z9).toNat)
        case atStart => exact ⟨0, hn1, rfl, rfl, rfl, HB1.out⟩
        case round =>
          obtain ⟨q, hq, rfl, rfl, rfl, hbel⟩ := hrel
          have HBE := Lib.hid hbel
          have hbs := hbel.size
          have KNr := Lib.hid (KN.out.below hbel KN.out.lt)
          have HRr := Lib.hid (HR.out.below hbel)
          clear hbel
          obtain ⟨p, hp⟩ : ∃ p, q + 1 = p := ⟨_, rfl⟩
          have d0 : wr.cell? ⟨w.heap.size, 0, none⟩ = some (.int .u8 (k : Int)) := KNr.out.cell 0
          have d1 : wr.cell? ⟨w.heap.size, 1, none⟩ = some (.int .u8 (l : Int)) := KNr.out.cell 1
          have d2 : wr.cell? ⟨w.heap.size, 2, none⟩ = some (.slice A n c) := KNr.out.cell 2
          rw [hp] at hq ⊢
          obtain ⟨B, HB⟩ : ∃ b, Hid ((bst k es q).1 = b) := ⟨_, rfl⟩
          obtain ⟨O, HOF⟩ : ∃ b, Hid ((bst k es q).2 = b) := ⟨_, rfl⟩
          rw [HB.out, HOF.out]
          have HP := Lib.hid hp
          clear hp
          by_cases hlt : p < n
          · have HC := Lib.hid (cut_any k l A n c es p wr HRr.out hk (by have := HP.out; omega) hlt hN HS.out)
            go_wp2_with fail
            refine HC.out.mono ?_
            rintro e w2 ⟨A1, c1, A2, c2, C, m, d, rfl, ho1, ho2, hoc, hb, hdis⟩
            clear hdis
            have HB2 := Lib.hid (HBE.out.trans (hb.mono hbs))
            have O1 := Lib.hid ho1
            have O2 := Lib.hid ho2
            clear HC ho1 ho2 hoc hb d0 d1 d2
            go_upto_region 11 with fail
            obtain ⟨W3, hW3⟩ : ∃ W3, W3 = (w2.alloc (.cells #[.int .u8 (k : Int), .int .u8 (l : Int), .slice A1 p c1] 24)).alloc (.cells #[.int .u8 (k : Int), .int .u8 (l : Int), .slice A2 (n - p) c2] 24) := ⟨_, rfl⟩
            have hb3 : Below w2.heap.size w2 W3 := by rw [hW3]; exact (below_new _ _).alloc (by simp) _
            have I1 : Hid (Blk W3 w2.heap.size 24 (ndA k l A1 p c1)) := by rw [hW3]; exact (Blk.new _ _ _).alloc _
            have I2 : Hid (Blk W3 (w2.heap.size + 1) 24 (ndA k l A2 (n - p) c2)) := by rw [hW3]; exact Blk.new' _ _ _ _ (by simp)
            rw [← hW3]
            have HB3 := Lib.hid (HB2.out.trans (hb3.mono HB2.out.size))
            have hpl : p < es.length := by rw [← HLn.out]; exact hlt
            have hp1 : 1 ≤ p := by have := HP.out; omega
            have R1 := Lib.hid ((O1.out.rdl (by rw [List.length_take]; omega)).below hb3)
            have R2 := Lib.hid ((O2.out.rdl (by rw [cutB_length, HLn.out])).below hb3)
            have ht1 := right_take HRR.out p hp1 (by omega)
            have ht2 := right_cutB HRR.out p hp1 hpl
            have HC := Lib.hid (size_any k l A1 p c1 (es.take p) W3 R1.out hk hl (HIN.out.take p) (right_reach (by rw [List.length_take]; omega)))
            have hx : sizeV k l (es.take p) = xS k es p := by rw [sizeV, if_pos ht1]; rfl
            have hy : sizeV k l (cutB k es p) = yS k es p := by rw [sizeV, if_pos ht2]; rfl
            obtain ⟨X, HX⟩ : ∃ x, Hid (xS k es p = x) := ⟨_, rfl⟩
            obtain ⟨Y, HY⟩ : ∃ x, Hid (yS k es p = x) := ⟨_, rfl⟩
            rw [hx, ht1, HX.out] at HC
            have HY2 := Lib.hid hy
            have HT2 := Lib.hid ht2
            clear hW3 hb3 O1 O2 hx hy ht1 ht2
            have d0 : W3.cell? ⟨w2.heap.size, 0, none⟩ = some (.int .u8 (k : Int)) := I1.out.cell 0
            have d1 : W3.cell? ⟨w2.heap.size, 1, none⟩ = some (.int .u8 (l : Int)) := I1.out.cell 1
            have d2 : W3.cell? ⟨w2.heap.size, 2, none⟩ = some (.slice A1 p c1) := I1.out.cell 2
            go_wp2_with fail
            refine HC.out.mono ?_
            rintro e w4 ⟨rfl, hb⟩
            have HB4 := Lib.hid (HB3.out.trans (hb.mono HB3.out.size))
            have I24 := Lib.hid (I2.out.below hb I2.out.lt)
            have R24 := Lib.hid (R2.out.below hb)
            clear hb d0 d1 d2 HC
            by_cases hX : 224 < X
            · have hd : decide ((X : Int) > 224) = true := decide_eq_true (by omega)
              have hd2 : decide ((224 : Int) < (X : Int)) = true := decide_eq_true (by omega)
              go_wp2_with fail
              go_meet
              refine ⟨?_, HB4.out⟩
              have h1 := HP.out
              have h2 := HLn.out
              rw [← HB.out, best, bst_stop (n := q) (by rw [h1, HX.out]; exact hX) (es.length - 1) (by omega)]
            · have hd : decide ((X : Int) > 224) = false := decide_eq_false (by omega)
              have hd2 : decide ((224 : Int) < (X : Int)) = false := decide_eq_false (by omega)
              have HC := Lib.hid (size_any k l A2 (n - p) c2 (cutB k es p) w4 R24.out hk hl (HIN.out.cutB k p) (right_reach (by rw [cutB_length]; have := HLn.out; omega)))
              rw [HY2.out, HT2.out, HY.out] at HC
              have d0 : w4.cell? ⟨w2.heap.size + 1, 0, none⟩ = some (.int .u8 (k : Int)) := I24.out.cell 0
              have d1 : w4.cell? ⟨w2.heap.size + 1, 1, none⟩ = some (.int .u8 (l : Int)) := I24.out.cell 1
              have d2 : w4.cell? ⟨w2.heap.size + 1, 2, none⟩ = some (.slice A2 (n - p) c2) := I24.out.cell 2
              go_wp2_with fail
              refine HC.out.mono ?_
              rintro e w5 ⟨rfl, hb⟩
              have HB5 := Lib.hid (HB4.out.trans (hb.mono HB4.out.size))
              clear hb d0 d1 d2 HC hd hd2
              have HST : Hid (bst k es p = bsA k es (bst k es q) p) := by show _ = _; rw [← HP.out, bst]
              by_cases hY : 224 < Y
              · have hd : decide ((Y : Int) > 224) = true := decide_eq_true (by omega)
                have hd2 : decide ((224 : Int) < (Y : Int)) = true := decide_eq_true (by omega)
                have HS2 : Hid (bst k es p = bst k es q) := by show _ = _; rw [HST.out, bsA, if_neg]; rw [HX.out, HY.out]; omega
                go_wp2_with fail
                go_roundw
                case rel => exact ⟨p, by omega, rfl, by rw [HS2.out, HB.out], by rw [HS2.out, HOF.out], HB5.out⟩
                case measure => first | (simp [intOf]; done) | (simp [intOf]; omega)
              · have hd : decide ((Y : Int) > 224) = false := decide_eq_false (by omega)
                have hd2 : decide ((224 : Int) < (Y : Int)) = false := decide_eq_false (by omega)
                have hmx : (if (X : Int) - (Y : Int) < (Y : Int) - (X : Int) then (Y : Int) - (X : Int) else (X : Int) - (Y : Int)) = ((dist X Y : Nat) : Int) := by
                  unfold dist; split <;> omega
                have hD : dist X Y ≤ 224 := by unfold dist; omega
                have HD : Hid (bst k es p = if B = 0 ∨ dist X Y < O then (p, dist X Y) else bst k es q) := by
                  show _ = _
                  rw [HST.out, bsA, HX.out, HY.out, if_pos ⟨by omega, by omega⟩, HB.out, HOF.out]
                obtain ⟨D, HDD⟩ : ∃ D, Hid (dist X Y = D) := ⟨_, rfl⟩
                rw [HDD.out] at hmx hD HD
                by_cases hB0 : B = 0
                · have HS2 : Hid (bst k es p = (p, D)) := by show _ = _; rw [HD.out, if_pos (.inl hB0)]
                  have hb0 : ((B : Int) == 0) = true := by rw [beq_iff_eq]; omega
                  go_wp2_with fail
                  go_roundw
                  case rel => exact ⟨p, by omega, by go_num, by rw [HS2.out], by rw [HS2.out], HB5.out⟩
                  case measure => first | (simp [intOf]; done) | (simp [intOf]; omega)
                · have hb0 : ((B : Int) == 0) = false := by rw [beq_eq_false_iff_ne]; omega
                  by_cases hDO : D < O
                  · have HS2 : Hid (bst k es p = (p, D)) := by show _ = _; rw [HD.out, if_pos (.inr hDO)]
                    have hd3 : decide ((D : Int) < (O : Int)) = true := decide_eq_true (by omega)
                    go_wp2_with fail
                    go_roundw
                    case rel => exact ⟨p, by omega, by go_num, by rw [HS2.out], by rw [HS2.out], HB5.out⟩
                    case measure => first | (simp [intOf]; done) | (simp [intOf]; omega)
                  · have HS2 : Hid (bst k es p = bst k es q) := by show _ = _; rw [HD.out, if_neg (by omega)]
                    have hd3 : decide ((D : Int) < (O : Int)) = false := decide_eq_false (by omega)
                    go_wp2_with fail
                    go_roundw
                    case rel => exact ⟨p, by omega, by go_num, by rw [HS2.out, HB.out], by rw [HS2.out, HOF.out], HB5.out⟩
                    case measure => first | (simp [intOf]; done) | (simp [intOf]; omega)
          · obtain rfl : p = n := by omega
            go_wp2_with fail
            go_meet
            refine ⟨?_, HBE.out⟩
            have := HP.out
            rw [← HB.out, best, ← HLn.out, show p - 1 = q by omega]
      case rest =>
        obtain ⟨rfl, hbel⟩ := hcut
        have HBE := Lib.hid hbel
        have hbs := hbel.size
        have KNr := Lib.hid (KN.out.below hbel KN.out.lt)
        have HRr := Lib.hid (HR.out.below hbel)
        clear hbel
        obtain ⟨b, HB⟩ : ∃ b, Hid (best k es = b) := ⟨_, rfl⟩
        rw [HB.out]
        have h224 : ¬ 3 + (entsB k es).length ≤ 224 := by rw [HT.out]; exact ht224
        by_cases hb0 : b = 0
        · have hd : ((b : Int) == 0) = true := by rw [beq_iff_eq]; omega
          have HE : Hid (splE k l es = 9) := by show _ = _; rw [splE, if_pos HRR.out, if_neg h224, if_pos (by rw [HB.out]; exact hb0)]
          clear hb0
          go_upto_region 19 with fail
          obtain ⟨w5, hw5⟩ : ∃ w5, w5 = wc := ⟨_, rfl⟩
          have KA5 := Lib.hid (hw5 ▸ KZ1.out.below HBE.out KZ1.out.lt)
          have KB5 := Lib.hid (hw5 ▸ KZ2.out.below HBE.out KZ2.out.lt)
          have HB5 : Hid (Below (w.heap.size + 1) W w5) := by rw [hw5]; exact HBE.out.mono (by omega)
          rw [← hw5]
          clear hw5 hd
          refine region_gate 3 (fun V => V.cell? ⟨w.heap.size + 1, 0, none⟩ = some (.int .u8 (0 : Int)) ∧ V.cell? ⟨w.heap.size + 1, 1, none⟩ = some (.int .u8 (0 : Int)) ∧ V.cell? ⟨w.heap.size + 1, 2, none⟩ = some (.slice none 0 0) ∧ V.cell? ⟨w.heap.size + 1 + 1, 0, none⟩ = some (.int .u8 (0 : Int)) ∧ V.cell? ⟨w.heap.size + 1 + 1, 1, none⟩ = some (.int .u8 (0 : Int)) ∧ V.cell? ⟨w.heap.size + 1 + 1, 2, none⟩ = some (.slice none 0 0)) (by kernel_rfl) ?th7 (fun hHeld => ?tk7)
          case th7 => ((try dsimp only); exact ⟨(KA5.out.cell 0), (KA5.out.cell 1), (KA5.out.cell 2), (KB5.out.cell 0), (KB5.out.cell 1), (KB5.out.cell 2)⟩)
          refine' takeV 0 (oi := _) (d := _) (v := _) ?ti8 ?td8 (by kernel_rfl) (by kernel_rfl) (by kernel_rfl) (by kernel_rfl) (by decide) (fun _ _ _ _ _ h => h) ?tg8 ?ty8 (by assumption) ?tr8
          case ti8 => (simp only [List.getElem?_toArray, List.getElem?_cons_succ, List.getElem?_cons_zero]; rfl)
          case td8 => exact rfl
          case tg8 => exact rfl
          case ty8 => (intro w hSw; (try dsimp only at hSw); go_split_ands; go_simp; try with_reducible rfl)
          simp only [List.setIfInBounds_toArray, List.set_cons_zero, List.set_cons_succ]
          refine' takeV 1 (oi := _) (d := _) (v := _) ?ti9 ?td9 (by kernel_rfl) (by kernel_rfl) (by kernel_rfl) (by kernel_rfl) (by decide) (fun _ _ _ _ _ h => h) ?tg9 ?ty9 (by assumption) ?tr9
          case ti9 => (simp only [List.getElem?_toArray, List.getElem?_cons_succ, List.getElem?_cons_zero]; rfl)
          case td9 => exact rfl
          case tg9 => exact rfl
          case ty9 => (intro w hSw; (try dsimp only at hSw); go_split_ands; go_simp; try with_reducible rfl)
          simp only [List.setIfInBounds_toArray, List.set_cons_zero, List.set_cons_succ]
          obtain ⟨V0, hV0⟩ : ∃ V0, V0 = w5.drew := ⟨_, rfl⟩
          have B0 : Below w5.heap.size w5 V0 := by rw [hV0]; exact (Below.refl _ _).drew
          have ka := KA5.out.below B0 KA5.out.lt
          have kb := KB5.out.below B0 KB5.out.lt
          rw [← hV0] at hHeld ⊢
          clear hV0 hHeld
          refine stepG 2 (by kernel_rfl) (by simp only [List.getElem?_toArray, List.getElem?_cons_succ, List.getElem?_cons_zero]; rfl) (fun K hK => ?_)
          refine step_store_blk rfl 24 (.tmp 2) (.tmp 85) rfl rfl (cs := [.int .u8 (0 : Int), .int .u8 (0 : Int), .slice none 0 0]) rfl ka rfl infoNd (nd_one _ _ _ _ _) ?_
          intro wa hka hga
          refine hK.out _ _ ?ts10 (fun hHeld => ?_)
          case ts10 => ((try dsimp only); (have kb2 := kb.keep_grown hga (by simp); exact ⟨hka.cell 0, hka.cell 1, hka.cell 2, kb2.cell 0, kb2.cell 1, kb2.cell 2⟩))
          clear hK K
          have kb2 := kb.keep_grown hga (by simp)
          clear hHeld
          refine stepGate 3 (by kernel_rfl) (by kernel_rfl) (by simp only [List.getElem?_toArray, List.getElem?_cons_succ, List.getElem?_cons_zero]; rfl) (fun K hK => ?_)
          refine step_store_blk rfl 24 (.tmp 3) (.tmp 86) rfl rfl (cs := [.int .u8 (0 : Int), .int .u8 (0 : Int), .slice none 0 0]) rfl kb2 rfl infoNd (nd_one _ _ _ _ _) ?_
          intro wb hkb2 hgb
          refine hK.out _ _ ?_
          clear hK K
          refine' takeW 4 (oi := _) (d := _) (v := _) ?ti11 ?td11 (by kernel_rfl) (by kernel_rfl) (by kernel_rfl) (by decide) (fun _ _ _ _ _ h => h) ?tg11 ?ty11 ?tf11 ?tr11
          case ti11 => (simp only [List.getElem?_toArray, List.getElem?_cons_succ, List.getElem?_cons_zero]; rfl)
          case td11 => exact rfl
          case tg11 => exact rfl
          case ty11 => (intro w; go_simp; try with_reducible rfl)
          case tf11 => first | (intro _; assumption) | (intro e; exact absurd e (by decide +kernel))
          simp only [List.setIfInBounds_toArray, List.set_cons_zero, List.set_cons_succ]
          refine' takeW 5 (oi := _) (d := _) (v := _) ?ti12 ?td12 (by kernel_rfl) (by kernel_rfl) (by kernel_rfl) (by decide) (fun _ _ _ _ _ h => h) ?tg12 ?ty12 ?tf12 ?tr12
          case ti12 => (simp only [List.getElem?_toArray, List.getElem?_cons_succ, List.getElem?_cons_zero]; rfl)
          case td12 => exact rfl
          case tg12 => exact rfl
          case ty12 => (intro w; go_simp; try with_reducible rfl)
          case tf12 => first | (intro _; assumption) | (intro e; exact absurd e (by decide +kernel))
          simp only [List.setIfInBounds_toArray, List.set_cons_zero, List.set_cons_succ]
          refine doneG (by kernel_rfl) ?_ _
          go_wp2_with fail
          have hka2 := hka.keep_grown hgb (by simp)
          have e0 := hka2.cell 0
          have e1 := hka2.cell 1
          have e2 := hka2.cell 2
          have f0 := hkb2.cell 0
          have f1 := hkb2.cell 1
          have f2 := hkb2.cell 2
          have t0 := B0.size
          have t5 := HB5.out.size
          have hfin := ((HB5.out.trans (B0.mono (by omega))).grown hga (by omega) (by intro q hq; simp at hq; omega)).grown hgb (by have := hga.size; omega) (by intro q hq; simp at hq; omega)
          refine bodyPost_ret (v := .tuple #[NdV 0 0 none 0 0, NdV 0 0 none 0 0, .slice none 0 0, .int .i64 9]) ?_ rfl (SplP.none_ (by rw [HE.out]; decide) (HWB.out.trans (hfin.mono (by omega))) HE.out)
          simp [results, Try.results15, go_sem, e0, e1, e2, f0, f1, f2]
        · have hd : ((b : Int) == 0) = false := by rw [beq_eq_false_iff_ne]; omega
          have HE : Hid (splE k l es = 0) := by show _ = _; rw [splE, if_pos HRR.out, if_neg h224, if_neg (by rw [HB.out]; exact hb0)]
          have hbn : b < n := by rw [HLn.out, ← HB.out]; exact best_lt (by rw [HB.out]; exact hb0)
          have HC := Lib.hid (cut_any k l A n c es b wc HRr.out hk (by omega) hbn hN HS.out)
          have d0 : wc.cell? ⟨w.heap.size, 0, none⟩ = some (.int .u8 (k : Int)) := KNr.out.cell 0
          have d1 : wc.cell? ⟨w.heap.size, 1, none⟩ = some (.int .u8 (l : Int)) := KNr.out.cell 1
          have d2 : wc.cell? ⟨w.heap.size, 2, none⟩ = some (.slice A n c) := KNr.out.cell 2
          go_wp2_with fail
          refine HC.out.mono ?_
          rintro e w2 ⟨A1, c1, A2, c2, C, m, d, rfl, ho1, ho2, hoc, hb, hdis⟩
          have HDIS := Lib.hid hdis
          clear hdis
          have HB2 := Lib.hid (HBE.out.trans (hb.mono hbs))
          have O1 : Hid (OwnN w2 W.heap.size A1 b c1 (es.take b)) := ho1.mono hbs
          have O2 : Hid (OwnN w2 W.heap.size A2 (n - b) c2 (cutB k es b)) := ho2.mono hbs
          have OC : Hid (Own w2 W.heap.size C m d (es.getD b ent0).key) := hoc.mono hbs
          have z1 := Lib.hid (KZ1.out.below HB2.out KZ1.out.lt)
          have z2 := Lib.hid (KZ2.out.below HB2.out KZ2.out.lt)
          clear HC ho1 ho2 hoc hb d0 d1 d2
          obtain ⟨r, HRN⟩ : ∃ r, Hid (n - b = r) := ⟨_, rfl⟩
          rw [HRN.out] at O2
          have hl1 : [Value.int .u8 0, .int .u8 0, .slice none 0 0].length = [Value.int .u8 (k : Int), .int .u8 (l : Int), .slice A1 b c1].length := rfl
          have hi1 : (Try.prog.info? 24).map (·.size) = some [Value.int .u8 (k : Int), .int .u8 (l : Int), .slice A1 b c1].length := infoNd
          have hl2 : [Value.int .u8 0, .int .u8 0, .slice none 0 0].length = [Value.int .u8 (k : Int), .int .u8 (l : Int), .slice A2 (n - b) c2].length := rfl
          have hi2 : (Try.prog.info? 24).map (·.size) = some [Value.int .u8 (k : Int), .int .u8 (l : Int), .slice A2 (n - b) c2].length := infoNd
          go_upto_region 21 with (first
            | (with_reducible refine wpList_store_blk rfl 24 (.tmp 2) (.tmp 91) rfl rfl (cs := [Value.int .u8 (k : Int), .int .u8 (l : Int), .slice A1 b c1]) rfl z1.out hl1 hi1 (nd_one _ _ _ _ _) ?_; intro w3 hk3 hg3; have z2' := Lib.hid (z2.out.keep_grown hg3 (by simp)))
            | (with_reducible refine wpList_store_blk rfl 24 (.tmp 3) (.tmp 92) rfl rfl (cs := [Value.int .u8 (k : Int), .int .u8 (l : Int), .slice A2 (n - b) c2]) rfl z2'.out hl2 hi2 (nd_one _ _ _ _ _) ?_; intro w5 hk5 hg5))
          have t2 := HB2.out.size
          have HB5 : Hid (Below (w.heap.size + 1) W w5) := ((HB2.out.mono (by omega)).grown hg3 (by omega) (by intro q hq; simp at hq; omega)).grown hg5 (by have := hg3.size; omega) (by intro q hq; simp at hq; omega)
          have KA5 := Lib.hid (hk3.keep_grown hg5 (by simp))
          have KB5 := Lib.hid hk5
          have P1 := Lib.hid ((O1.out.keptE z1.out (by decide) (by decide) hg3).keptE z2'.out (by decide) (by decide) hg5)
          have P2 := Lib.hid ((O2.out.keptE z1.out (by decide) (by decide) hg3).keptE z2'.out (by decide) (by decide) hg5)
          have PC := Lib.hid ((OC.out.keptE z1.out (by decide) hg3).keptE z2'.out (by decide) hg5)
          clear hk3 hg3 hk5 hg5 hl1 hi1 hl2 hi2 O1 O2 OC z1 z2 z2' hd
          refine region_gate 4 (fun V => V.cell? ⟨w.heap.size + 1, 0, none⟩ = some (.int .u8 (k : Int)) ∧ V.cell? ⟨w.heap.size + 1, 1, none⟩ = some (.int .u8 (l : Int)) ∧ V.cell? ⟨w.heap.size + 1, 2, none⟩ = some (.slice A1 b c1) ∧ V.cell? ⟨w.heap.size + 1 + 1, 0, none⟩ = some (.int .u8 (k : Int)) ∧ V.cell? ⟨w.heap.size + 1 + 1, 1, none⟩ = some (.int .u8 (l : Int)) ∧ V.cell? ⟨w.heap.size + 1 + 1, 2, none⟩ = some (.slice A2 (n - b) c2)) (by kernel_rfl) ?th13 (fun hHeld => ?tk13)
          case th13 => ((try dsimp only); exact ⟨(KA5.out.cell 0), (KA5.out.cell 1), (KA5.out.cell 2), (KB5.out.cell 0), (KB5.out.cell 1), (KB5.out.cell 2)⟩)
          refine' takeV 0 (oi := _) (d := _) (v := _) ?ti14 ?td14 (by kernel_rfl) (by kernel_rfl) (by kernel_rfl) (by kernel_rfl) (by decide) (fun _ _ _ _ _ h => h) ?tg14 ?ty14 (by assumption) ?tr14
          case ti14 => (simp only [List.getElem?_toArray, List.getElem?_cons_succ, List.getElem?_cons_zero]; rfl)
          case td14 => exact rfl
          case tg14 => exact rfl
          case ty14 => (intro w hSw; (try dsimp only at hSw); go_split_ands; go_simp; try with_reducible rfl)
          simp only [List.setIfInBounds_toArray, List.set_cons_zero, List.set_cons_succ]
          refine' takeV 1 (oi := _) (d := _) (v := _) ?ti15 ?td15 (by kernel_rfl) (by kernel_rfl) (by kernel_rfl) (by kernel_rfl) (by decide) (fun _ _ _ _ _ h => h) ?tg15 ?ty15 (by assumption) ?tr15
          case ti15 => (simp only [List.getElem?_toArray, List.getElem?_cons_succ, List.getElem?_cons_zero]; rfl)
          case td15 => exact rfl
          case tg15 => exact rfl
          case ty15 => (intro w hSw; (try dsimp only at hSw); go_split_ands; go_simp; try with_reducible rfl)
          simp only [List.setIfInBounds_toArray, List.set_cons_zero, List.set_cons_succ]
          refine' takeW 2 (oi := _) (d := _) (v := _) ?ti16 ?td16 (by kernel_rfl) (by kernel_rfl) (by kernel_rfl) (by decide) (fun _ _ _ _ _ h => h) ?tg16 ?ty16 ?tf16 ?tr16
          case ti16 => (simp only [List.getElem?_toArray, List.getElem?_cons_succ, List.getElem?_cons_zero]; rfl)
          case td16 => exact rfl
          case tg16 => exact rfl
          case ty16 => (intro w; go_simp; try with_reducible rfl)
          case tf16 => first | (intro _; assumption) | (intro e; exact absurd e (by decide +kernel))
          simp only [List.setIfInBounds_toArray, List.set_cons_zero, List.set_cons_succ]
          obtain ⟨V0, hV0⟩ : ∃ V0, V0 = w5.drew := ⟨_, rfl⟩
          have B0 : Below w5.heap.size w5 V0 := by rw [hV0]; exact (Below.refl _ _).drew
          have ka := KA5.out.below B0 KA5.out.lt
          have kb := KB5.out.below B0 KB5.out.lt
          rw [← hV0] at hHeld ⊢
          clear hV0 hHeld
          refine stepG 3 (by kernel_rfl) (by simp only [List.getElem?_toArray, List.getElem?_cons_succ, List.getElem?_cons_zero]; rfl) (fun K hK => ?_)
          refine step_store_blk rfl 24 (.tmp 2) (.tmp 94) rfl rfl (cs := [.int .u8 (k : Int), .int .u8 (l : Int), .slice A1 b c1]) rfl ka rfl infoNd (nd_one _ _ _ _ _) ?_
          intro wa hka hga
          refine hK.out _ _ ?ts17 (fun hHeld => ?_)
          case ts17 => ((try dsimp only); (have kb2 := kb.keep_grown hga (by simp); exact ⟨hka.cell 0, hka.cell 1, hka.cell 2, kb2.cell 0, kb2.cell 1, kb2.cell 2⟩))
          clear hK K
          have kb2 := kb.keep_grown hga (by simp)
          clear hHeld
          refine stepGate 4 (by kernel_rfl) (by kernel_rfl) (by simp only [List.getElem?_toArray, List.getElem?_cons_succ, List.getElem?_cons_zero]; rfl) (fun K hK => ?_)
          refine step_store_blk rfl 24 (.tmp 3) (.tmp 95) rfl rfl (cs := [.int .u8 (k : Int), .int .u8 (l : Int), .slice A2 (n - b) c2]) rfl kb2 rfl infoNd (nd_one _ _ _ _ _) ?_
          intro wb hkb2 hgb
          refine hK.out _ _ ?_
          clear hK K
          refine' takeW 5 (oi := _) (d := _) (v := _) ?ti18 ?td18 (by kernel_rfl) (by kernel_rfl) (by kernel_rfl) (by decide) (fun _ _ _ _ _ h => h) ?tg18 ?ty18 ?tf18 ?tr18
          case ti18 => (simp only [List.getElem?_toArray, List.getElem?_cons_succ, List.getElem?_cons_zero]; rfl)
          case td18 => exact rfl
          case tg18 => exact rfl
          case ty18 => (intro w; go_simp; try with_reducible rfl)
          case tf18 => first | (intro _; assumption) | (intro e; exact absurd e (by decide +kernel))
          simp only [List.setIfInBounds_toArray, List.set_cons_zero, List.set_cons_succ]
          refine' takeW 6 (oi := _) (d := _) (v := _) ?ti19 ?td19 (by kernel_rfl) (by kernel_rfl) (by kernel_rfl) (by decide) (fun _ _ _ _ _ h => h) ?tg19 ?ty19 ?tf19 ?tr19
          case ti19 => (simp only [List.getElem?_toArray, List.getElem?_cons_succ, List.getElem?_cons_zero]; rfl)
          case td19 => exact rfl
          case tg19 => exact rfl
          case ty19 => (intro w; go_simp; try with_reducible rfl)
          case tf19 => first | (intro _; assumption) | (intro e; exact absurd e (by decide +kernel))
          simp only [List.setIfInBounds_toArray, List.set_cons_zero, List.set_cons_succ]
          refine doneG (by kernel_rfl) ?_ _
          go_wp2_with fail
          have hka2 := hka.keep_grown hgb (by simp)
          have e0 := hka2.cell 0
          have e1 := hka2.cell 1
          have e2 := hka2.cell 2
          have f0 := hkb2.cell 0
          have f1 := hkb2.cell 1
          have f2 := hkb2.cell 2
          have t0 := B0.size
          have t5 := HB5.out.size
          have hfin := ((HB5.out.trans (B0.mono (by omega))).grown hga (by omega) (by intro q hq; simp at hq; omega)).grown hgb (by have := hga.size; omega) (by intro q hq; simp at hq; omega)
          have hA : splA k l es = es.take b := by rw [splA, if_pos HE.out, HB.out]
          have hB : splB k l es = cutB k es b := by rw [splB, if_pos HE.out, HB.out]
          have hC : splK k l es = (es.getD b ent0).key := by rw [splK, if_pos HE.out, HB.out]
          have hA2 : (splA k l es).length = b := by rw [hA, List.length_take]; have := HLn.out; omega
          have hB2 : (splB k l es).length = n - b := by rw [hB, cutB_length, ← HLn.out]
          have hk0 : ∀ x, splN k l es x = x := fun x => by unfold splN; rw [if_pos HE.out]
          refine bodyPost_ret (v := .tuple #[NdV k l A1 b c1, NdV k l A2 (n - b) c2, .slice C m d, .int .i64 0]) ?_ rfl ⟨A1, c1, A2, c2, C, m, d, by rw [hk0, hk0, hA2, hB2, HE.out], ?_, ?_, ?_, HWB.out.trans (hfin.mono (by omega)), HDIS.out⟩
          · simp [results, Try.results15, go_sem, e0, e1, e2, f0, f1, f2]
          · rw [hA2, hA]; exact (((P1.out.below B0).keptE ka (by decide) (by decide) hga).keptE kb2 (by decide) (by decide) hgb).mono (by omega)
          · rw [hB2, hB, HRN.out]; exact (((P2.out.below B0).keptE ka (by decide) (by decide) hga).keptE kb2 (by decide) (by decide) hgb).mono (by omega)
          · rw [hC]; exact (((PC.out.below B0).keptE ka (by decide) hga).keptE kb2 (by decide) hgb).mono (by omega)
  · have HE : Hid (splE k l es = rE k l es) := by show _ = _; rw [splE, if_neg hr]
    have hb : (rE k l es != 0) = true := by rw [bne_iff_ne]; exact hr
    have hsz : sizeV k l es = 0 := by rw [sizeV, if_neg hr]
    obtain ⟨E, HEE⟩ : ∃ E, Hid (rE k l es = E) := ⟨_, rfl⟩
    rw [hsz] at HM
    rw [HEE.out] at hb HM HE hr
    clear hsz
    go_enter Try.func15, Try.ntmps15
    go_wp2_with fail
    rw [← HW.out]
    go_step3
    go_wp2_with fail
    refine HM.out.mono ?_
    rintro e w1 ⟨rfl, hb1⟩
    have HB1 := Lib.hid hb1
    clear hb1 HM d0 d1 d2
    go_upto_region 3 with fail
    obtain ⟨w5, hw5⟩ : ∃ w5, w5 = w1 := ⟨_, rfl⟩
    have KA5 := Lib.hid (hw5 ▸ KZ1.out.below HB1.out KZ1.out.lt)
    have KB5 := Lib.hid (hw5 ▸ KZ2.out.below HB1.out KZ2.out.lt)
    have HB5 : Hid (Below (w.heap.size + 1) W w5) := by rw [hw5]; exact HB1.out.mono (by omega)
    rw [← hw5]
    clear hw5
    refine region_gate 4 (fun V => V.cell? ⟨w.heap.size + 1, 0, none⟩ = some (.int .u8 (0 : Int)) ∧ V.cell? ⟨w.heap.size + 1, 1, none⟩ = some (.int .u8 (0 : Int)) ∧ V.cell? ⟨w.heap.size + 1, 2, none⟩ = some (.slice none 0 0) ∧ V.cell? ⟨w.heap.size + 1 + 1, 0, none⟩ = some (.int .u8 (0 : Int)) ∧ V.cell? ⟨w.heap.size + 1 + 1, 1, none⟩ = some (.int .u8 (0 : Int)) ∧ V.cell? ⟨w.heap.size + 1 + 1, 2, none⟩ = some (.slice none 0 0)) (by kernel_rfl) ?th20 (fun hHeld => ?tk20)
    case th20 => ((try dsimp only); exact ⟨(KA5.out.cell 0), (KA5.out.cell 1), (KA5.out.cell 2), (KB5.out.cell 0), (KB5.out.cell 1), (KB5.out.cell 2)⟩)
    refine' takeV 0 (oi := _) (d := _) (v := _) ?ti21 ?td21 (by kernel_rfl) (by kernel_rfl) (by kernel_rfl) (by kernel_rfl) (by decide) (fun _ _ _ _ _ h => h) ?tg21 ?ty21 (by assumption) ?tr21
    case ti21 => (simp only [List.getElem?_toArray, List.getElem?_cons_succ, List.getElem?_cons_zero]; rfl)
    case td21 => exact rfl
    case tg21 => exact rfl
    case ty21 => (intro w hSw; (try dsimp only at hSw); go_split_ands; go_simp; try with_reducible rfl)
    simp only [List.setIfInBounds_toArray, List.set_cons_zero, List.set_cons_succ]
    refine' takeV 1 (oi := _) (d := _) (v := _) ?ti22 ?td22 (by kernel_rfl) (by kernel_rfl) (by kernel_rfl) (by kernel_rfl) (by decide) (fun _ _ _ _ _ h => h) ?tg22 ?ty22 (by assumption) ?tr22
    case ti22 => (simp only [List.getElem?_toArray, List.getElem?_cons_succ, List.getElem?_cons_zero]; rfl)
    case td22 => exact rfl
    case tg22 => exact rfl
    case ty22 => (intro w hSw; (try dsimp only at hSw); go_split_ands; go_simp; try with_reducible rfl)
    simp only [List.setIfInBounds_toArray, List.set_cons_zero, List.set_cons_succ]
    refine' takeW 2 (oi := _) (d := _) (v := _) ?ti23 ?td23 (by kernel_rfl) (by kernel_rfl) (by kernel_rfl) (by decide) (fun _ _ _ _ _ h => h) ?tg23 ?ty23 ?tf23 ?tr23
    case ti23 => (simp only [List.getElem?_toArray, List.getElem?_cons_succ, List.getElem?_cons_zero]; rfl)
    case td23 => exact rfl
    case tg23 => exact rfl
    case ty23 => (intro w; go_simp; try with_reducible rfl)
    case tf23 => first | (intro _; assumption) | (intro e; exact absurd e (by decide +kernel))
    simp only [List.setIfInBounds_toArray, List.set_cons_zero, List.set_cons_succ]
    obtain ⟨V0, hV0⟩ : ∃ V0, V0 = w5.drew := ⟨_, rfl⟩
    have B0 : Below w5.heap.size w5 V0 := by rw [hV0]; exact (Below.refl _ _).drew
    have ka := KA5.out.below B0 KA5.out.lt
    have kb := KB5.out.below B0 KB5.out.lt
    rw [← hV0] at hHeld ⊢
    clear hV0 hHeld
    refine stepG 3 (by kernel_rfl) (by simp only [List.getElem?_toArray, List.getElem?_cons_succ, List.getElem?_cons_zero]; rfl) (fun K hK => ?_)
    refine step_store_blk rfl 24 (.tmp 2) (.tmp 24) rfl rfl (cs := [.int .u8 (0 : Int), .int .u8 (0 : Int), .slice none 0 0]) rfl ka rfl infoNd (nd_one _ _ _ _ _) ?_
    intro wa hka hga
    refine hK.out _ _ ?ts24 (fun hHeld => ?_)
    case ts24 => ((try dsimp only); (have kb2 := kb.keep_grown hga (by simp); exact ⟨hka.cell 0, hka.cell 1, hka.cell 2, kb2.cell 0, kb2.cell 1, kb2.cell 2⟩))
    clear hK K
    have kb2 := kb.keep_grown hga (by simp)
    clear hHeld
    refine stepGate 4 (by kernel_rfl) (by kernel_rfl) (by simp only [List.getElem?_toArray, List.getElem?_cons_succ, List.getElem?_cons_zero]; rfl) (fun K hK => ?_)
    refine step_store_blk rfl 24 (.tmp 3) (.tmp 25) rfl rfl (cs := [.int .u8 (0 : Int), .int .u8 (0 : Int), .slice none 0 0]) rfl kb2 rfl infoNd (nd_one _ _ _ _ _) ?_
    intro wb hkb2 hgb
    refine hK.out _ _ ?_
    clear hK K
    refine' takeW 5 (oi := _) (d := _) (v := _) ?ti25 ?td25 (by kernel_rfl) (by kernel_rfl) (by kernel_rfl) (by decide) (fun _ _ _ _ _ h => h) ?tg25 ?ty25 ?tf25 ?tr25
    case ti25 => (simp only [List.getElem?_toArray, List.getElem?_cons_succ, List.getElem?_cons_zero]; rfl)
    case td25 => exact rfl
    case tg25 => exact rfl
    case ty25 => (intro w; go_simp; try with_reducible rfl)
    case tf25 => first | (intro _; assumption) | (intro e; exact absurd e (by decide +kernel))
    simp only [List.setIfInBounds_toArray, List.set_cons_zero, List.set_cons_succ]
    refine' takeW 6 (oi := _) (d := _) (v := _) ?ti26 ?td26 (by kernel_rfl) (by kernel_rfl) (by kernel_rfl) (by decide) (fun _ _ _ _ _ h => h) ?tg26 ?ty26 ?tf26 ?tr26
    case ti26 => (simp only [List.getElem?_toArray, List.getElem?_cons_succ, List.getElem?_cons_zero]; rfl)
    case td26 => exact rfl
    case tg26 => exact rfl
    case ty26 => (intro w; go_simp; try with_reducible rfl)
    case tf26 => first | (intro _; assumption) | (intro e; exact absurd e (by decide +kernel))
    simp only [List.setIfInBounds_toArray, List.set_cons_zero, List.set_cons_succ]
    refine doneG (by kernel_rfl) ?_ _
    go_wp2_with fail
    have hka2 := hka.keep_grown hgb (by simp)
    have e0 := hka2.cell 0
    have e1 := hka2.cell 1
    have e2 := hka2.cell 2
    have f0 := hkb2.cell 0
    have f1 := hkb2.cell 1
    have f2 := hkb2.cell 2
    have t0 := B0.size
    have t5 := HB5.out.size
    have hfin := ((HB5.out.trans (B0.mono (by omega))).grown hga (by omega) (by intro q hq; simp at hq; omega)).grown hgb (by have := hga.size; omega) (by intro q hq; simp at hq; omega)
    refine bodyPost_ret (v := .tuple #[NdV 0 0 none 0 0, NdV 0 0 none 0 0, .slice none 0 0, .int .i64 E]) ?_ rfl (SplP.none_ (by rw [HE.out]; exact hr) (HWB.out.trans (hfin.mono (by omega))) HE.out)
    simp [results, Try.results15, go_sem, e0, e1, e2, f0, f1, f2]
end Go.Proofs.Ytgihcjmcefdkiaa
