/- The walk of GraftJoins. -/
import Derived.Test.YtgihcjmcefdkiaaGrEven
import Derived.Test.YtgihcjmcefdkiaaSpoil2
set_option linter.unusedVariables false
set_option linter.unusedSimpArgs false
namespace Go.Proofs.Ytgihcjmcefdkiaa
open Go.RowKit

theorem bN_lt {b : Bool} {k : Nat} (h : k < 256) : bN b k < 256 := by unfold bN; split <;> omega
theorem splN_lt {k l x : Nat} {es : List Ent} (h : x < 256) : splN k l es x < 256 := by unfold splN; split <;> omega
set_option maxRecDepth 100000 in
set_option maxHeartbeats 12800000 in
theorem graftJoins_walk (k l : Nat) (A : Option Addr) (n c : Nat) (es : List Ent) (k' l' : Nat) (A' : Option Addr) (n' c' : Nat) (es' : List Ent) (Ak : Option Addr) (nk ck : Nat) (key : List UInt8) (w : World)
    (hk : k < 256) (hl : l < 256) (h : RdL w A n c es) (hin : esIn es) (hk' : k' < 256) (hl' : l' < 256) (h' : RdL w A' n' c' es') (hin' : esIn es') (hky : Rd w Ak nk ck key) (hre : ck ≤ 140737488351232) :
    Calls Try.prog 8 #[NdV k l A n c, NdV k' l' A' n' c', .slice Ak nk ck] w fun e w' => e = .returned (.bool true) ∧ Below w.heap.size w w' := by
  have hkc := hky.cap
  obtain ⟨W, hW⟩ : ∃ W, W = (w.alloc (.cells #[.int .u8 (k : Int), .int .u8 (l : Int), .slice A n c] 24)).alloc (.cells #[.int .u8 (k' : Int), .int .u8 (l' : Int), .slice A' n' c'] 24) := ⟨_, rfl⟩
  have HB0 : Hid (Below w.heap.size w W) := by rw [hW]; exact (below_new _ _).alloc (by simp) _
  have NA : Hid (Nin W w.heap.size k l A n c es) := ⟨by rw [hW]; exact (Blk.new _ _ _).alloc _, h.below HB0.out⟩
  have NB : Hid (Nin W (w.heap.size + 1) k' l' A' n' c' es') := ⟨by rw [hW]; exact Blk.new' _ _ _ _ (by simp), h'.below HB0.out⟩
  have HWs : Hid (W.heap.size = w.heap.size + 1 + 1) := by rw [hW, size_new, size_new]; rfl
  have HKY := Lib.hid (hky.below HB0.out)
  have HLn := Lib.hid h.len
  have HLn' := Lib.hid h'.len
  have HW := Lib.hid hW
  have HIN := Lib.hid hin
  have HIN' := Lib.hid hin'
  clear h h' hky hW hin hin'
  have d0 := NA.out.c0
  have d1 := NA.out.c1
  have d2 := NA.out.c2
  have f0 := NB.out.c0
  have f1 := NB.out.c1
  have f2 := NB.out.c2
  go_enter Try.func8, Try.ntmps8
  go_wp2_with fail
  rw [← HW.out]
  obtain ⟨W1, hW1⟩ : ∃ W1, W1 = W.alloc (.cells #[.int .u8 (k : Int), .int .u8 (l : Int), .slice A n c, .int .u8 (k' : Int), .int .u8 (l' : Int), .slice A' n' c'] 24) := ⟨_, rfl⟩
  have hb0 : Below W.heap.size W W1 := by rw [hW1]; exact below_new1 _ _
  have HM := Lib.hid (lheavy_any (some ⟨w.heap.size + 1 + 1, 0, none⟩) 2 2 [es, es'] W1 (RdNs.two (by rw [hW1]; exact Blk.new' _ _ _ _ HWs.out) hk hl hk' hl' (NA.out.below hb0).rd (NB.out.below hb0).rd))
  rw [← hW1]
  have HBa := Lib.hid hb0
  have sa := hb0.size
  clear hW1 hb0
  refine HM.out.mono ?_
  rintro e w1 ⟨b, rfl, hbb, hb⟩
  have HB1 : Hid (Below W.heap.size W w1) := HBa.out.trans (hb.mono sa)
  have HBB := Lib.hid hbb
  have s0 := HB0.out.size
  have s1 := HB1.out.size
  have HX1 : Hid (Below w.heap.size w w1) := HB0.out.trans (HB1.out.mono s0)
  have sx := HX1.out.size
  clear hb hbb d0 d1 d2 f0 f1 f2 HM HBa
  cases b with
  | true =>
    go_wp2_with (go_at_call 13; refine (known_any _).mono ?_; rintro e w3 ⟨rfl, hb3⟩)
    go_ret
    exact ⟨rfl, HX1.out.trans (hb3.mono sx)⟩
  | false =>
    by_cases hlen : 4096 < nk
    · have hd : decide ((nk : Int) > 4096) = true := decide_eq_true (by omega)
      go_wp2_with (go_at_call 13; refine (known_any _).mono ?_; rintro e w3 ⟨rfl, hb3⟩)
      go_ret
      exact ⟨rfl, HX1.out.trans (hb3.mono sx)⟩
    · have hd : decide ((nk : Int) > 4096) = false := decide_eq_false (by omega)
      have HO := Lib.hid (HBB.out rfl 0 (by simp))
      have HO' := Lib.hid (HBB.out rfl 1 (by simp))
      have HN3 : Hid (n ≤ 300) := by show _ ≤ _; rw [HLn.out]; exact HO.out.2
      have HN3' : Hid (n' ≤ 300) := by show _ ≤ _; rw [HLn'.out]; exact HO'.out.2
      have HSH := Lib.hid HO.out.short
      have HSH' := Lib.hid HO'.out.short
      clear HBB
      have TR : Hid (∀ V, Below W.heap.size W V → (fun V => V.cell? ⟨w.heap.size, 0, none⟩ = some (.int .u8 (k : Int)) ∧ V.cell? ⟨w.heap.size, 1, none⟩ = some (.int .u8 (l : Int)) ∧ V.cell? ⟨w.heap.size, 2, none⟩ = some (.slice A n c) ∧ V.cell? ⟨w.heap.size + 1, 0, none⟩ = some (.int .u8 (k' : Int)) ∧ V.cell? ⟨w.heap.size + 1, 1, none⟩ = some (.int .u8 (l' : Int)) ∧ V.cell? ⟨w.heap.size + 1, 2, none⟩ = some (.slice A' n' c') ∧ Below W.heap.size W V) V) := fun V hb => by
        have n1 := NA.out.below hb
        have n2 := NB.out.below hb
        exact ⟨n1.c0, n1.c1, n1.c2, n2.c0, n2.c1, n2.c2, hb⟩
      go_upto_region 3 with fail
      clear hd
      go_cut [7, 8, 9] (fun s7 s8 s9 wx => ∃ g7 g8 A7 c7 A8 c8 A9 c9, s7 = .pointer (some ⟨g7, 0, none⟩) ∧ s8 = .pointer (some ⟨g8, 0, none⟩) ∧ s9 = .slice A9 nk c9 ∧ Nin wx g7 k l A7 n c7 es ∧ Nin wx g8 k' l' A8 n' c8 es' ∧ Rd wx A9 nk c9 key ∧ Below W.heap.size W wx)
      case first =>
        refine region_gate 11 (fun V => V.cell? ⟨w.heap.size, 0, none⟩ = some (.int .u8 (k : Int)) ∧ V.cell? ⟨w.heap.size, 1, none⟩ = some (.int .u8 (l : Int)) ∧ V.cell? ⟨w.heap.size, 2, none⟩ = some (.slice A n c) ∧ V.cell? ⟨w.heap.size + 1, 0, none⟩ = some (.int .u8 (k' : Int)) ∧ V.cell? ⟨w.heap.size + 1, 1, none⟩ = some (.int .u8 (l' : Int)) ∧ V.cell? ⟨w.heap.size + 1, 2, none⟩ = some (.slice A' n' c') ∧ Below W.heap.size W V) (by kernel_rfl) ?th1 (fun hHeld => ?tk1)
        case th1 => ((try dsimp only); exact TR.out _ HB1.out.drew)
        refine' takeV 0 (oi := _) (d := _) (v := _) ?ti2 ?td2 (by kernel_rfl) (by kernel_rfl) (by kernel_rfl) (by kernel_rfl) (by decide) (fun _ _ _ _ _ h => h) ?tg2 ?ty2 (by assumption) ?tr2
        case ti2 => (simp only [List.getElem?_toArray, List.getElem?_cons_succ, List.getElem?_cons_zero]; rfl)
        case td2 => exact rfl
        case tg2 => exact rfl
        case ty2 => (intro w hSw; (try dsimp only at hSw); go_split_ands; go_simp; try with_reducible rfl)
        simp only [List.setIfInBounds_toArray, List.set_cons_zero, List.set_cons_succ]
        refine' takeV 2 (oi := _) (d := _) (v := _) ?ti3 ?td3 (by kernel_rfl) (by kernel_rfl) (by kernel_rfl) (by kernel_rfl) (by decide) (fun _ _ _ _ _ h => h) ?tg3 ?ty3 (by assumption) ?tr3
        case ti3 => (simp only [List.getElem?_toArray, List.getElem?_cons_succ, List.getElem?_cons_zero]; rfl)
        case td3 => exact rfl
        case tg3 => exact rfl
        case ty3 => (intro w hSw; (try dsimp only at hSw); go_split_ands; go_simp; try with_reducible rfl)
        simp only [List.setIfInBounds_toArray, List.set_cons_zero, List.set_cons_succ]
        refine' takeV 4 (oi := _) (d := _) (v := _) ?ti4 ?td4 (by kernel_rfl) (by kernel_rfl) (by kernel_rfl) (by kernel_rfl) (by decide) (fun _ _ _ _ _ h => h) ?tg4 ?ty4 (by assumption) ?tr4
        case ti4 => (simp only [List.getElem?_toArray, List.getElem?_cons_succ, List.getElem?_cons_zero]; rfl)
        case td4 => exact rfl
        case tg4 => exact rfl
        case ty4 => (intro w hSw; (try dsimp only at hSw); go_split_ands; go_simp; try with_reducible rfl)
        simp only [List.setIfInBounds_toArray, List.set_cons_zero, List.set_cons_succ]
        obtain ⟨V0, hV0⟩ : ∃ V0, V0 = w1.drew := ⟨_, rfl⟩
        have B0 : Hid (Below W.heap.size W V0) := by rw [hV0]; exact HB1.out.drew
        rw [← hV0] at hHeld ⊢
        clear hV0
        have keepS : ∀ wa wb : World, (fun V => V.cell? ⟨w.heap.size, 0, none⟩ = some (.int .u8 (k : Int)) ∧ V.cell? ⟨w.heap.size, 1, none⟩ = some (.int .u8 (l : Int)) ∧ V.cell? ⟨w.heap.size, 2, none⟩ = some (.slice A n c) ∧ V.cell? ⟨w.heap.size + 1, 0, none⟩ = some (.int .u8 (k' : Int)) ∧ V.cell? ⟨w.heap.size + 1, 1, none⟩ = some (.int .u8 (l' : Int)) ∧ V.cell? ⟨w.heap.size + 1, 2, none⟩ = some (.slice A' n' c') ∧ Below W.heap.size W V) wa → Below wa.heap.size wa wb → (fun V => V.cell? ⟨w.heap.size, 0, none⟩ = some (.int .u8 (k : Int)) ∧ V.cell? ⟨w.heap.size, 1, none⟩ = some (.int .u8 (l : Int)) ∧ V.cell? ⟨w.heap.size, 2, none⟩ = some (.slice A n c) ∧ V.cell? ⟨w.heap.size + 1, 0, none⟩ = some (.int .u8 (k' : Int)) ∧ V.cell? ⟨w.heap.size + 1, 1, none⟩ = some (.int .u8 (l' : Int)) ∧ V.cell? ⟨w.heap.size + 1, 2, none⟩ = some (.slice A' n' c') ∧ Below W.heap.size W V) wb := fun wa wb h hb => TR.out wb (h.2.2.2.2.2.2.trans (hb.mono (by have := h.2.2.2.2.2.2.size; omega)))
        have hr1 : ∀ V : World, Below W.heap.size W V → _ := fun V hb => copynode_any k l A n c es V (NA.out.below hb).rd (by have := HN3.out; omega) HO.out.1.2
        have hr3 : ∀ V : World, Below W.heap.size W V → _ := fun V hb => copynode_any k' l' A' n' c' es' V (NB.out.below hb).rd (by have := HN3'.out; omega) HO'.out.1.2
        have hr5 : ∀ V : World, Below W.heap.size W V → Calls Try.prog 31 #[.slice Ak nk ck] V fun e w' => ∃ B c9, e = .returned (.slice B nk c9) ∧ Own w' V.heap.size B nk c9 key ∧ Below V.heap.size V w' := fun V hb => copy_any Ak nk ck key V (HKY.out.below hb) (by omega)
        have s3 := B0.out.size
        refine stepG3 1 6 7 (by kernel_rfl) ?_ ?_ ?_
        · refine StepOf.mk 1 (by simp only [List.getElem?_toArray, List.getElem?_cons_succ, List.getElem?_cons_zero]; rfl) (fun K hK => ?_)
          go_simp
          refine (hr1 _ (hHeld).2.2.2.2.2.2).mono ?_
          rintro e ws1 ⟨A7, c7, rfl, fx1, hbs1⟩
          have szs1 := hbs1.size
          refine hK.out _ _ ?tu1 (fun hs1 => ?_)
          case tu1 => exact keepS _ _ hHeld hbs1
          clear hK K
          refine stepG3 3 6 7 (by kernel_rfl) ?_ ?_ ?_
          · refine StepOf.mk 3 (by simp only [List.getElem?_toArray, List.getElem?_cons_succ, List.getElem?_cons_zero]; rfl) (fun K hK => ?_)
            go_simp
            refine (hr3 _ (hs1).2.2.2.2.2.2).mono ?_
            rintro e ws2 ⟨A8, c8, rfl, fx2, hbs2⟩
            have szs2 := hbs2.size
            refine hK.out _ _ ?tu2 (fun hs2 => ?_)
            case tu2 => exact keepS _ _ hs1 hbs2
            clear hK K
            have fy1_2 := fx1.below hbs2
            refine stepG3 5 6 7 (by kernel_rfl) ?_ ?_ ?_
            · refine StepOf.mk 5 (by simp only [List.getElem?_toArray, List.getElem?_cons_succ, List.getElem?_cons_zero]; rfl) (fun K hK => ?_)
              go_simp
              refine (hr5 _ (hs2).2.2.2.2.2.2).mono ?_
              rintro e ws3 ⟨A9, c9, rfl, fx3, hbs3⟩
              have szs3 := hbs3.size
              refine hK.out _ _ ?tu3 (fun hs3 => ?_)
              case tu3 => exact keepS _ _ hs2 hbs3
              clear hK K
              have fy1_3 := fy1_2.below hbs3
              have fy3_3 := fx2.below hbs3
              refine stepG2 6 7 (by kernel_rfl) ?_ ?_
              · refine StepOf.mk 6 (by simp only [List.getElem?_toArray, List.getElem?_cons_succ, List.getElem?_cons_zero]; rfl) (fun K hK => ?_)
                go_simp
                obtain ⟨ws4, hw4⟩ : ∃ wx : World, wx = ws3.alloc (.cells [Value.int .u8 0, .int .u8 0, .slice none 0 0].toArray 24) := ⟨_, rfl⟩
                rw [← hw4]
                have hbs4 : Below ws3.heap.size ws3 ws4 := by rw [hw4]; exact below_new _ _
                have nbs4 : Blk ws4 ws3.heap.size 24 [Value.int .u8 0, .int .u8 0, .slice none 0 0].toArray := by rw [hw4]; exact Blk.new _ _ _
                have szs4 : ws3.heap.size < ws4.heap.size := by rw [hw4]; simp
                clear hw4
                have ges4 : W.heap.size ≤ ws3.heap.size := (hs3).2.2.2.2.2.2.size
                refine hK.out _ _ ?tu4 (fun hs4 => ?_)
                case tu4 => exact keepS _ _ hs3 hbs4
                clear hK K
                have fy1_4 := fy1_3.below hbs4
                have fy3_4 := fy3_3.below hbs4
                have fy5_4 := fx3.below hbs4
                refine stepG 7 (by kernel_rfl) (by simp only [List.getElem?_toArray, List.getElem?_cons_succ, List.getElem?_cons_zero]; rfl) (fun K hK => ?_)
                go_simp
                obtain ⟨ws5, hw5⟩ : ∃ wx : World, wx = ws4.alloc (.cells [Value.int .u8 0, .int .u8 0, .slice none 0 0].toArray 24) := ⟨_, rfl⟩
                rw [← hw5]
                have hbs5 : Below ws4.heap.size ws4 ws5 := by rw [hw5]; exact below_new _ _
                have nbs5 : Blk ws5 ws4.heap.size 24 [Value.int .u8 0, .int .u8 0, .slice none 0 0].toArray := by rw [hw5]; exact Blk.new _ _ _
                have szs5 : ws4.heap.size < ws5.heap.size := by rw [hw5]; simp
                clear hw5
                have ges5 : W.heap.size ≤ ws4.heap.size := (hs4).2.2.2.2.2.2.size
                refine hK.out _ _ ?tu5 (fun hs5 => ?_)
                case tu5 => exact keepS _ _ hs4 hbs5
                clear hK K
                have nb6_5 := nbs4.below hbs5 nbs4.lt
                have fy1_5 := fy1_4.below hbs5
                have fy3_5 := fy3_4.below hbs5
                have fy5_5 := fy5_4.below hbs5
                have hSB := (hs5).2.2.2.2.2.2
                have hz6 := nb6_5
                have hz7 := nbs5
                have hO1 := fy1_5
                have hO3 := fy3_5
                have hO5 := fy5_5
                have hs5 := hSB.size
                clear hHeld
                refine stepG 8 (by kernel_rfl) (by simp only [List.getElem?_toArray, List.getElem?_cons_succ, List.getElem?_cons_zero]; rfl) (fun K hK => ?_)
                refine step_store_blk rfl 24 (.tmp 7) (.tmp 34) rfl rfl (cs := [.int .u8 (k : Int), .int .u8 (l : Int), .slice A7 n c7]) rfl hz6 rfl infoNd (nd_one _ _ _ _ _) ?_
                intro wa hka hga
                refine hK.out _ _ ?ts5 (fun hHeld => ?_)
                case ts5 => ((try dsimp only); exact TR.out _ (hSB.grown hga (by omega) (by intro q hq; simp at hq; omega)))
                clear hK K
                have hz7a := hz7.keep_grown hga (by simp; omega)
                have hSa := hSB.grown hga (by omega) (by intro q hq; simp at hq; omega)
                have hsa := hSa.size
                have hO1a := hO1.keptE hz6 (by decide) (by decide) hga
                have hO3a := hO3.keptE hz6 (by decide) (by decide) hga
                have hO5a := hO5.keptE hz6 (by decide) hga
                clear hHeld
                refine stepG 9 (by kernel_rfl) (by simp only [List.getElem?_toArray, List.getElem?_cons_succ, List.getElem?_cons_zero]; rfl) (fun K hK => ?_)
                refine step_store_blk rfl 24 (.tmp 8) (.tmp 36) rfl rfl (cs := [.int .u8 (k' : Int), .int .u8 (l' : Int), .slice A8 n' c8]) rfl hz7a rfl infoNd (nd_one _ _ _ _ _) ?_
                intro wb hkb hgb
                refine hK.out _ _ ?ts6 (fun hHeld => ?_)
                case ts6 => ((try dsimp only); exact TR.out _ (hSa.grown hgb (by omega) (by intro q hq; simp at hq; omega)))
                clear hK K
                refine' takeV 10 (oi := _) (d := _) (v := _) ?ti7 ?td7 (by kernel_rfl) (by kernel_rfl) (by kernel_rfl) (by kernel_rfl) (by decide) (fun _ _ _ _ _ h => h) ?tg7 ?ty7 (by assumption) ?tr7
                case ti7 => (simp only [List.getElem?_toArray, List.getElem?_cons_succ, List.getElem?_cons_zero]; rfl)
                case td7 => exact rfl
                case tg7 => exact rfl
                case ty7 => (intro w hSw; (try dsimp only at hSw); go_split_ands; go_simp; try with_reducible rfl)
                simp only [List.setIfInBounds_toArray, List.set_cons_zero, List.set_cons_succ]
                refine doneG (by kernel_rfl) ?_ _
                clear hHeld
                go_wp2_with fail
                go_meet
                exact ⟨_, _, A7, c7, A8, c8, A9, c9, rfl, rfl, rfl, ⟨hka.keep_grown hgb (by simp; omega), (hO1a.keptE hz7a (by decide) (by decide) hgb).rdl HLn.out⟩, ⟨hkb, (hO3a.keptE hz7a (by decide) (by decide) hgb).rdl HLn'.out⟩, (hO5a.keptE hz7a (by decide) hgb).rd, hSa.grown hgb (by omega) (by intro q hq; simp at hq; omega)⟩
              · refine StepOf.mk 7 (by simp only [List.getElem?_toArray, List.getElem?_cons_succ, List.getElem?_cons_zero]; rfl) (fun K hK => ?_)
                go_simp
                obtain ⟨ws6, hw6⟩ : ∃ wx : World, wx = ws3.alloc (.cells [Value.int .u8 0, .int .u8 0, .slice none 0 0].toArray 24) := ⟨_, rfl⟩
                rw [← hw6]
                have hbs6 : Below ws3.heap.size ws3 ws6 := by rw [hw6]; exact below_new _ _
                have nbs6 : Blk ws6 ws3.heap.size 24 [Value.int .u8 0, .int .u8 0, .slice none 0 0].toArray := by rw [hw6]; exact Blk.new _ _ _
                have szs6 : ws3.heap.size < ws6.heap.size := by rw [hw6]; simp
                clear hw6
                have ges6 : W.heap.size ≤ ws3.heap.size := (hs3).2.2.2.2.2.2.size
                refine hK.out _ _ ?tu6 (fun hs6 => ?_)
                case tu6 => exact keepS _ _ hs3 hbs6
                clear hK K
                have fy1_6 := fy1_3.below hbs6
                have fy3_6 := fy3_3.below hbs6
                have fy5_6 := fx3.below hbs6
                refine stepG 6 (by kernel_rfl) (by simp only [List.getElem?_toArray, List.getElem?_cons_succ, List.getElem?_cons_zero]; rfl) (fun K hK => ?_)
                go_simp
                obtain ⟨ws7, hw7⟩ : ∃ wx : World, wx = ws6.alloc (.cells [Value.int .u8 0, .int .u8 0, .slice none 0 0].toArray 24) := ⟨_, rfl⟩
                rw [← hw7]
                have hbs7 : Below ws6.heap.size ws6 ws7 := by rw [hw7]; exact below_new _ _
                have nbs7 : Blk ws7 ws6.heap.size 24 [Value.int .u8 0, .int .u8 0, .slice none 0 0].toArray := by rw [hw7]; exact Blk.new _ _ _
                have szs7 : ws6.heap.size < ws7.heap.size := by rw [hw7]; simp
                clear hw7
                have ges7 : W.heap.size ≤ ws6.heap.size := (hs6).2.2.2.2.2.2.size
                refine hK.out _ _ ?tu7 (fun hs7 => ?_)
                case tu7 => exact keepS _ _ hs6 hbs7
                clear hK K
                have nb7_7 := nbs6.below hbs7 nbs6.lt
                have fy1_7 := fy1_6.below hbs7
                have fy3_7 := fy3_6.below hbs7
                have fy5_7 := fy5_6.below hbs7
                have hSB := (hs7).2.2.2.2.2.2
                have hz6 := nbs7
                have hz7 := nb7_7
                have hO1 := fy1_7
                have hO3 := fy3_7
                have hO5 := fy5_7
                have hs5 := hSB.size
                clear hHeld
                refine stepG 8 (by kernel_rfl) (by simp only [List.getElem?_toArray, List.getElem?_cons_succ, List.getElem?_cons_zero]; rfl) (fun K hK => ?_)
                refine step_store_blk rfl 24 (.tmp 7) (.tmp 34) rfl rfl (cs := [.int .u8 (k : Int), .int .u8 (l : Int), .slice A7 n c7]) rfl hz6 rfl infoNd (nd_one _ _ _ _ _) ?_
                intro wa hka hga
                refine hK.out _ _ ?ts8 (fun hHeld => ?_)
                case ts8 => ((try dsimp only); exact TR.out _ (hSB.grown hga (by omega) (by intro q hq; simp at hq; omega)))
                clear hK K
                have hz7a := hz7.keep_grown hga (by simp; omega)
                have hSa := hSB.grown hga (by omega) (by intro q hq; simp at hq; omega)
                have hsa := hSa.size
                have hO1a := hO1.keptE hz6 (by decide) (by decide) hga
                have hO3a := hO3.keptE hz6 (by decide) (by decide) hga
                have hO5a := hO5.keptE hz6 (by decide) hga
                clear hHeld
                refine stepG 9 (by kernel_rfl) (by simp only [List.getElem?_toArray, List.getElem?_cons_succ, List.getElem?_cons_zero]; rfl) (fun K hK => ?_)
                refine step_store_blk rfl 24 (.tmp 8) (.tmp 36) rfl rfl (cs := [.int .u8 (k' : Int), .int .u8 (l' : Int), .slice A8 n' c8]) rfl hz7a rfl infoNd (nd_one _ _ _ _ _) ?_
                intro wb hkb hgb
                refine hK.out _ _ ?ts9 (fun hHeld => ?_)
                case ts9 => ((try dsimp only); exact TR.out _ (hSa.grown hgb (by omega) (by intro q hq; simp at hq; omega)))
                clear hK K
                refine' takeV 10 (oi := _) (d := _) (v := _) ?ti10 ?td10 (by kernel_rfl) (by kernel_rfl) (by kernel_rfl) (by kernel_rfl) (by decide) (fun _ _ _ _ _ h => h) ?tg10 ?ty10 (by assumption) ?tr10
                case ti10 => (simp only [List.getElem?_toArray, List.getElem?_cons_succ, List.getElem?_cons_zero]; rfl)
                case td10 => exact rfl
                case tg10 => exact rfl
                case ty10 => (intro w hSw; (try dsimp only at hSw); go_split_ands; go_simp; try with_reducible rfl)
                simp only [List.setIfInBounds_toArray, List.set_cons_zero, List.set_cons_succ]
                refine doneG (by kernel_rfl) ?_ _
                clear hHeld
                go_wp2_with fail
                go_meet
                exact ⟨_, _, A7, c7, A8, c8, A9, c9, rfl, rfl, rfl, ⟨hka.keep_grown hgb (by simp; omega), (hO1a.keptE hz7a (by decide) (by decide) hgb).rdl HLn.out⟩, ⟨hkb, (hO3a.keptE hz7a (by decide) (by decide) hgb).rdl HLn'.out⟩, (hO5a.keptE hz7a (by decide) hgb).rd, hSa.grown hgb (by omega) (by intro q hq; simp at hq; omega)⟩
            · refine StepOf.mk 6 (by simp only [List.getElem?_toArray, List.getElem?_cons_succ, List.getElem?_cons_zero]; rfl) (fun K hK => ?_)
              go_simp
              obtain ⟨ws8, hw8⟩ : ∃ wx : World, wx = ws2.alloc (.cells [Value.int .u8 0, .int .u8 0, .slice none 0 0].toArray 24) := ⟨_, rfl⟩
              rw [← hw8]
              have hbs8 : Below ws2.heap.size ws2 ws8 := by rw [hw8]; exact below_new _ _
              have nbs8 : Blk ws8 ws2.heap.size 24 [Value.int .u8 0, .int .u8 0, .slice none 0 0].toArray := by rw [hw8]; exact Blk.new _ _ _
              have szs8 : ws2.heap.size < ws8.heap.size := by rw [hw8]; simp
              clear hw8
              have ges8 : W.heap.size ≤ ws2.heap.size := (hs2).2.2.2.2.2.2.size
              refine hK.out _ _ ?tu8 (fun hs8 => ?_)
              case tu8 => exact keepS _ _ hs2 hbs8
              clear hK K
              have fy1_8 := fy1_2.below hbs8
              have fy3_8 := fx2.below hbs8
              refine stepG2 5 7 (by kernel_rfl) ?_ ?_
              · refine StepOf.mk 5 (by simp only [List.getElem?_toArray, List.getElem?_cons_succ, List.getElem?_cons_zero]; rfl) (fun K hK => ?_)
                go_simp
                refine (hr5 _ (hs8).2.2.2.2.2.2).mono ?_
                rintro e ws9 ⟨A9, c9, rfl, fx9, hbs9⟩
                have szs9 := hbs9.size
                refine hK.out _ _ ?tu9 (fun hs9 => ?_)
                case tu9 => exact keepS _ _ hs8 hbs9
                clear hK K
                have nb6_9 := nbs8.below hbs9 nbs8.lt
                have fy1_9 := fy1_8.below hbs9
                have fy3_9 := fy3_8.below hbs9
                refine stepG 7 (by kernel_rfl) (by simp only [List.getElem?_toArray, List.getElem?_cons_succ, List.getElem?_cons_zero]; rfl) (fun K hK => ?_)
                go_simp
                obtain ⟨ws10, hw10⟩ : ∃ wx : World, wx = ws9.alloc (.cells [Value.int .u8 0, .int .u8 0, .slice none 0 0].toArray 24) := ⟨_, rfl⟩
                rw [← hw10]
                have hbs10 : Below ws9.heap.size ws9 ws10 := by rw [hw10]; exact below_new _ _
                have nbs10 : Blk ws10 ws9.heap.size 24 [Value.int .u8 0, .int .u8 0, .slice none 0 0].toArray := by rw [hw10]; exact Blk.new _ _ _
                have szs10 : ws9.heap.size < ws10.heap.size := by rw [hw10]; simp
                clear hw10
                have ges10 : W.heap.size ≤ ws9.heap.size := (hs9).2.2.2.2.2.2.size
                refine hK.out _ _ ?tu10 (fun hs10 => ?_)
                case tu10 => exact keepS _ _ hs9 hbs10
                clear hK K
                have nb6_10 := nb6_9.below hbs10 nb6_9.lt
                have fy1_10 := fy1_9.below hbs10
                have fy3_10 := fy3_9.below hbs10
                have fy5_10 := fx9.below hbs10
                have hSB := (hs10).2.2.2.2.2.2
                have hz6 := nb6_10
                have hz7 := nbs10
                have hO1 := fy1_10
                have hO3 := fy3_10
                have hO5 := fy5_10
                have hs5 := hSB.size
                clear hHeld
                refine stepG 8 (by kernel_rfl) (by simp only [List.getElem?_toArray, List.getElem?_cons_succ, List.getElem?_cons_zero]; rfl) (fun K hK => ?_)
                refine step_store_blk rfl 24 (.tmp 7) (.tmp 34) rfl rfl (cs := [.int .u8 (k : Int), .int .u8 (l : Int), .slice A7 n c7]) rfl hz6 rfl infoNd (nd_one _ _ _ _ _) ?_
                intro wa hka hga
                refine hK.out _ _ ?ts11 (fun hHeld => ?_)
                case ts11 => ((try dsimp only); exact TR.out _ (hSB.grown hga (by omega) (by intro q hq; simp at hq; omega)))
                clear hK K
                have hz7a := hz7.keep_grown hga (by simp; omega)
                have hSa := hSB.grown hga (by omega) (by intro q hq; simp at hq; omega)
                have hsa := hSa.size
                have hO1a := hO1.keptE hz6 (by decide) (by decide) hga
                have hO3a := hO3.keptE hz6 (by decide) (by decide) hga
                have hO5a := hO5.keptE hz6 (by decide) hga
                clear hHeld
                refine stepG 9 (by kernel_rfl) (by simp only [List.getElem?_toArray, List.getElem?_cons_succ, List.getElem?_cons_zero]; rfl) (fun K hK => ?_)
                refine step_store_blk rfl 24 (.tmp 8) (.tmp 36) rfl rfl (cs := [.int .u8 (k' : Int), .int .u8 (l' : Int), .slice A8 n' c8]) rfl hz7a rfl infoNd (nd_one _ _ _ _ _) ?_
                intro wb hkb hgb
                refine hK.out _ _ ?ts12 (fun hHeld => ?_)
                case ts12 => ((try dsimp only); exact TR.out _ (hSa.grown hgb (by omega) (by intro q hq; simp at hq; omega)))
                clear hK K
                refine' takeV 10 (oi := _) (d := _) (v := _) ?ti13 ?td13 (by kernel_rfl) (by kernel_rfl) (by kernel_rfl) (by kernel_rfl) (by decide) (fun _ _ _ _ _ h => h) ?tg13 ?ty13 (by assumption) ?tr13
                case ti13 => (simp only [List.getElem?_toArray, List.getElem?_cons_succ, List.getElem?_cons_zero]; rfl)
                case td13 => exact rfl
                case tg13 => exact rfl
                case ty13 => (intro w hSw; (try dsimp only at hSw); go_split_ands; go_simp; try with_reducible rfl)
                simp only [List.setIfInBounds_toArray, List.set_cons_zero, List.set_cons_succ]
                refine doneG (by kernel_rfl) ?_ _
                clear hHeld
                go_wp2_with fail
                go_meet
                exact ⟨_, _, A7, c7, A8, c8, A9, c9, rfl, rfl, rfl, ⟨hka.keep_grown hgb (by simp; omega), (hO1a.keptE hz7a (by decide) (by decide) hgb).rdl HLn.out⟩, ⟨hkb, (hO3a.keptE hz7a (by decide) (by decide) hgb).rdl HLn'.out⟩, (hO5a.keptE hz7a (by decide) hgb).rd, hSa.grown hgb (by omega) (by intro q hq; simp at hq; omega)⟩
              · refine StepOf.mk 7 (by simp only [List.getElem?_toArray, List.getElem?_cons_succ, List.getElem?_cons_zero]; rfl) (fun K hK => ?_)
                go_simp
                obtain ⟨ws11, hw11⟩ : ∃ wx : World, wx = ws8.alloc (.cells [Value.int .u8 0, .int .u8 0, .slice none 0 0].toArray 24) := ⟨_, rfl⟩
                rw [← hw11]
                have hbs11 : Below ws8.heap.size ws8 ws11 := by rw [hw11]; exact below_new _ _
                have nbs11 : Blk ws11 ws8.heap.size 24 [Value.int .u8 0, .int .u8 0, .slice none 0 0].toArray := by rw [hw11]; exact Blk.new _ _ _
                have szs11 : ws8.heap.size < ws11.heap.size := by rw [hw11]; simp
                clear hw11
                have ges11 : W.heap.size ≤ ws8.heap.size := (hs8).2.2.2.2.2.2.size
                refine hK.out _ _ ?tu11 (fun hs11 => ?_)
                case tu11 => exact keepS _ _ hs8 hbs11
                clear hK K
                have nb6_11 := nbs8.below hbs11 nbs8.lt
                have fy1_11 := fy1_8.below hbs11
                have fy3_11 := fy3_8.below hbs11
                refine stepG 5 (by kernel_rfl) (by simp only [List.getElem?_toArray, List.getElem?_cons_succ, List.getElem?_cons_zero]; rfl) (fun K hK => ?_)
                go_simp
                refine (hr5 _ (hs11).2.2.2.2.2.2).mono ?_
                rintro e ws12 ⟨A9, c9, rfl, fx12, hbs12⟩
                have szs12 := hbs12.size
                refine hK.out _ _ ?tu12 (fun hs12 => ?_)
                case tu12 => exact keepS _ _ hs11 hbs12
                clear hK K
                have nb6_12 := nb6_11.below hbs12 nb6_11.lt
                have nb7_12 := nbs11.below hbs12 nbs11.lt
                have fy1_12 := fy1_11.below hbs12
                have fy3_12 := fy3_11.below hbs12
                have hSB := (hs12).2.2.2.2.2.2
                have hz6 := nb6_12
                have hz7 := nb7_12
                have hO1 := fy1_12
                have hO3 := fy3_12
                have hO5 := fx12
                have hs5 := hSB.size
                clear hHeld
                refine stepG 8 (by kernel_rfl) (by simp only [List.getElem?_toArray, List.getElem?_cons_succ, List.getElem?_cons_zero]; rfl) (fun K hK => ?_)
                refine step_store_blk rfl 24 (.tmp 7) (.tmp 34) rfl rfl (cs := [.int .u8 (k : Int), .int .u8 (l : Int), .slice A7 n c7]) rfl hz6 rfl infoNd (nd_one _ _ _ _ _) ?_
                intro wa hka hga
                refine hK.out _ _ ?ts14 (fun hHeld => ?_)
                case ts14 => ((try dsimp only); exact TR.out _ (hSB.grown hga (by omega) (by intro q hq; simp at hq; omega)))
                clear hK K
                have hz7a := hz7.keep_grown hga (by simp; omega)
                have hSa := hSB.grown hga (by omega) (by intro q hq; simp at hq; omega)
                have hsa := hSa.size
                have hO1a := hO1.keptE hz6 (by decide) (by decide) hga
                have hO3a := hO3.keptE hz6 (by decide) (by decide) hga
                have hO5a := hO5.keptE hz6 (by decide) hga
                clear hHeld
                refine stepG 9 (by kernel_rfl) (by simp only [List.getElem?_toArray, List.getElem?_cons_succ, List.getElem?_cons_zero]; rfl) (fun K hK => ?_)
                refine step_store_blk rfl 24 (.tmp 8) (.tmp 36) rfl rfl (cs := [.int .u8 (k' : Int), .int .u8 (l' : Int), .slice A8 n' c8]) rfl hz7a rfl infoNd (nd_one _ _ _ _ _) ?_
                intro wb hkb hgb
                refine hK.out _ _ ?ts15 (fun hHeld => ?_)
                case ts15 => ((try dsimp only); exact TR.out _ (hSa.grown hgb (by omega) (by intro q hq; simp at hq; omega)))
                clear hK K
                refine' takeV 10 (oi := _) (d := _) (v := _) ?ti16 ?td16 (by kernel_rfl) (by kernel_rfl) (by kernel_rfl) (by kernel_rfl) (by decide) (fun _ _ _ _ _ h => h) ?tg16 ?ty16 (by assumption) ?tr16
                case ti16 => (simp only [List.getElem?_toArray, List.getElem?_cons_succ, List.getElem?_cons_zero]; rfl)
                case td16 => exact rfl
                case tg16 => exact rfl
                case ty16 => (intro w hSw; (try dsimp only at hSw); go_split_ands; go_simp; try with_reducible rfl)
                simp only [List.setIfInBounds_toArray, List.set_cons_zero, List.set_cons_succ]
                refine doneG (by kernel_rfl) ?_ _
                clear hHeld
                go_wp2_with fail
                go_meet
                exact ⟨_, _, A7, c7, A8, c8, A9, c9, rfl, rfl, rfl, ⟨hka.keep_grown hgb (by simp; omega), (hO1a.keptE hz7a (by decide) (by decide) hgb).rdl HLn.out⟩, ⟨hkb, (hO3a.keptE hz7a (by decide) (by decide) hgb).rdl HLn'.out⟩, (hO5a.keptE hz7a (by decide) hgb).rd, hSa.grown hgb (by omega) (by intro q hq; simp at hq; omega)⟩
            · refine StepOf.mk 7 (by simp only [List.getElem?_toArray, List.getElem?_cons_succ, List.getElem?_cons_zero]; rfl) (fun K hK => ?_)
              go_simp
              obtain ⟨ws13, hw13⟩ : ∃ wx : World, wx = ws2.alloc (.cells [Value.int .u8 0, .int .u8 0, .slice none 0 0].toArray 24) := ⟨_, rfl⟩
              rw [← hw13]
              have hbs13 : Below ws2.heap.size ws2 ws13 := by rw [hw13]; exact below_new _ _
              have nbs13 : Blk ws13 ws2.heap.size 24 [Value.int .u8 0, .int .u8 0, .slice none 0 0].toArray := by rw [hw13]; exact Blk.new _ _ _
              have szs13 : ws2.heap.size < ws13.heap.size := by rw [hw13]; simp
              clear hw13
              have ges13 : W.heap.size ≤ ws2.heap.size := (hs2).2.2.2.2.2.2.size
              refine hK.out _ _ ?tu13 (fun hs13 => ?_)
              case tu13 => exact keepS _ _ hs2 hbs13
              clear hK K
              have fy1_13 := fy1_2.below hbs13
              have fy3_13 := fx2.below hbs13
              refine stepG2 5 6 (by kernel_rfl) ?_ ?_
              · refine StepOf.mk 5 (by simp only [List.getElem?_toArray, List.getElem?_cons_succ, List.getElem?_cons_zero]; rfl) (fun K hK => ?_)
                go_simp
                refine (hr5 _ (hs13).2.2.2.2.2.2).mono ?_
                rintro e ws14 ⟨A9, c9, rfl, fx14, hbs14⟩
                have szs14 := hbs14.size
                refine hK.out _ _ ?tu14 (fun hs14 => ?_)
                case tu14 => exact keepS _ _ hs13 hbs14
                clear hK K
                have nb7_14 := nbs13.below hbs14 nbs13.lt
                have fy1_14 := fy1_13.below hbs14
                have fy3_14 := fy3_13.below hbs14
                refine stepG 6 (by kernel_rfl) (by simp only [List.getElem?_toArray, List.getElem?_cons_succ, List.getElem?_cons_zero]; rfl) (fun K hK => ?_)
                go_simp
                obtain ⟨ws15, hw15⟩ : ∃ wx : World, wx = ws14.alloc (.cells [Value.int .u8 0, .int .u8 0, .slice none 0 0].toArray 24) := ⟨_, rfl⟩
                rw [← hw15]
                have hbs15 : Below ws14.heap.size ws14 ws15 := by rw [hw15]; exact below_new _ _
                have nbs15 : Blk ws15 ws14.heap.size 24 [Value.int .u8 0, .int .u8 0, .slice none 0 0].toArray := by rw [hw15]; exact Blk.new _ _ _
                have szs15 : ws14.heap.size < ws15.heap.size := by rw [hw15]; simp
                clear hw15
                have ges15 : W.heap.size ≤ ws14.heap.size := (hs14).2.2.2.2.2.2.size
                refine hK.out _ _ ?tu15 (fun hs15 => ?_)
                case tu15 => exact keepS _ _ hs14 hbs15
                clear hK K
                have nb7_15 := nb7_14.below hbs15 nb7_14.lt
                have fy1_15 := fy1_14.below hbs15
                have fy3_15 := fy3_14.below hbs15
                have fy5_15 := fx14.below hbs15
                have hSB := (hs15).2.2.2.2.2.2
                have hz6 := nbs15
                have hz7 := nb7_15
                have hO1 := fy1_15
                have hO3 := fy3_15
                have hO5 := fy5_15
                have hs5 := hSB.size
                clear hHeld
                refine stepG 8 (by kernel_rfl) (by simp only [List.getElem?_toArray, List.getElem?_cons_succ, List.getElem?_cons_zero]; rfl) (fun K hK => ?_)
                refine step_store_blk rfl 24 (.tmp 7) (.tmp 34) rfl rfl (cs := [.int .u8 (k : Int), .int .u8 (l : Int), .slice A7 n c7]) rfl hz6 rfl infoNd (nd_one _ _ _ _ _) ?_
                intro wa hka hga
                refine hK.out _ _ ?ts17 (fun hHeld => ?_)
                case ts17 => ((try dsimp only); exact TR.out _ (hSB.grown hga (by omega) (by intro q hq; simp at hq; omega)))
                clear hK K
                have hz7a := hz7.keep_grown hga (by simp; omega)
                have hSa := hSB.grown hga (by omega) (by intro q hq; simp at hq; omega)
                have hsa := hSa.size
                have hO1a := hO1.keptE hz6 (by decide) (by decide) hga
                have hO3a := hO3.keptE hz6 (by decide) (by decide) hga
                have hO5a := hO5.keptE hz6 (by decide) hga
                clear hHeld
                refine stepG 9 (by kernel_rfl) (by simp only [List.getElem?_toArray, List.getElem?_cons_succ, List.getElem?_cons_zero]; rfl) (fun K hK => ?_)
                refine step_store_blk rfl 24 (.tmp 8) (.tmp 36) rfl rfl (cs := [.int .u8 (k' : Int), .int .u8 (l' : Int), .slice A8 n' c8]) rfl hz7a rfl infoNd (nd_one _ _ _ _ _) ?_
                intro wb hkb hgb
                refine hK.out _ _ ?ts18 (fun hHeld => ?_)
                case ts18 => ((try dsimp only); exact TR.out _ (hSa.grown hgb (by omega) (by intro q hq; simp at hq; omega)))
                clear hK K
                refine' takeV 10 (oi := _) (d := _) (v := _) ?ti19 ?td19 (by kernel_rfl) (by kernel_rfl) (by kernel_rfl) (by kernel_rfl) (by decide) (fun _ _ _ _ _ h => h) ?tg19 ?ty19 (by assumption) ?tr19
                case ti19 => (simp only [List.getElem?_toArray, List.getElem?_cons_succ, List.getElem?_cons_zero]; rfl)
                case td19 => exact rfl
                case tg19 => exact rfl
                case ty19 => (intro w hSw; (try dsimp only at hSw); go_split_ands; go_simp; try with_reducible rfl)
                simp only [List.setIfInBounds_toArray, List.set_cons_zero, List.set_cons_succ]
                refine doneG (by kernel_rfl) ?_ _
                clear hHeld
                go_wp2_with fail
                go_meet
                exact ⟨_, _, A7, c7, A8, c8, A9, c9, rfl, rfl, rfl, ⟨hka.keep_grown hgb (by simp; omega), (hO1a.keptE hz7a (by decide) (by decide) hgb).rdl HLn.out⟩, ⟨hkb, (hO3a.keptE hz7a (by decide) (by decide) hgb).rdl HLn'.out⟩, (hO5a.keptE hz7a (by decide) hgb).rd, hSa.grown hgb (by omega) (by intro q hq; simp at hq; omega)⟩
              · refine StepOf.mk 6 (by simp only [List.getElem?_toArray, List.getElem?_cons_succ, List.getElem?_cons_zero]; rfl) (fun K hK => ?_)
                go_simp
                obtain ⟨ws16, hw16⟩ : ∃ wx : World, wx = ws13.alloc (.cells [Value.int .u8 0, .int .u8 0, .slice none 0 0].toArray 24) := ⟨_, rfl⟩
                rw [← hw16]
                have hbs16 : Below ws13.heap.size ws13 ws16 := by rw [hw16]; exact below_new _ _
                have nbs16 : Blk ws16 ws13.heap.size 24 [Value.int .u8 0, .int .u8 0, .slice none 0 0].toArray := by rw [hw16]; exact Blk.new _ _ _
                have szs16 : ws13.heap.size < ws16.heap.size := by rw [hw16]; simp
                clear hw16
                have ges16 : W.heap.size ≤ ws13.heap.size := (hs13).2.2.2.2.2.2.size
                refine hK.out _ _ ?tu16 (fun hs16 => ?_)
                case tu16 => exact keepS _ _ hs13 hbs16
                clear hK K
                have nb7_16 := nbs13.below hbs16 nbs13.lt
                have fy1_16 := fy1_13.below hbs16
                have fy3_16 := fy3_13.below hbs16
                refine stepG 5 (by kernel_rfl) (by simp only [List.getElem?_toArray, List.getElem?_cons_succ, List.getElem?_cons_zero]; rfl) (fun K hK => ?_)
                go_simp
                refine (hr5 _ (hs16).2.2.2.2.2.2).mono ?_
                rintro e ws17 ⟨A9, c9, rfl, fx17, hbs17⟩
                have szs17 := hbs17.size
                refine hK.out _ _ ?tu17 (fun hs17 => ?_)
                case tu17 => exact keepS _ _ hs16 hbs17
                clear hK K
                have nb7_17 := nb7_16.below hbs17 nb7_16.lt
                have nb6_17 := nbs16.below hbs17 nbs16.lt
                have fy1_17 := fy1_16.below hbs17
                have fy3_17 := fy3_16.below hbs17
                have hSB := (hs17).2.2.2.2.2.2
                have hz6 := nb6_17
                have hz7 := nb7_17
                have hO1 := fy1_17
                have hO3 := fy3_17
                have hO5 := fx17
                have hs5 := hSB.size
                clear hHeld
                refine stepG 8 (by kernel_rfl) (by simp only [List.getElem?_toArray, List.getElem?_cons_succ, List.getElem?_cons_zero]; rfl) (fun K hK => ?_)
                refine step_store_blk rfl 24 (.tmp 7) (.tmp 34) rfl rfl (cs := [.int .u8 (k : Int), .int .u8 (l : Int), .slice A7 n c7]) rfl hz6 rfl infoNd (nd_one _ _ _ _ _) ?_
                intro wa hka hga
                refine hK.out _ _ ?ts20 (fun hHeld => ?_)
                case ts20 => ((try dsimp only); exact TR.out _ (hSB.grown hga (by omega) (by intro q hq; simp at hq; omega)))
                clear hK K
                have hz7a := hz7.keep_grown hga (by simp; omega)
                have hSa := hSB.grown hga (by omega) (by intro q hq; simp at hq; omega)
                have hsa := hSa.size
                have hO1a := hO1.keptE hz6 (by decide) (by decide) hga
                have hO3a := hO3.keptE hz6 (by decide) (by decide) hga
                have hO5a := hO5.keptE hz6 (by decide) hga
                clear hHeld
                refine stepG 9 (by kernel_rfl) (by simp only [List.getElem?_toArray, List.getElem?_cons_succ, List.getElem?_cons_zero]; rfl) (fun K hK => ?_)
                refine step_store_blk rfl 24 (.tmp 8) (.tmp 36) rfl rfl (cs := [.int .u8 (k' : Int), .int .u8 (l' : Int), .slice A8 n' c8]) rfl hz7a rfl infoNd (nd_one _ _ _ _ _) ?_
                intro wb hkb hgb
                refine hK.out _ _ ?ts21 (fun hHeld => ?_)
                case ts21 => ((try dsimp only); exact TR.out _ (hSa.grown hgb (by omega) (by intro q hq; simp at hq; omega)))
                clear hK K
                refine' takeV 10 (oi := _) (d := _) (v := _) ?ti22 ?td22 (by kernel_rfl) (by kernel_rfl) (by kernel_rfl) (by kernel_rfl) (by decide) (fun _ _ _ _ _ h => h) ?tg22 ?ty22 (by assumption) ?tr22
                case ti22 => (simp only [List.getElem?_toArray, List.getElem?_cons_succ, List.getElem?_cons_zero]; rfl)
                case td22 => exact rfl
                case tg22 => exact rfl
                case ty22 => (intro w hSw; (try dsimp only at hSw); go_split_ands; go_simp; try with_reducible rfl)
                simp only [List.setIfInBounds_toArray, List.set_cons_zero, List.set_cons_succ]
                refine doneG (by kernel_rfl) ?_ _
                clear hHeld
                go_wp2_with fail
                go_meet
                exact ⟨_, _, A7, c7, A8, c8, A9, c9, rfl, rfl, rfl, ⟨hka.keep_grown hgb (by simp; omega), (hO1a.keptE hz7a (by decide) (by decide) hgb).rdl HLn.out⟩, ⟨hkb, (hO3a.keptE hz7a (by decide) (by decide) hgb).rdl HLn'.out⟩, (hO5a.keptE hz7a (by decide) hgb).rd, hSa.grown hgb (by omega) (by intro q hq; simp at hq; omega)⟩
          · refine StepOf.mk 6 (by simp only [List.getElem?_toArray, List.getElem?_cons_succ, List.getElem?_cons_zero]; rfl) (fun K hK => ?_)
            go_simp
            obtain ⟨ws18, hw18⟩ : ∃ wx : World, wx = ws1.alloc (.cells [Value.int .u8 0, .int .u8 0, .slice none 0 0].toArray 24) := ⟨_, rfl⟩
            rw [← hw18]
            have hbs18 : Below ws1.heap.size ws1 ws18 := by rw [hw18]; exact below_new _ _
            have nbs18 : Blk ws18 ws1.heap.size 24 [Value.int .u8 0, .int .u8 0, .slice none 0 0].toArray := by rw [hw18]; exact Blk.new _ _ _
            have szs18 : ws1.heap.size < ws18.heap.size := by rw [hw18]; simp
            clear hw18
            have ges18 : W.heap.size ≤ ws1.heap.size := (hs1).2.2.2.2.2.2.size
            refine hK.out _ _ ?tu18 (fun hs18 => ?_)
            case tu18 => exact keepS _ _ hs1 hbs18
            clear hK K
            have fy1_18 := fx1.below hbs18
            refine stepG2 3 7 (by kernel_rfl) ?_ ?_
            · refine StepOf.mk 3 (by simp only [List.getElem?_toArray, List.getElem?_cons_succ, List.getElem?_cons_zero]; rfl) (fun K hK => ?_)
              go_simp
              refine (hr3 _ (hs18).2.2.2.2.2.2).mono ?_
              rintro e ws19 ⟨A8, c8, rfl, fx19, hbs19⟩
              have szs19 := hbs19.size
              refine hK.out _ _ ?tu19 (fun hs19 => ?_)
              case tu19 => exact keepS _ _ hs18 hbs19
              clear hK K
              have nb6_19 := nbs18.below hbs19 nbs18.lt
              have fy1_19 := fy1_18.below hbs19
              refine stepG2 5 7 (by kernel_rfl) ?_ ?_
              · refine StepOf.mk 5 (by simp only [List.getElem?_toArray, List.getElem?_cons_succ, List.getElem?_cons_zero]; rfl) (fun K hK => ?_)
                go_simp
                refine (hr5 _ (hs19).2.2.2.2.2.2).mono ?_
                rintro e ws20 ⟨A9, c9, rfl, fx20, hbs20⟩
                have szs20 := hbs20.size
                refine hK.out _ _ ?tu20 (fun hs20 => ?_)
                case tu20 => exact keepS _ _ hs19 hbs20
                clear hK K
                have nb6_20 := nb6_19.below hbs20 nb6_19.lt
                have fy1_20 := fy1_19.below hbs20
                have fy3_20 := fx19.below hbs20
                refine stepG 7 (by kernel_rfl) (by simp only [List.getElem?_toArray, List.getElem?_cons_succ, List.getElem?_cons_zero]; rfl) (fun K hK => ?_)
                go_simp
                obtain ⟨ws21, hw21⟩ : ∃ wx : World, wx = ws20.alloc (.cells [Value.int .u8 0, .int .u8 0, .slice none 0 0].toArray 24) := ⟨_, rfl⟩
                rw [← hw21]
                have hbs21 : Below ws20.heap.size ws20 ws21 := by rw [hw21]; exact below_new _ _
                have nbs21 : Blk ws21 ws20.heap.size 24 [Value.int .u8 0, .int .u8 0, .slice none 0 0].toArray := by rw [hw21]; exact Blk.new _ _ _
                have szs21 : ws20.heap.size < ws21.heap.size := by rw [hw21]; simp
                clear hw21
                have ges21 : W.heap.size ≤ ws20.heap.size := (hs20).2.2.2.2.2.2.size
                refine hK.out _ _ ?tu21 (fun hs21 => ?_)
                case tu21 => exact keepS _ _ hs20 hbs21
                clear hK K
                have nb6_21 := nb6_20.below hbs21 nb6_20.lt
                have fy1_21 := fy1_20.below hbs21
                have fy3_21 := fy3_20.below hbs21
                have fy5_21 := fx20.below hbs21
                have hSB := (hs21).2.2.2.2.2.2
                have hz6 := nb6_21
                have hz7 := nbs21
                have hO1 := fy1_21
                have hO3 := fy3_21
                have hO5 := fy5_21
                have hs5 := hSB.size
                clear hHeld
                refine stepG 8 (by kernel_rfl) (by simp only [List.getElem?_toArray, List.getElem?_cons_succ, List.getElem?_cons_zero]; rfl) (fun K hK => ?_)
                refine step_store_blk rfl 24 (.tmp 7) (.tmp 34) rfl rfl (cs := [.int .u8 (k : Int), .int .u8 (l : Int), .slice A7 n c7]) rfl hz6 rfl infoNd (nd_one _ _ _ _ _) ?_
                intro wa hka hga
                refine hK.out _ _ ?ts23 (fun hHeld => ?_)
                case ts23 => ((try dsimp only); exact TR.out _ (hSB.grown hga (by omega) (by intro q hq; simp at hq; omega)))
                clear hK K
                have hz7a := hz7.keep_grown hga (by simp; omega)
                have hSa := hSB.grown hga (by omega) (by intro q hq; simp at hq; omega)
                have hsa := hSa.size
                have hO1a := hO1.keptE hz6 (by decide) (by decide) hga
                have hO3a := hO3.keptE hz6 (by decide) (by decide) hga
                have hO5a := hO5.keptE hz6 (by decide) hga
                clear hHeld
                refine stepG 9 (by kernel_rfl) (by simp only [List.getElem?_toArray, List.getElem?_cons_succ, List.getElem?_cons_zero]; rfl) (fun K hK => ?_)
                refine step_store_blk rfl 24 (.tmp 8) (.tmp 36) rfl rfl (cs := [.int .u8 (k' : Int), .int .u8 (l' : Int), .slice A8 n' c8]) rfl hz7a rfl infoNd (nd_one _ _ _ _ _) ?_
                intro wb hkb hgb
                refine hK.out _ _ ?ts24 (fun hHeld => ?_)
                case ts24 => ((try dsimp only); exact TR.out _ (hSa.grown hgb (by omega) (by intro q hq; simp at hq; omega)))
                clear hK K
                refine' takeV 10 (oi := _) (d := _) (v := _) ?ti25 ?td25 (by kernel_rfl) (by kernel_rfl) (by kernel_rfl) (by kernel_rfl) (by decide) (fun _ _ _ _ _ h => h) ?tg25 ?ty25 (by assumption) ?tr25
                case ti25 => (simp only [List.getElem?_toArray, List.getElem?_cons_succ, List.getElem?_cons_zero]; rfl)
                case td25 => exact rfl
                case tg25 => exact rfl
                case ty25 => (intro w hSw; (try dsimp only at hSw); go_split_ands; go_simp; try with_reducible rfl)
                simp only [List.setIfInBounds_toArray, List.set_cons_zero, List.set_cons_succ]
                refine doneG (by kernel_rfl) ?_ _
                clear hHeld
                go_wp2_with fail
                go_meet
                exact ⟨_, _, A7, c7, A8, c8, A9, c9, rfl, rfl, rfl, ⟨hka.keep_grown hgb (by simp; omega), (hO1a.keptE hz7a (by decide) (by decide) hgb).rdl HLn.out⟩, ⟨hkb, (hO3a.keptE hz7a (by decide) (by decide) hgb).rdl HLn'.out⟩, (hO5a.keptE hz7a (by decide) hgb).rd, hSa.grown hgb (by omega) (by intro q hq; simp at hq; omega)⟩
              · refine StepOf.mk 7 (by simp only [List.getElem?_toArray, List.getElem?_cons_succ, List.getElem?_cons_zero]; rfl) (fun K hK => ?_)
                go_simp
                obtain ⟨ws22, hw22⟩ : ∃ wx : World, wx = ws19.alloc (.cells [Value.int .u8 0, .int .u8 0, .slice none 0 0].toArray 24) := ⟨_, rfl⟩
                rw [← hw22]
                have hbs22 : Below ws19.heap.size ws19 ws22 := by rw [hw22]; exact below_new _ _
                have nbs22 : Blk ws22 ws19.heap.size 24 [Value.int .u8 0, .int .u8 0, .slice none 0 0].toArray := by rw [hw22]; exact Blk.new _ _ _
                have szs22 : ws19.heap.size < ws22.heap.size := by rw [hw22]; simp
                clear hw22
                have ges22 : W.heap.size ≤ ws19.heap.size := (hs19).2.2.2.2.2.2.size
                refine hK.out _ _ ?tu22 (fun hs22 => ?_)
                case tu22 => exact keepS _ _ hs19 hbs22
                clear hK K
                have nb6_22 := nb6_19.below hbs22 nb6_19.lt
                have fy1_22 := fy1_19.below hbs22
                have fy3_22 := fx19.below hbs22
                refine stepG 5 (by kernel_rfl) (by simp only [List.getElem?_toArray, List.getElem?_cons_succ, List.getElem?_cons_zero]; rfl) (fun K hK => ?_)
                go_simp
                refine (hr5 _ (hs22).2.2.2.2.2.2).mono ?_
                rintro e ws23 ⟨A9, c9, rfl, fx23, hbs23⟩
                have szs23 := hbs23.size
                refine hK.out _ _ ?tu23 (fun hs23 => ?_)
                case tu23 => exact keepS _ _ hs22 hbs23
                clear hK K
                have nb6_23 := nb6_22.below hbs23 nb6_22.lt
                have nb7_23 := nbs22.below hbs23 nbs22.lt
                have fy1_23 := fy1_22.below hbs23
                have fy3_23 := fy3_22.below hbs23
                have hSB := (hs23).2.2.2.2.2.2
                have hz6 := nb6_23
                have hz7 := nb7_23
                have hO1 := fy1_23
                have hO3 := fy3_23
                have hO5 := fx23
                have hs5 := hSB.size
                clear hHeld
                refine stepG 8 (by kernel_rfl) (by simp only [List.getElem?_toArray, List.getElem?_cons_succ, List.getElem?_cons_zero]; rfl) (fun K hK => ?_)
                refine step_store_blk rfl 24 (.tmp 7) (.tmp 34) rfl rfl (cs := [.int .u8 (k : Int), .int .u8 (l : Int), .slice A7 n c7]) rfl hz6 rfl infoNd (nd_one _ _ _ _ _) ?_
                intro wa hka hga
                refine hK.out _ _ ?ts26 (fun hHeld => ?_)
                case ts26 => ((try dsimp only); exact TR.out _ (hSB.grown hga (by omega) (by intro q hq; simp at hq; omega)))
                clear hK K
                have hz7a := hz7.keep_grown hga (by simp; omega)
                have hSa := hSB.grown hga (by omega) (by intro q hq; simp at hq; omega)
                have hsa := hSa.size
                have hO1a := hO1.keptE hz6 (by decide) (by decide) hga
                have hO3a := hO3.keptE hz6 (by decide) (by decide) hga
                have hO5a := hO5.keptE hz6 (by decide) hga
                clear hHeld
                refine stepG 9 (by kernel_rfl) (by simp only [List.getElem?_toArray, List.getElem?_cons_succ, List.getElem?_cons_zero]; rfl) (fun K hK => ?_)
                refine step_store_blk rfl 24 (.tmp 8) (.tmp 36) rfl rfl (cs := [.int .u8 (k' : Int), .int .u8 (l' : Int), .slice A8 n' c8]) rfl hz7a rfl infoNd (nd_one _ _ _ _ _) ?_
                intro wb hkb hgb
                refine hK.out _ _ ?ts27 (fun hHeld => ?_)
                case ts27 => ((try dsimp only); exact TR.out _ (hSa.grown hgb (by omega) (by intro q hq; simp at hq; omega)))
                clear hK K
                refine' takeV 10 (oi := _) (d := _) (v := _) ?ti28 ?td28 (by kernel_rfl) (by kernel_rfl) (by kernel_rfl) (by kernel_rfl) (by decide) (fun _ _ _ _ _ h => h) ?tg28 ?ty28 (by assumption) ?tr28
                case ti28 => (simp only [List.getElem?_toArray, List.getElem?_cons_succ, List.getElem?_cons_zero]; rfl)
                case td28 => exact rfl
                case tg28 => exact rfl
                case ty28 => (intro w hSw; (try dsimp only at hSw); go_split_ands; go_simp; try with_reducible rfl)
                simp only [List.setIfInBounds_toArray, List.set_cons_zero, List.set_cons_succ]
                refine doneG (by kernel_rfl) ?_ _
                clear hHeld
                go_wp2_with fail
                go_meet
                exact ⟨_, _, A7, c7, A8, c8, A9, c9, rfl, rfl, rfl, ⟨hka.keep_grown hgb (by simp; omega), (hO1a.keptE hz7a (by decide) (by decide) hgb).rdl HLn.out⟩, ⟨hkb, (hO3a.keptE hz7a (by decide) (by decide) hgb).rdl HLn'.out⟩, (hO5a.keptE hz7a (by decide) hgb).rd, hSa.grown hgb (by omega) (by intro q hq; simp at hq; omega)⟩
            · refine StepOf.mk 7 (by simp only [List.getElem?_toArray, List.getElem?_cons_succ, List.getElem?_cons_zero]; rfl) (fun K hK => ?_)
              go_simp
              obtain ⟨ws24, hw24⟩ : ∃ wx : World, wx = ws18.alloc (.cells [Value.int .u8 0, .int .u8 0, .slice none 0 0].toArray 24) := ⟨_, rfl⟩
              rw [← hw24]
              have hbs24 : Below ws18.heap.size ws18 ws24 := by rw [hw24]; exact below_new _ _
              have nbs24 : Blk ws24 ws18.heap.size 24 [Value.int .u8 0, .int .u8 0, .slice none 0 0].toArray := by rw [hw24]; exact Blk.new _ _ _
              have szs24 : ws18.heap.size < ws24.heap.size := by rw [hw24]; simp
              clear hw24
              have ges24 : W.heap.size ≤ ws18.heap.size := (hs18).2.2.2.2.2.2.size
              refine hK.out _ _ ?tu24 (fun hs24 => ?_)
              case tu24 => exact keepS _ _ hs18 hbs24
              clear hK K
              have nb6_24 := nbs18.below hbs24 nbs18.lt
              have fy1_24 := fy1_18.below hbs24
              refine stepG 3 (by kernel_rfl) (by simp only [List.getElem?_toArray, List.getElem?_cons_succ, List.getElem?_cons_zero]; rfl) (fun K hK => ?_)
              go_simp
              refine (hr3 _ (hs24).2.2.2.2.2.2).mono ?_
              rintro e ws25 ⟨A8, c8, rfl, fx25, hbs25⟩
              have szs25 := hbs25.size
              refine hK.out _ _ ?tu25 (fun hs25 => ?_)
              case tu25 => exact keepS _ _ hs24 hbs25
              clear hK K
              have nb6_25 := nb6_24.below hbs25 nb6_24.lt
              have nb7_25 := nbs24.below hbs25 nbs24.lt
              have fy1_25 := fy1_24.below hbs25
              refine stepG 5 (by kernel_rfl) (by simp only [List.getElem?_toArray, List.getElem?_cons_succ, List.getElem?_cons_zero]; rfl) (fun K hK => ?_)
              go_simp
              refine (hr5 _ (hs25).2.2.2.2.2.2).mono ?_
              rintro e ws26 ⟨A9, c9, rfl, fx26, hbs26⟩
              have szs26 := hbs26.size
              refine hK.out _ _ ?tu26 (fun hs26 => ?_)
              case tu26 => exact keepS _ _ hs25 hbs26
              clear hK K
              have nb6_26 := nb6_25.below hbs26 nb6_25.lt
              have nb7_26 := nb7_25.below hbs26 nb7_25.lt
              have fy1_26 := fy1_25.below hbs26
              have fy3_26 := fx25.below hbs26
              have hSB := (hs26).2.2.2.2.2.2
              have hz6 := nb6_26
              have hz7 := nb7_26
              have hO1 := fy1_26
              have hO3 := fy3_26
              have hO5 := fx26
              have hs5 := hSB.size
              clear hHeld
              refine stepG 8 (by kernel_rfl) (by simp only [List.getElem?_toArray, List.getElem?_cons_succ, List.getElem?_cons_zero]; rfl) (fun K hK => ?_)
              refine step_store_blk rfl 24 (.tmp 7) (.tmp 34) rfl rfl (cs := [.int .u8 (k : Int), .int .u8 (l : Int), .slice A7 n c7]) rfl hz6 rfl infoNd (nd_one _ _ _ _ _) ?_
              intro wa hka hga
              refine hK.out _ _ ?ts29 (fun hHeld => ?_)
              case ts29 => ((try dsimp only); exact TR.out _ (hSB.grown hga (by omega) (by intro q hq; simp at hq; omega)))
              clear hK K
              have hz7a := hz7.keep_grown hga (by simp; omega)
              have hSa := hSB.grown hga (by omega) (by intro q hq; simp at hq; omega)
              have hsa := hSa.size
              have hO1a := hO1.keptE hz6 (by decide) (by decide) hga
              have hO3a := hO3.keptE hz6 (by decide) (by decide) hga
              have hO5a := hO5.keptE hz6 (by decide) hga
              clear hHeld
              refine stepG 9 (by kernel_rfl) (by simp only [List.getElem?_toArray, List.getElem?_cons_succ, List.getElem?_cons_zero]; rfl) (fun K hK => ?_)
              refine step_store_blk rfl 24 (.tmp 8) (.tmp 36) rfl rfl (cs := [.int .u8 (k' : Int), .int .u8 (l' : Int), .slice A8 n' c8]) rfl hz7a rfl infoNd (nd_one _ _ _ _ _) ?_
              intro wb hkb hgb
              refine hK.out _ _ ?ts30 (fun hHeld => ?_)
              case ts30 => ((try dsimp only); exact TR.out _ (hSa.grown hgb (by omega) (by intro q hq; simp at hq; omega)))
              clear hK K
              refine' takeV 10 (oi := _) (d := _) (v := _) ?ti31 ?td31 (by kernel_rfl) (by kernel_rfl) (by kernel_rfl) (by kernel_rfl) (by decide) (fun _ _ _ _ _ h => h) ?tg31 ?ty31 (by assumption) ?tr31
              case ti31 => (simp only [List.getElem?_toArray, List.getElem?_cons_succ, List.getElem?_cons_zero]; rfl)
              case td31 => exact rfl
              case tg31 => exact rfl
              case ty31 => (intro w hSw; (try dsimp only at hSw); go_split_ands; go_simp; try with_reducible rfl)
              simp only [List.setIfInBounds_toArray, List.set_cons_zero, List.set_cons_succ]
              refine doneG (by kernel_rfl) ?_ _
              clear hHeld
              go_wp2_with fail
              go_meet
              exact ⟨_, _, A7, c7, A8, c8, A9, c9, rfl, rfl, rfl, ⟨hka.keep_grown hgb (by simp; omega), (hO1a.keptE hz7a (by decide) (by decide) hgb).rdl HLn.out⟩, ⟨hkb, (hO3a.keptE hz7a (by decide) (by decide) hgb).rdl HLn'.out⟩, (hO5a.keptE hz7a (by decide) hgb).rd, hSa.grown hgb (by omega) (by intro q hq; simp at hq; omega)⟩
          · refine StepOf.mk 7 (by simp only [List.getElem?_toArray, List.getElem?_cons_succ, List.getElem?_cons_zero]; rfl) (fun K hK => ?_)
            go_simp
            obtain ⟨ws27, hw27⟩ : ∃ wx : World, wx = ws1.alloc (.cells [Value.int .u8 0, .int .u8 0, .slice none 0 0].toArray 24) := ⟨_, rfl⟩
            rw [← hw27]
            have hbs27 : Below ws1.heap.size ws1 ws27 := by rw [hw27]; exact below_new _ _
            have nbs27 : Blk ws27 ws1.heap.size 24 [Value.int .u8 0, .int .u8 0, .slice none 0 0].toArray := by rw [hw27]; exact Blk.new _ _ _
            have szs27 : ws1.heap.size < ws27.heap.size := by rw [hw27]; simp
            clear hw27
            have ges27 : W.heap.size ≤ ws1.heap.size := (hs1).2.2.2.2.2.2.size
            refine hK.out _ _ ?tu27 (fun hs27 => ?_)
            case tu27 => exact keepS _ _ hs1 hbs27
            clear hK K
            have fy1_27 := fx1.below hbs27
            refine stepG2 3 6 (by kernel_rfl) ?_ ?_
            · refine StepOf.mk 3 (by simp only [List.getElem?_toArray, List.getElem?_cons_succ, List.getElem?_cons_zero]; rfl) (fun K hK => ?_)
              go_simp
              refine (hr3 _ (hs27).2.2.2.2.2.2).mono ?_
              rintro e ws28 ⟨A8, c8, rfl, fx28, hbs28⟩
              have szs28 := hbs28.size
              refine hK.out _ _ ?tu28 (fun hs28 => ?_)
              case tu28 => exact keepS _ _ hs27 hbs28
              clear hK K
              have nb7_28 := nbs27.below hbs28 nbs27.lt
              have fy1_28 := fy1_27.below hbs28
              refine stepG2 5 6 (by kernel_rfl) ?_ ?_
              · refine StepOf.mk 5 (by simp only [List.getElem?_toArray, List.getElem?_cons_succ, List.getElem?_cons_zero]; rfl) (fun K hK => ?_)
                go_simp
                refine (hr5 _ (hs28).2.2.2.2.2.2).mono ?_
                rintro e ws29 ⟨A9, c9, rfl, fx29, hbs29⟩
                have szs29 := hbs29.size
                refine hK.out _ _ ?tu29 (fun hs29 => ?_)
                case tu29 => exact keepS _ _ hs28 hbs29
                clear hK K
                have nb7_29 := nb7_28.below hbs29 nb7_28.lt
                have fy1_29 := fy1_28.below hbs29
                have fy3_29 := fx28.below hbs29
                refine stepG 6 (by kernel_rfl) (by simp only [List.getElem?_toArray, List.getElem?_cons_succ, List.getElem?_cons_zero]; rfl) (fun K hK => ?_)
                go_simp
                obtain ⟨ws30, hw30⟩ : ∃ wx : World, wx = ws29.alloc (.cells [Value.int .u8 0, .int .u8 0, .slice none 0 0].toArray 24) := ⟨_, rfl⟩
                rw [← hw30]
                have hbs30 : Below ws29.heap.size ws29 ws30 := by rw [hw30]; exact below_new _ _
                have nbs30 : Blk ws30 ws29.heap.size 24 [Value.int .u8 0, .int .u8 0, .slice none 0 0].toArray := by rw [hw30]; exact Blk.new _ _ _
                have szs30 : ws29.heap.size < ws30.heap.size := by rw [hw30]; simp
                clear hw30
                have ges30 : W.heap.size ≤ ws29.heap.size := (hs29).2.2.2.2.2.2.size
                refine hK.out _ _ ?tu30 (fun hs30 => ?_)
                case tu30 => exact keepS _ _ hs29 hbs30
                clear hK K
                have nb7_30 := nb7_29.below hbs30 nb7_29.lt
                have fy1_30 := fy1_29.below hbs30
                have fy3_30 := fy3_29.below hbs30
                have fy5_30 := fx29.below hbs30
                have hSB := (hs30).2.2.2.2.2.2
                have hz6 := nbs30
                have hz7 := nb7_30
                have hO1 := fy1_30
                have hO3 := fy3_30
                have hO5 := fy5_30
                have hs5 := hSB.size
                clear hHeld
                refine stepG 8 (by kernel_rfl) (by simp only [List.getElem?_toArray, List.getElem?_cons_succ, List.getElem?_cons_zero]; rfl) (fun K hK => ?_)
                refine step_store_blk rfl 24 (.tmp 7) (.tmp 34) rfl rfl (cs := [.int .u8 (k : Int), .int .u8 (l : Int), .slice A7 n c7]) rfl hz6 rfl infoNd (nd_one _ _ _ _ _) ?_
                intro wa hka hga
                refine hK.out _ _ ?ts32 (fun hHeld => ?_)
                case ts32 => ((try dsimp only); exact TR.out _ (hSB.grown hga (by omega) (by intro q hq; simp at hq; omega)))
                clear hK K
                have hz7a := hz7.keep_grown hga (by simp; omega)
                have hSa := hSB.grown hga (by omega) (by intro q hq; simp at hq; omega)
                have hsa := hSa.size
                have hO1a := hO1.keptE hz6 (by decide) (by decide) hga
                have hO3a := hO3.keptE hz6 (by decide) (by decide) hga
                have hO5a := hO5.keptE hz6 (by decide) hga
                clear hHeld
                refine stepG 9 (by kernel_rfl) (by simp only [List.getElem?_toArray, List.getElem?_cons_succ, List.getElem?_cons_zero]; rfl) (fun K hK => ?_)
                refine step_store_blk rfl 24 (.tmp 8) (.tmp 36) rfl rfl (cs := [.int .u8 (k' : Int), .int .u8 (l' : Int), .slice A8 n' c8]) rfl hz7a rfl infoNd (nd_one _ _ _ _ _) ?_
                intro wb hkb hgb
                refine hK.out _ _ ?ts33 (fun hHeld => ?_)
                case ts33 => ((try dsimp only); exact TR.out _ (hSa.grown hgb (by omega) (by intro q hq; simp at hq; omega)))
                clear hK K
                refine' takeV 10 (oi := _) (d := _) (v := _) ?ti34 ?td34 (by kernel_rfl) (by kernel_rfl) (by kernel_rfl) (by kernel_rfl) (by decide) (fun _ _ _ _ _ h => h) ?tg34 ?ty34 (by assumption) ?tr34
                case ti34 => (simp only [List.getElem?_toArray, List.getElem?_cons_succ, List.getElem?_cons_zero]; rfl)
                case td34 => exact rfl
                case tg34 => exact rfl
                case ty34 => (intro w hSw; (try dsimp only at hSw); go_split_ands; go_simp; try with_reducible rfl)
                simp only [List.setIfInBounds_toArray, List.set_cons_zero, List.set_cons_succ]
                refine doneG (by kernel_rfl) ?_ _
                clear hHeld
                go_wp2_with fail
                go_meet
                exact ⟨_, _, A7, c7, A8, c8, A9, c9, rfl, rfl, rfl, ⟨hka.keep_grown hgb (by simp; omega), (hO1a.keptE hz7a (by decide) (by decide) hgb).rdl HLn.out⟩, ⟨hkb, (hO3a.keptE hz7a (by decide) (by decide) hgb).rdl HLn'.out⟩, (hO5a.keptE hz7a (by decide) hgb).rd, hSa.grown hgb (by omega) (by intro q hq; simp at hq; omega)⟩
              · refine StepOf.mk 6 (by simp only [List.getElem?_toArray, List.getElem?_cons_succ, List.getElem?_cons_zero]; rfl) (fun K hK => ?_)
                go_simp
                obtain ⟨ws31, hw31⟩ : ∃ wx : World, wx = ws28.alloc (.cells [Value.int .u8 0, .int .u8 0, .slice none 0 0].toArray 24) := ⟨_, rfl⟩
                rw [← hw31]
                have hbs31 : Below ws28.heap.size ws28 ws31 := by rw [hw31]; exact below_new _ _
                have nbs31 : Blk ws31 ws28.heap.size 24 [Value.int .u8 0, .int .u8 0, .slice none 0 0].toArray := by rw [hw31]; exact Blk.new _ _ _
                have szs31 : ws28.heap.size < ws31.heap.size := by rw [hw31]; simp
                clear hw31
                have ges31 : W.heap.size ≤ ws28.heap.size := (hs28).2.2.2.2.2.2.size
                refine hK.out _ _ ?tu31 (fun hs31 => ?_)
                case tu31 => exact keepS _ _ hs28 hbs31
                clear hK K
                have nb7_31 := nb7_28.below hbs31 nb7_28.lt
                have fy1_31 := fy1_28.below hbs31
                have fy3_31 := fx28.below hbs31
                refine stepG 5 (by kernel_rfl) (by simp only [List.getElem?_toArray, List.getElem?_cons_succ, List.getElem?_cons_zero]; rfl) (fun K hK => ?_)
                go_simp
                refine (hr5 _ (hs31).2.2.2.2.2.2).mono ?_
                rintro e ws32 ⟨A9, c9, rfl, fx32, hbs32⟩
                have szs32 := hbs32.size
                refine hK.out _ _ ?tu32 (fun hs32 => ?_)
                case tu32 => exact keepS _ _ hs31 hbs32
                clear hK K
                have nb7_32 := nb7_31.below hbs32 nb7_31.lt
                have nb6_32 := nbs31.below hbs32 nbs31.lt
                have fy1_32 := fy1_31.below hbs32
                have fy3_32 := fy3_31.below hbs32
                have hSB := (hs32).2.2.2.2.2.2
                have hz6 := nb6_32
                have hz7 := nb7_32
                have hO1 := fy1_32
                have hO3 := fy3_32
                have hO5 := fx32
                have hs5 := hSB.size
                clear hHeld
                refine stepG 8 (by kernel_rfl) (by simp only [List.getElem?_toArray, List.getElem?_cons_succ, List.getElem?_cons_zero]; rfl) (fun K hK => ?_)
                refine step_store_blk rfl 24 (.tmp 7) (.tmp 34) rfl rfl (cs := [.int .u8 (k : Int), .int .u8 (l : Int), .slice A7 n c7]) rfl hz6 rfl infoNd (nd_one _ _ _ _ _) ?_
                intro wa hka hga
                refine hK.out _ _ ?ts35 (fun hHeld => ?_)
                case ts35 => ((try dsimp only); exact TR.out _ (hSB.grown hga (by omega) (by intro q hq; simp at hq; omega)))
                clear hK K
                have hz7a := hz7.keep_grown hga (by simp; omega)
                have hSa := hSB.grown hga (by omega) (by intro q hq; simp at hq; omega)
                have hsa := hSa.size
                have hO1a := hO1.keptE hz6 (by decide) (by decide) hga
                have hO3a := hO3.keptE hz6 (by decide) (by decide) hga
                have hO5a := hO5.keptE hz6 (by decide) hga
                clear hHeld
                refine stepG 9 (by kernel_rfl) (by simp only [List.getElem?_toArray, List.getElem?_cons_succ, List.getElem?_cons_zero]; rfl) (fun K hK => ?_)
                refine step_store_blk rfl 24 (.tmp 8) (.tmp 36) rfl rfl (cs := [.int .u8 (k' : Int), .int .u8 (l' : Int), .slice A8 n' c8]) rfl hz7a rfl infoNd (nd_one _ _ _ _ _) ?_
                intro wb hkb hgb
                refine hK.out _ _ ?ts36 (fun hHeld => ?_)
                case ts36 => ((try dsimp only); exact TR.out _ (hSa.grown hgb (by omega) (by intro q hq; simp at hq; omega)))
                clear hK K
                refine' takeV 10 (oi := _) (d := _) (v := _) ?ti37 ?td37 (by kernel_rfl) (by kernel_rfl) (by kernel_rfl) (by kernel_rfl) (by decide) (fun _ _ _ _ _ h => h) ?tg37 ?ty37 (by assumption) ?tr37
                case ti37 => (simp only [List.getElem?_toArray, List.getElem?_cons_succ, List.getElem?_cons_zero]; rfl)
                case td37 => exact rfl
                case tg37 => exact rfl
                case ty37 => (intro w hSw; (try dsimp only at hSw); go_split_ands; go_simp; try with_reducible rfl)
                simp only [List.setIfInBounds_toArray, List.set_cons_zero, List.set_cons_succ]
                refine doneG (by kernel_rfl) ?_ _
                clear hHeld
                go_wp2_with fail
                go_meet
                exact ⟨_, _, A7, c7, A8, c8, A9, c9, rfl, rfl, rfl, ⟨hka.keep_grown hgb (by simp; omega), (hO1a.keptE hz7a (by decide) (by decide) hgb).rdl HLn.out⟩, ⟨hkb, (hO3a.keptE hz7a (by decide) (by decide) hgb).rdl HLn'.out⟩, (hO5a.keptE hz7a (by decide) hgb).rd, hSa.grown hgb (by omega) (by intro q hq; simp at hq; omega)⟩
            · refine StepOf.mk 6 (by simp only [List.getElem?_toArray, List.getElem?_cons_succ, List.getElem?_cons_zero]; rfl) (fun K hK => ?_)
              go_simp
              obtain ⟨ws33, hw33⟩ : ∃ wx : World, wx = ws27.alloc (.cells [Value.int .u8 0, .int .u8 0, .slice none 0 0].toArray 24) := ⟨_, rfl⟩
              rw [← hw33]
              have hbs33 : Below ws27.heap.size ws27 ws33 := by rw [hw33]; exact below_new _ _
              have nbs33 : Blk ws33 ws27.heap.size 24 [Value.int .u8 0, .int .u8 0, .slice none 0 0].toArray := by rw [hw33]; exact Blk.new _ _ _
              have szs33 : ws27.heap.size < ws33.heap.size := by rw [hw33]; simp
              clear hw33
              have ges33 : W.heap.size ≤ ws27.heap.size := (hs27).2.2.2.2.2.2.size
              refine hK.out _ _ ?tu33 (fun hs33 => ?_)
              case tu33 => exact keepS _ _ hs27 hbs33
              clear hK K
              have nb7_33 := nbs27.below hbs33 nbs27.lt
              have fy1_33 := fy1_27.below hbs33
              refine stepG 3 (by kernel_rfl) (by simp only [List.getElem?_toArray, List.getElem?_cons_succ, List.getElem?_cons_zero]; rfl) (fun K hK => ?_)
              go_simp
              refine (hr3 _ (hs33).2.2.2.2.2.2).mono ?_
              rintro e ws34 ⟨A8, c8, rfl, fx34, hbs34⟩
              have szs34 := hbs34.size
              refine hK.out _ _ ?tu34 (fun hs34 => ?_)
              case tu34 => exact keepS _ _ hs33 hbs34
              clear hK K
              have nb7_34 := nb7_33.below hbs34 nb7_33.lt
              have nb6_34 := nbs33.below hbs34 nbs33.lt
              have fy1_34 := fy1_33.below hbs34
              refine stepG 5 (by kernel_rfl) (by simp only [List.getElem?_toArray, List.getElem?_cons_succ, List.getElem?_cons_zero]; rfl) (fun K hK => ?_)
              go_simp
              refine (hr5 _ (hs34).2.2.2.2.2.2).mono ?_
              rintro e ws35 ⟨A9, c9, rfl, fx35, hbs35⟩
              have szs35 := hbs35.size
              refine hK.out _ _ ?tu35 (fun hs35 => ?_)
              case tu35 => exact keepS _ _ hs34 hbs35
              clear hK K
              have nb7_35 := nb7_34.below hbs35 nb7_34.lt
              have nb6_35 := nb6_34.below hbs35 nb6_34.lt
              have fy1_35 := fy1_34.below hbs35
              have fy3_35 := fx34.below hbs35
              have hSB := (hs35).2.2.2.2.2.2
              have hz6 := nb6_35
              have hz7 := nb7_35
              have hO1 := fy1_35
              have hO3 := fy3_35
              have hO5 := fx35
              have hs5 := hSB.size
              clear hHeld
              refine stepG 8 (by kernel_rfl) (by simp only [List.getElem?_toArray, List.getElem?_cons_succ, List.getElem?_cons_zero]; rfl) (fun K hK => ?_)
              refine step_store_blk rfl 24 (.tmp 7) (.tmp 34) rfl rfl (cs := [.int .u8 (k : Int), .int .u8 (l : Int), .slice A7 n c7]) rfl hz6 rfl infoNd (nd_one _ _ _ _ _) ?_
              intro wa hka hga
              refine hK.out _ _ ?ts38 (fun hHeld => ?_)
              case ts38 => ((try dsimp only); exact TR.out _ (hSB.grown hga (by omega) (by intro q hq; simp at hq; omega)))
              clear hK K
              have hz7a := hz7.keep_grown hga (by simp; omega)
              have hSa := hSB.grown hga (by omega) (by intro q hq; simp at hq; omega)
              have hsa := hSa.size
              have hO1a := hO1.keptE hz6 (by decide) (by decide) hga
              have hO3a := hO3.keptE hz6 (by decide) (by decide) hga
              have hO5a := hO5.keptE hz6 (by decide) hga
              clear hHeld
              refine stepG 9 (by kernel_rfl) (by simp only [List.getElem?_toArray, List.getElem?_cons_succ, List.getElem?_cons_zero]; rfl) (fun K hK => ?_)
              refine step_store_blk rfl 24 (.tmp 8) (.tmp 36) rfl rfl (cs := [.int .u8 (k' : Int), .int .u8 (l' : Int), .slice A8 n' c8]) rfl hz7a rfl infoNd (nd_one _ _ _ _ _) ?_
              intro wb hkb hgb
              refine hK.out _ _ ?ts39 (fun hHeld => ?_)
              case ts39 => ((try dsimp only); exact TR.out _ (hSa.grown hgb (by omega) (by intro q hq; simp at hq; omega)))
              clear hK K
              refine' takeV 10 (oi := _) (d := _) (v := _) ?ti40 ?td40 (by kernel_rfl) (by kernel_rfl) (by kernel_rfl) (by kernel_rfl) (by decide) (fun _ _ _ _ _ h => h) ?tg40 ?ty40 (by assumption) ?tr40
              case ti40 => (simp only [List.getElem?_toArray, List.getElem?_cons_succ, List.getElem?_cons_zero]; rfl)
              case td40 => exact rfl
              case tg40 => exact rfl
              case ty40 => (intro w hSw; (try dsimp only at hSw); go_split_ands; go_simp; try with_reducible rfl)
              simp only [List.setIfInBounds_toArray, List.set_cons_zero, List.set_cons_succ]
              refine doneG (by kernel_rfl) ?_ _
              clear hHeld
              go_wp2_with fail
              go_meet
              exact ⟨_, _, A7, c7, A8, c8, A9, c9, rfl, rfl, rfl, ⟨hka.keep_grown hgb (by simp; omega), (hO1a.keptE hz7a (by decide) (by decide) hgb).rdl HLn.out⟩, ⟨hkb, (hO3a.keptE hz7a (by decide) (by decide) hgb).rdl HLn'.out⟩, (hO5a.keptE hz7a (by decide) hgb).rd, hSa.grown hgb (by omega) (by intro q hq; simp at hq; omega)⟩
        · refine StepOf.mk 6 (by simp only [List.getElem?_toArray, List.getElem?_cons_succ, List.getElem?_cons_zero]; rfl) (fun K hK => ?_)
          go_simp
          obtain ⟨ws36, hw36⟩ : ∃ wx : World, wx = V0.alloc (.cells [Value.int .u8 0, .int .u8 0, .slice none 0 0].toArray 24) := ⟨_, rfl⟩
          rw [← hw36]
          have hbs36 : Below V0.heap.size V0 ws36 := by rw [hw36]; exact below_new _ _
          have nbs36 : Blk ws36 V0.heap.size 24 [Value.int .u8 0, .int .u8 0, .slice none 0 0].toArray := by rw [hw36]; exact Blk.new _ _ _
          have szs36 : V0.heap.size < ws36.heap.size := by rw [hw36]; simp
          clear hw36
          have ges36 : W.heap.size ≤ V0.heap.size := (hHeld).2.2.2.2.2.2.size
          refine hK.out _ _ ?tu36 (fun hs36 => ?_)
          case tu36 => exact keepS _ _ hHeld hbs36
          clear hK K
          refine stepG2 1 7 (by kernel_rfl) ?_ ?_
          · refine StepOf.mk 1 (by simp only [List.getElem?_toArray, List.getElem?_cons_succ, List.getElem?_cons_zero]; rfl) (fun K hK => ?_)
            go_simp
            refine (hr1 _ (hs36).2.2.2.2.2.2).mono ?_
            rintro e ws37 ⟨A7, c7, rfl, fx37, hbs37⟩
            have szs37 := hbs37.size
            refine hK.out _ _ ?tu37 (fun hs37 => ?_)
            case tu37 => exact keepS _ _ hs36 hbs37
            clear hK K
            have nb6_37 := nbs36.below hbs37 nbs36.lt
            refine stepG2 3 7 (by kernel_rfl) ?_ ?_
            · refine StepOf.mk 3 (by simp only [List.getElem?_toArray, List.getElem?_cons_succ, List.getElem?_cons_zero]; rfl) (fun K hK => ?_)
              go_simp
              refine (hr3 _ (hs37).2.2.2.2.2.2).mono ?_
              rintro e ws38 ⟨A8, c8, rfl, fx38, hbs38⟩
              have szs38 := hbs38.size
              refine hK.out _ _ ?tu38 (fun hs38 => ?_)
              case tu38 => exact keepS _ _ hs37 hbs38
              clear hK K
              have nb6_38 := nb6_37.below hbs38 nb6_37.lt
              have fy1_38 := fx37.below hbs38
              refine stepG2 5 7 (by kernel_rfl) ?_ ?_
              · refine StepOf.mk 5 (by simp only [List.getElem?_toArray, List.getElem?_cons_succ, List.getElem?_cons_zero]; rfl) (fun K hK => ?_)
                go_simp
                refine (hr5 _ (hs38).2.2.2.2.2.2).mono ?_
                rintro e ws39 ⟨A9, c9, rfl, fx39, hbs39⟩
                have szs39 := hbs39.size
                refine hK.out _ _ ?tu39 (fun hs39 => ?_)
                case tu39 => exact keepS _ _ hs38 hbs39
                clear hK K
                have nb6_39 := nb6_38.below hbs39 nb6_38.lt
                have fy1_39 := fy1_38.below hbs39
                have fy3_39 := fx38.below hbs39
                refine stepG 7 (by kernel_rfl) (by simp only [List.getElem?_toArray, List.getElem?_cons_succ, List.getElem?_cons_zero]; rfl) (fun K hK => ?_)
                go_simp
                obtain ⟨ws40, hw40⟩ : ∃ wx : World, wx = ws39.alloc (.cells [Value.int .u8 0, .int .u8 0, .slice none 0 0].toArray 24) := ⟨_, rfl⟩
                rw [← hw40]
                have hbs40 : Below ws39.heap.size ws39 ws40 := by rw [hw40]; exact below_new _ _
                have nbs40 : Blk ws40 ws39.heap.size 24 [Value.int .u8 0, .int .u8 0, .slice none 0 0].toArray := by rw [hw40]; exact Blk.new _ _ _
                have szs40 : ws39.heap.size < ws40.heap.size := by rw [hw40]; simp
                clear hw40
                have ges40 : W.heap.size ≤ ws39.heap.size := (hs39).2.2.2.2.2.2.size
                refine hK.out _ _ ?tu40 (fun hs40 => ?_)
                case tu40 => exact keepS _ _ hs39 hbs40
                clear hK K
                have nb6_40 := nb6_39.below hbs40 nb6_39.lt
                have fy1_40 := fy1_39.below hbs40
                have fy3_40 := fy3_39.below hbs40
                have fy5_40 := fx39.below hbs40
                have hSB := (hs40).2.2.2.2.2.2
                have hz6 := nb6_40
                have hz7 := nbs40
                have hO1 := fy1_40
                have hO3 := fy3_40
                have hO5 := fy5_40
                have hs5 := hSB.size
                clear hHeld
                refine stepG 8 (by kernel_rfl) (by simp only [List.getElem?_toArray, List.getElem?_cons_succ, List.getElem?_cons_zero]; rfl) (fun K hK => ?_)
                refine step_store_blk rfl 24 (.tmp 7) (.tmp 34) rfl rfl (cs := [.int .u8 (k : Int), .int .u8 (l : Int), .slice A7 n c7]) rfl hz6 rfl infoNd (nd_one _ _ _ _ _) ?_
                intro wa hka hga
                refine hK.out _ _ ?ts41 (fun hHeld => ?_)
                case ts41 => ((try dsimp only); exact TR.out _ (hSB.grown hga (by omega) (by intro q hq; simp at hq; omega)))
                clear hK K
                have hz7a := hz7.keep_grown hga (by simp; omega)
                have hSa := hSB.grown hga (by omega) (by intro q hq; simp at hq; omega)
                have hsa := hSa.size
                have hO1a := hO1.keptE hz6 (by decide) (by decide) hga
                have hO3a := hO3.keptE hz6 (by decide) (by decide) hga
                have hO5a := hO5.keptE hz6 (by decide) hga
                clear hHeld
                refine stepG 9 (by kernel_rfl) (by simp only [List.getElem?_toArray, List.getElem?_cons_succ, List.getElem?_cons_zero]; rfl) (fun K hK => ?_)
                refine step_store_blk rfl 24 (.tmp 8) (.tmp 36) rfl rfl (cs := [.int .u8 (k' : Int), .int .u8 (l' : Int), .slice A8 n' c8]) rfl hz7a rfl infoNd (nd_one _ _ _ _ _) ?_
                intro wb hkb hgb
                refine hK.out _ _ ?ts42 (fun hHeld => ?_)
                case ts42 => ((try dsimp only); exact TR.out _ (hSa.grown hgb (by omega) (by intro q hq; simp at hq; omega)))
                clear hK K
                refine' takeV 10 (oi := _) (d := _) (v := _) ?ti43 ?td43 (by kernel_rfl) (by kernel_rfl) (by kernel_rfl) (by kernel_rfl) (by decide) (fun _ _ _ _ _ h => h) ?tg43 ?ty43 (by assumption) ?tr43
                case ti43 => (simp only [List.getElem?_toArray, List.getElem?_cons_succ, List.getElem?_cons_zero]; rfl)
                case td43 => exact rfl
                case tg43 => exact rfl
                case ty43 => (intro w hSw; (try dsimp only at hSw); go_split_ands; go_simp; try with_reducible rfl)
                simp only [List.setIfInBounds_toArray, List.set_cons_zero, List.set_cons_succ]
                refine doneG (by kernel_rfl) ?_ _
                clear hHeld
                go_wp2_with fail
                go_meet
                exact ⟨_, _, A7, c7, A8, c8, A9, c9, rfl, rfl, rfl, ⟨hka.keep_grown hgb (by simp; omega), (hO1a.keptE hz7a (by decide) (by decide) hgb).rdl HLn.out⟩, ⟨hkb, (hO3a.keptE hz7a (by decide) (by decide) hgb).rdl HLn'.out⟩, (hO5a.keptE hz7a (by decide) hgb).rd, hSa.grown hgb (by omega) (by intro q hq; simp at hq; omega)⟩
              · refine StepOf.mk 7 (by simp only [List.getElem?_toArray, List.getElem?_cons_succ, List.getElem?_cons_zero]; rfl) (fun K hK => ?_)
                go_simp
                obtain ⟨ws41, hw41⟩ : ∃ wx : World, wx = ws38.alloc (.cells [Value.int .u8 0, .int .u8 0, .slice none 0 0].toArray 24) := ⟨_, rfl⟩
                rw [← hw41]
                have hbs41 : Below ws38.heap.size ws38 ws41 := by rw [hw41]; exact below_new _ _
                have nbs41 : Blk ws41 ws38.heap.size 24 [Value.int .u8 0, .int .u8 0, .slice none 0 0].toArray := by rw [hw41]; exact Blk.new _ _ _
                have szs41 : ws38.heap.size < ws41.heap.size := by rw [hw41]; simp
                clear hw41
                have ges41 : W.heap.size ≤ ws38.heap.size := (hs38).2.2.2.2.2.2.size
                refine hK.out _ _ ?tu41 (fun hs41 => ?_)
                case tu41 => exact keepS _ _ hs38 hbs41
                clear hK K
                have nb6_41 := nb6_38.below hbs41 nb6_38.lt
                have fy1_41 := fy1_38.below hbs41
                have fy3_41 := fx38.below hbs41
                refine stepG 5 (by kernel_rfl) (by simp only [List.getElem?_toArray, List.getElem?_cons_succ, List.getElem?_cons_zero]; rfl) (fun K hK => ?_)
                go_simp
                refine (hr5 _ (hs41).2.2.2.2.2.2).mono ?_
                rintro e ws42 ⟨A9, c9, rfl, fx42, hbs42⟩
                have szs42 := hbs42.size
                refine hK.out _ _ ?tu42 (fun hs42 => ?_)
                case tu42 => exact keepS _ _ hs41 hbs42
                clear hK K
                have nb6_42 := nb6_41.below hbs42 nb6_41.lt
                have nb7_42 := nbs41.below hbs42 nbs41.lt
                have fy1_42 := fy1_41.below hbs42
                have fy3_42 := fy3_41.below hbs42
                have hSB := (hs42).2.2.2.2.2.2
                have hz6 := nb6_42
                have hz7 := nb7_42
                have hO1 := fy1_42
                have hO3 := fy3_42
                have hO5 := fx42
                have hs5 := hSB.size
                clear hHeld
                refine stepG 8 (by kernel_rfl) (by simp only [List.getElem?_toArray, List.getElem?_cons_succ, List.getElem?_cons_zero]; rfl) (fun K hK => ?_)
                refine step_store_blk rfl 24 (.tmp 7) (.tmp 34) rfl rfl (cs := [.int .u8 (k : Int), .int .u8 (l : Int), .slice A7 n c7]) rfl hz6 rfl infoNd (nd_one _ _ _ _ _) ?_
                intro wa hka hga
                refine hK.out _ _ ?ts44 (fun hHeld => ?_)
                case ts44 => ((try dsimp only); exact TR.out _ (hSB.grown hga (by omega) (by intro q hq; simp at hq; omega)))
                clear hK K
                have hz7a := hz7.keep_grown hga (by simp; omega)
                have hSa := hSB.grown hga (by omega) (by intro q hq; simp at hq; omega)
                have hsa := hSa.size
                have hO1a := hO1.keptE hz6 (by decide) (by decide) hga
                have hO3a := hO3.keptE hz6 (by decide) (by decide) hga
                have hO5a := hO5.keptE hz6 (by decide) hga
                clear hHeld
                refine stepG 9 (by kernel_rfl) (by simp only [List.getElem?_toArray, List.getElem?_cons_succ, List.getElem?_cons_zero]; rfl) (fun K hK => ?_)
                refine step_store_blk rfl 24 (.tmp 8) (.tmp 36) rfl rfl (cs := [.int .u8 (k' : Int), .int .u8 (l' : Int), .slice A8 n' c8]) rfl hz7a rfl infoNd (nd_one _ _ _ _ _) ?_
                intro wb hkb hgb
                refine hK.out _ _ ?ts45 (fun hHeld => ?_)
                case ts45 => ((try dsimp only); exact TR.out _ (hSa.grown hgb (by omega) (by intro q hq; simp at hq; omega)))
                clear hK K
                refine' takeV 10 (oi := _) (d := _) (v := _) ?ti46 ?td46 (by kernel_rfl) (by kernel_rfl) (by kernel_rfl) (by kernel_rfl) (by decide) (fun _ _ _ _ _ h => h) ?tg46 ?ty46 (by assumption) ?tr46
                case ti46 => (simp only [List.getElem?_toArray, List.getElem?_cons_succ, List.getElem?_cons_zero]; rfl)
                case td46 => exact rfl
                case tg46 => exact rfl
                case ty46 => (intro w hSw; (try dsimp only at hSw); go_split_ands; go_simp; try with_reducible rfl)
                simp only [List.setIfInBounds_toArray, List.set_cons_zero, List.set_cons_succ]
                refine doneG (by kernel_rfl) ?_ _
                clear hHeld
                go_wp2_with fail
                go_meet
                exact ⟨_, _, A7, c7, A8, c8, A9, c9, rfl, rfl, rfl, ⟨hka.keep_grown hgb (by simp; omega), (hO1a.keptE hz7a (by decide) (by decide) hgb).rdl HLn.out⟩, ⟨hkb, (hO3a.keptE hz7a (by decide) (by decide) hgb).rdl HLn'.out⟩, (hO5a.keptE hz7a (by decide) hgb).rd, hSa.grown hgb (by omega) (by intro q hq; simp at hq; omega)⟩
            · refine StepOf.mk 7 (by simp only [List.getElem?_toArray, List.getElem?_cons_succ, List.getElem?_cons_zero]; rfl) (fun K hK => ?_)
              go_simp
              obtain ⟨ws43, hw43⟩ : ∃ wx : World, wx = ws37.alloc (.cells [Value.int .u8 0, .int .u8 0, .slice none 0 0].toArray 24) := ⟨_, rfl⟩
              rw [← hw43]
              have hbs43 : Below ws37.heap.size ws37 ws43 := by rw [hw43]; exact below_new _ _
              have nbs43 : Blk ws43 ws37.heap.size 24 [Value.int .u8 0, .int .u8 0, .slice none 0 0].toArray := by rw [hw43]; exact Blk.new _ _ _
              have szs43 : ws37.heap.size < ws43.heap.size := by rw [hw43]; simp
              clear hw43
              have ges43 : W.heap.size ≤ ws37.heap.size := (hs37).2.2.2.2.2.2.size
              refine hK.out _ _ ?tu43 (fun hs43 => ?_)
              case tu43 => exact keepS _ _ hs37 hbs43
              clear hK K
              have nb6_43 := nb6_37.below hbs43 nb6_37.lt
              have fy1_43 := fx37.below hbs43
              refine stepG 3 (by kernel_rfl) (by simp only [List.getElem?_toArray, List.getElem?_cons_succ, List.getElem?_cons_zero]; rfl) (fun K hK => ?_)
              go_simp
              refine (hr3 _ (hs43).2.2.2.2.2.2).mono ?_
              rintro e ws44 ⟨A8, c8, rfl, fx44, hbs44⟩
              have szs44 := hbs44.size
              refine hK.out _ _ ?tu44 (fun hs44 => ?_)
              case tu44 => exact keepS _ _ hs43 hbs44
              clear hK K
              have nb6_44 := nb6_43.below hbs44 nb6_43.lt
              have nb7_44 := nbs43.below hbs44 nbs43.lt
              have fy1_44 := fy1_43.below hbs44
              refine stepG 5 (by kernel_rfl) (by simp only [List.getElem?_toArray, List.getElem?_cons_succ, List.getElem?_cons_zero]; rfl) (fun K hK => ?_)
              go_simp
              refine (hr5 _ (hs44).2.2.2.2.2.2).mono ?_
              rintro e ws45 ⟨A9, c9, rfl, fx45, hbs45⟩
              have szs45 := hbs45.size
              refine hK.out _ _ ?tu45 (fun hs45 => ?_)
              case tu45 => exact keepS _ _ hs44 hbs45
              clear hK K
              have nb6_45 := nb6_44.below hbs45 nb6_44.lt
              have nb7_45 := nb7_44.below hbs45 nb7_44.lt
              have fy1_45 := fy1_44.below hbs45
              have fy3_45 := fx44.below hbs45
              have hSB := (hs45).2.2.2.2.2.2
              have hz6 := nb6_45
              have hz7 := nb7_45
              have hO1 := fy1_45
              have hO3 := fy3_45
              have hO5 := fx45
              have hs5 := hSB.size
              clear hHeld
              refine stepG 8 (by kernel_rfl) (by simp only [List.getElem?_toArray, List.getElem?_cons_succ, List.getElem?_cons_zero]; rfl) (fun K hK => ?_)
              refine step_store_blk rfl 24 (.tmp 7) (.tmp 34) rfl rfl (cs := [.int .u8 (k : Int), .int .u8 (l : Int), .slice A7 n c7]) rfl hz6 rfl infoNd (nd_one _ _ _ _ _) ?_
              intro wa hka hga
              refine hK.out _ _ ?ts47 (fun hHeld => ?_)
              case ts47 => ((try dsimp only); exact TR.out _ (hSB.grown hga (by omega) (by intro q hq; simp at hq; omega)))
              clear hK K
              have hz7a := hz7.keep_grown hga (by simp; omega)
              have hSa := hSB.grown hga (by omega) (by intro q hq; simp at hq; omega)
              have hsa := hSa.size
              have hO1a := hO1.keptE hz6 (by decide) (by decide) hga
              have hO3a := hO3.keptE hz6 (by decide) (by decide) hga
              have hO5a := hO5.keptE hz6 (by decide) hga
              clear hHeld
              refine stepG 9 (by kernel_rfl) (by simp only [List.getElem?_toArray, List.getElem?_cons_succ, List.getElem?_cons_zero]; rfl) (fun K hK => ?_)
              refine step_store_blk rfl 24 (.tmp 8) (.tmp 36) rfl rfl (cs := [.int .u8 (k' : Int), .int .u8 (l' : Int), .slice A8 n' c8]) rfl hz7a rfl infoNd (nd_one _ _ _ _ _) ?_
              intro wb hkb hgb
              refine hK.out _ _ ?ts48 (fun hHeld => ?_)
              case ts48 => ((try dsimp only); exact TR.out _ (hSa.grown hgb (by omega) (by intro q hq; simp at hq; omega)))
              clear hK K
              refine' takeV 10 (oi := _) (d := _) (v := _) ?ti49 ?td49 (by kernel_rfl) (by kernel_rfl) (by kernel_rfl) (by kernel_rfl) (by decide) (fun _ _ _ _ _ h => h) ?tg49 ?ty49 (by assumption) ?tr49
              case ti49 => (simp only [List.getElem?_toArray, List.getElem?_cons_succ, List.getElem?_cons_zero]; rfl)
              case td49 => exact rfl
              case tg49 => exact rfl
              case ty49 => (intro w hSw; (try dsimp only at hSw); go_split_ands; go_simp; try with_reducible rfl)
              simp only [List.setIfInBounds_toArray, List.set_cons_zero, List.set_cons_succ]
              refine doneG (by kernel_rfl) ?_ _
              clear hHeld
              go_wp2_with fail
              go_meet
              exact ⟨_, _, A7, c7, A8, c8, A9, c9, rfl, rfl, rfl, ⟨hka.keep_grown hgb (by simp; omega), (hO1a.keptE hz7a (by decide) (by decide) hgb).rdl HLn.out⟩, ⟨hkb, (hO3a.keptE hz7a (by decide) (by decide) hgb).rdl HLn'.out⟩, (hO5a.keptE hz7a (by decide) hgb).rd, hSa.grown hgb (by omega) (by intro q hq; simp at hq; omega)⟩
          · refine StepOf.mk 7 (by simp only [List.getElem?_toArray, List.getElem?_cons_succ, List.getElem?_cons_zero]; rfl) (fun K hK => ?_)
            go_simp
            obtain ⟨ws46, hw46⟩ : ∃ wx : World, wx = ws36.alloc (.cells [Value.int .u8 0, .int .u8 0, .slice none 0 0].toArray 24) := ⟨_, rfl⟩
            rw [← hw46]
            have hbs46 : Below ws36.heap.size ws36 ws46 := by rw [hw46]; exact below_new _ _
            have nbs46 : Blk ws46 ws36.heap.size 24 [Value.int .u8 0, .int .u8 0, .slice none 0 0].toArray := by rw [hw46]; exact Blk.new _ _ _
            have szs46 : ws36.heap.size < ws46.heap.size := by rw [hw46]; simp
            clear hw46
            have ges46 : W.heap.size ≤ ws36.heap.size := (hs36).2.2.2.2.2.2.size
            refine hK.out _ _ ?tu46 (fun hs46 => ?_)
            case tu46 => exact keepS _ _ hs36 hbs46
            clear hK K
            have nb6_46 := nbs36.below hbs46 nbs36.lt
            refine stepG 1 (by kernel_rfl) (by simp only [List.getElem?_toArray, List.getElem?_cons_succ, List.getElem?_cons_zero]; rfl) (fun K hK => ?_)
            go_simp
            refine (hr1 _ (hs46).2.2.2.2.2.2).mono ?_
            rintro e ws47 ⟨A7, c7, rfl, fx47, hbs47⟩
            have szs47 := hbs47.size
            refine hK.out _ _ ?tu47 (fun hs47 => ?_)
            case tu47 => exact keepS _ _ hs46 hbs47
            clear hK K
            have nb6_47 := nb6_46.below hbs47 nb6_46.lt
            have nb7_47 := nbs46.below hbs47 nbs46.lt
            refine stepG 3 (by kernel_rfl) (by simp only [List.getElem?_toArray, List.getElem?_cons_succ, List.getElem?_cons_zero]; rfl) (fun K hK => ?_)
            go_simp
            refine (hr3 _ (hs47).2.2.2.2.2.2).mono ?_
            rintro e ws48 ⟨A8, c8, rfl, fx48, hbs48⟩
            have szs48 := hbs48.size
            refine hK.out _ _ ?tu48 (fun hs48 => ?_)
            case tu48 => exact keepS _ _ hs47 hbs48
            clear hK K
            have nb6_48 := nb6_47.below hbs48 nb6_47.lt
            have nb7_48 := nb7_47.below hbs48 nb7_47.lt
            have fy1_48 := fx47.below hbs48
            refine stepG 5 (by kernel_rfl) (by simp only [List.getElem?_toArray, List.getElem?_cons_succ, List.getElem?_cons_zero]; rfl) (fun K hK => ?_)
            go_simp
            refine (hr5 _ (hs48).2.2.2.2.2.2).mono ?_
            rintro e ws49 ⟨A9, c9, rfl, fx49, hbs49⟩
            have szs49 := hbs49.size
            refine hK.out _ _ ?tu49 (fun hs49 => ?_)
            case tu49 => exact keepS _ _ hs48 hbs49
            clear hK K
            have nb6_49 := nb6_48.below hbs49 nb6_48.lt
            have nb7_49 := nb7_48.below hbs49 nb7_48.lt
            have fy1_49 := fy1_48.below hbs49
            have fy3_49 := fx48.below hbs49
            have hSB := (hs49).2.2.2.2.2.2
            have hz6 := nb6_49
            have hz7 := nb7_49
            have hO1 := fy1_49
            have hO3 := fy3_49
            have hO5 := fx49
            have hs5 := hSB.size
            clear hHeld
            refine stepG 8 (by kernel_rfl) (by simp only [List.getElem?_toArray, List.getElem?_cons_succ, List.getElem?_cons_zero]; rfl) (fun K hK => ?_)
            refine step_store_blk rfl 24 (.tmp 7) (.tmp 34) rfl rfl (cs := [.int .u8 (k : Int), .int .u8 (l : Int), .slice A7 n c7]) rfl hz6 rfl infoNd (nd_one _ _ _ _ _) ?_
            intro wa hka hga
            refine hK.out _ _ ?ts50 (fun hHeld => ?_)
            case ts50 => ((try dsimp only); exact TR.out _ (hSB.grown hga (by omega) (by intro q hq; simp at hq; omega)))
            clear hK K
            have hz7a := hz7.keep_grown hga (by simp; omega)
            have hSa := hSB.grown hga (by omega) (by intro q hq; simp at hq; omega)
            have hsa := hSa.size
            have hO1a := hO1.keptE hz6 (by decide) (by decide) hga
            have hO3a := hO3.keptE hz6 (by decide) (by decide) hga
            have hO5a := hO5.keptE hz6 (by decide) hga
            clear hHeld
            refine stepG 9 (by kernel_rfl) (by simp only [List.getElem?_toArray, List.getElem?_cons_succ, List.getElem?_cons_zero]; rfl) (fun K hK => ?_)
            refine step_store_blk rfl 24 (.tmp 8) (.tmp 36) rfl rfl (cs := [.int .u8 (k' : Int), .int .u8 (l' : Int), .slice A8 n' c8]) rfl hz7a rfl infoNd (nd_one _ _ _ _ _) ?_
            intro wb hkb hgb
            refine hK.out _ _ ?ts51 (fun hHeld => ?_)
            case ts51 => ((try dsimp only); exact TR.out _ (hSa.grown hgb (by omega) (by intro q hq; simp at hq; omega)))
            clear hK K
            refine' takeV 10 (oi := _) (d := _) (v := _) ?ti52 ?td52 (by kernel_rfl) (by kernel_rfl) (by kernel_rfl) (by kernel_rfl) (by decide) (fun _ _ _ _ _ h => h) ?tg52 ?ty52 (by assumption) ?tr52
            case ti52 => (simp only [List.getElem?_toArray, List.getElem?_cons_succ, List.getElem?_cons_zero]; rfl)
            case td52 => exact rfl
            case tg52 => exact rfl
            case ty52 => (intro w hSw; (try dsimp only at hSw); go_split_ands; go_simp; try with_reducible rfl)
            simp only [List.setIfInBounds_toArray, List.set_cons_zero, List.set_cons_succ]
            refine doneG (by kernel_rfl) ?_ _
            clear hHeld
            go_wp2_with fail
            go_meet
            exact ⟨_, _, A7, c7, A8, c8, A9, c9, rfl, rfl, rfl, ⟨hka.keep_grown hgb (by simp; omega), (hO1a.keptE hz7a (by decide) (by decide) hgb).rdl HLn.out⟩, ⟨hkb, (hO3a.keptE hz7a (by decide) (by decide) hgb).rdl HLn'.out⟩, (hO5a.keptE hz7a (by decide) hgb).rd, hSa.grown hgb (by omega) (by intro q hq; simp at hq; omega)⟩
        · refine StepOf.mk 7 (by simp only [List.getElem?_toArray, List.getElem?_cons_succ, List.getElem?_cons_zero]; rfl) (fun K hK => ?_)
          go_simp
          obtain ⟨ws50, hw50⟩ : ∃ wx : World, wx = V0.alloc (.cells [Value.int .u8 0, .int .u8 0, .slice none 0 0].toArray 24) := ⟨_, rfl⟩
          rw [← hw50]
          have hbs50 : Below V0.heap.size V0 ws50 := by rw [hw50]; exact below_new _ _
          have nbs50 : Blk ws50 V0.heap.size 24 [Value.int .u8 0, .int .u8 0, .slice none 0 0].toArray := by rw [hw50]; exact Blk.new _ _ _
          have szs50 : V0.heap.size < ws50.heap.size := by rw [hw50]; simp
          clear hw50
          have ges50 : W.heap.size ≤ V0.heap.size := (hHeld).2.2.2.2.2.2.size
          refine hK.out _ _ ?tu50 (fun hs50 => ?_)
          case tu50 => exact keepS _ _ hHeld hbs50
          clear hK K
          refine stepG2 1 6 (by kernel_rfl) ?_ ?_
          · refine StepOf.mk 1 (by simp only [List.getElem?_toArray, List.getElem?_cons_succ, List.getElem?_cons_zero]; rfl) (fun K hK => ?_)
            go_simp
            refine (hr1 _ (hs50).2.2.2.2.2.2).mono ?_
            rintro e ws51 ⟨A7, c7, rfl, fx51, hbs51⟩
            have szs51 := hbs51.size
            refine hK.out _ _ ?tu51 (fun hs51 => ?_)
            case tu51 => exact keepS _ _ hs50 hbs51
            clear hK K
            have nb7_51 := nbs50.below hbs51 nbs50.lt
            refine stepG2 3 6 (by kernel_rfl) ?_ ?_
            · refine StepOf.mk 3 (by simp only [List.getElem?_toArray, List.getElem?_cons_succ, List.getElem?_cons_zero]; rfl) (fun K hK => ?_)
              go_simp
              refine (hr3 _ (hs51).2.2.2.2.2.2).mono ?_
              rintro e ws52 ⟨A8, c8, rfl, fx52, hbs52⟩
              have szs52 := hbs52.size
              refine hK.out _ _ ?tu52 (fun hs52 => ?_)
              case tu52 => exact keepS _ _ hs51 hbs52
              clear hK K
              have nb7_52 := nb7_51.below hbs52 nb7_51.lt
              have fy1_52 := fx51.below hbs52
              refine stepG2 5 6 (by kernel_rfl) ?_ ?_
              · refine StepOf.mk 5 (by simp only [List.getElem?_toArray, List.getElem?_cons_succ, List.getElem?_cons_zero]; rfl) (fun K hK => ?_)
                go_simp
                refine (hr5 _ (hs52).2.2.2.2.2.2).mono ?_
                rintro e ws53 ⟨A9, c9, rfl, fx53, hbs53⟩
                have szs53 := hbs53.size
                refine hK.out _ _ ?tu53 (fun hs53 => ?_)
                case tu53 => exact keepS _ _ hs52 hbs53
                clear hK K
                have nb7_53 := nb7_52.below hbs53 nb7_52.lt
                have fy1_53 := fy1_52.below hbs53
                have fy3_53 := fx52.below hbs53
                refine stepG 6 (by kernel_rfl) (by simp only [List.getElem?_toArray, List.getElem?_cons_succ, List.getElem?_cons_zero]; rfl) (fun K hK => ?_)
                go_simp
                obtain ⟨ws54, hw54⟩ : ∃ wx : World, wx = ws53.alloc (.cells [Value.int .u8 0, .int .u8 0, .slice none 0 0].toArray 24) := ⟨_, rfl⟩
                rw [← hw54]
                have hbs54 : Below ws53.heap.size ws53 ws54 := by rw [hw54]; exact below_new _ _
                have nbs54 : Blk ws54 ws53.heap.size 24 [Value.int .u8 0, .int .u8 0, .slice none 0 0].toArray := by rw [hw54]; exact Blk.new _ _ _
                have szs54 : ws53.heap.size < ws54.heap.size := by rw [hw54]; simp
                clear hw54
                have ges54 : W.heap.size ≤ ws53.heap.size := (hs53).2.2.2.2.2.2.size
                refine hK.out _ _ ?tu54 (fun hs54 => ?_)
                case tu54 => exact keepS _ _ hs53 hbs54
                clear hK K
                have nb7_54 := nb7_53.below hbs54 nb7_53.lt
                have fy1_54 := fy1_53.below hbs54
                have fy3_54 := fy3_53.below hbs54
                have fy5_54 := fx53.below hbs54
                have hSB := (hs54).2.2.2.2.2.2
                have hz6 := nbs54
                have hz7 := nb7_54
                have hO1 := fy1_54
                have hO3 := fy3_54
                have hO5 := fy5_54
                have hs5 := hSB.size
                clear hHeld
                refine stepG 8 (by kernel_rfl) (by simp only [List.getElem?_toArray, List.getElem?_cons_succ, List.getElem?_cons_zero]; rfl) (fun K hK => ?_)
                refine step_store_blk rfl 24 (.tmp 7) (.tmp 34) rfl rfl (cs := [.int .u8 (k : Int), .int .u8 (l : Int), .slice A7 n c7]) rfl hz6 rfl infoNd (nd_one _ _ _ _ _) ?_
                intro wa hka hga
                refine hK.out _ _ ?ts53 (fun hHeld => ?_)
                case ts53 => ((try dsimp only); exact TR.out _ (hSB.grown hga (by omega) (by intro q hq; simp at hq; omega)))
                clear hK K
                have hz7a := hz7.keep_grown hga (by simp; omega)
                have hSa := hSB.grown hga (by omega) (by intro q hq; simp at hq; omega)
                have hsa := hSa.size
                have hO1a := hO1.keptE hz6 (by decide) (by decide) hga
                have hO3a := hO3.keptE hz6 (by decide) (by decide) hga
                have hO5a := hO5.keptE hz6 (by decide) hga
                clear hHeld
                refine stepG 9 (by kernel_rfl) (by simp only [List.getElem?_toArray, List.getElem?_cons_succ, List.getElem?_cons_zero]; rfl) (fun K hK => ?_)
                refine step_store_blk rfl 24 (.tmp 8) (.tmp 36) rfl rfl (cs := [.int .u8 (k' : Int), .int .u8 (l' : Int), .slice A8 n' c8]) rfl hz7a rfl infoNd (nd_one _ _ _ _ _) ?_
                intro wb hkb hgb
                refine hK.out _ _ ?ts54 (fun hHeld => ?_)
                case ts54 => ((try dsimp only); exact TR.out _ (hSa.grown hgb (by omega) (by intro q hq; simp at hq; omega)))
                clear hK K
                refine' takeV 10 (oi := _) (d := _) (v := _) ?ti55 ?td55 (by kernel_rfl) (by kernel_rfl) (by kernel_rfl) (by kernel_rfl) (by decide) (fun _ _ _ _ _ h => h) ?tg55 ?ty55 (by assumption) ?tr55
                case ti55 => (simp only [List.getElem?_toArray, List.getElem?_cons_succ, List.getElem?_cons_zero]; rfl)
                case td55 => exact rfl
                case tg55 => exact rfl
                case ty55 => (intro w hSw; (try dsimp only at hSw); go_split_ands; go_simp; try with_reducible rfl)
                simp only [List.setIfInBounds_toArray, List.set_cons_zero, List.set_cons_succ]
                refine doneG (by kernel_rfl) ?_ _
                clear hHeld
                go_wp2_with fail
                go_meet
                exact ⟨_, _, A7, c7, A8, c8, A9, c9, rfl, rfl, rfl, ⟨hka.keep_grown hgb (by simp; omega), (hO1a.keptE hz7a (by decide) (by decide) hgb).rdl HLn.out⟩, ⟨hkb, (hO3a.keptE hz7a (by decide) (by decide) hgb).rdl HLn'.out⟩, (hO5a.keptE hz7a (by decide) hgb).rd, hSa.grown hgb (by omega) (by intro q hq; simp at hq; omega)⟩
              · refine StepOf.mk 6 (by simp only [List.getElem?_toArray, List.getElem?_cons_succ, List.getElem?_cons_zero]; rfl) (fun K hK => ?_)
                go_simp
                obtain ⟨ws55, hw55⟩ : ∃ wx : World, wx = ws52.alloc (.cells [Value.int .u8 0, .int .u8 0, .slice none 0 0].toArray 24) := ⟨_, rfl⟩
                rw [← hw55]
                have hbs55 : Below ws52.heap.size ws52 ws55 := by rw [hw55]; exact below_new _ _
                have nbs55 : Blk ws55 ws52.heap.size 24 [Value.int .u8 0, .int .u8 0, .slice none 0 0].toArray := by rw [hw55]; exact Blk.new _ _ _
                have szs55 : ws52.heap.size < ws55.heap.size := by rw [hw55]; simp
                clear hw55
                have ges55 : W.heap.size ≤ ws52.heap.size := (hs52).2.2.2.2.2.2.size
                refine hK.out _ _ ?tu55 (fun hs55 => ?_)
                case tu55 => exact keepS _ _ hs52 hbs55
                clear hK K
                have nb7_55 := nb7_52.below hbs55 nb7_52.lt
                have fy1_55 := fy1_52.below hbs55
                have fy3_55 := fx52.below hbs55
                refine stepG 5 (by kernel_rfl) (by simp only [List.getElem?_toArray, List.getElem?_cons_succ, List.getElem?_cons_zero]; rfl) (fun K hK => ?_)
                go_simp
                refine (hr5 _ (hs55).2.2.2.2.2.2).mono ?_
                rintro e ws56 ⟨A9, c9, rfl, fx56, hbs56⟩
                have szs56 := hbs56.size
                refine hK.out _ _ ?tu56 (fun hs56 => ?_)
                case tu56 => exact keepS _ _ hs55 hbs56
                clear hK K
                have nb7_56 := nb7_55.below hbs56 nb7_55.lt
                have nb6_56 := nbs55.below hbs56 nbs55.lt
                have fy1_56 := fy1_55.below hbs56
                have fy3_56 := fy3_55.below hbs56
                have hSB := (hs56).2.2.2.2.2.2
                have hz6 := nb6_56
                have hz7 := nb7_56
                have hO1 := fy1_56
                have hO3 := fy3_56
                have hO5 := fx56
                have hs5 := hSB.size
                clear hHeld
                refine stepG 8 (by kernel_rfl) (by simp only [List.getElem?_toArray, List.getElem?_cons_succ, List.getElem?_cons_zero]; rfl) (fun K hK => ?_)
                refine step_store_blk rfl 24 (.tmp 7) (.tmp 34) rfl rfl (cs := [.int .u8 (k : Int), .int .u8 (l : Int), .slice A7 n c7]) rfl hz6 rfl infoNd (nd_one _ _ _ _ _) ?_
                intro wa hka hga
                refine hK.out _ _ ?ts56 (fun hHeld => ?_)
                case ts56 => ((try dsimp only); exact TR.out _ (hSB.grown hga (by omega) (by intro q hq; simp at hq; omega)))
                clear hK K
                have hz7a := hz7.keep_grown hga (by simp; omega)
                have hSa := hSB.grown hga (by omega) (by intro q hq; simp at hq; omega)
                have hsa := hSa.size
                have hO1a := hO1.keptE hz6 (by decide) (by decide) hga
                have hO3a := hO3.keptE hz6 (by decide) (by decide) hga
                have hO5a := hO5.keptE hz6 (by decide) hga
                clear hHeld
                refine stepG 9 (by kernel_rfl) (by simp only [List.getElem?_toArray, List.getElem?_cons_succ, List.getElem?_cons_zero]; rfl) (fun K hK => ?_)
                refine step_store_blk rfl 24 (.tmp 8) (.tmp 36) rfl rfl (cs := [.int .u8 (k' : Int), .int .u8 (l' : Int), .slice A8 n' c8]) rfl hz7a rfl infoNd (nd_one _ _ _ _ _) ?_
                intro wb hkb hgb
                refine hK.out _ _ ?ts57 (fun hHeld => ?_)
                case ts57 => ((try dsimp only); exact TR.out _ (hSa.grown hgb (by omega) (by intro q hq; simp at hq; omega)))
                clear hK K
                refine' takeV 10 (oi := _) (d := _) (v := _) ?ti58 ?td58 (by kernel_rfl) (by kernel_rfl) (by kernel_rfl) (by kernel_rfl) (by decide) (fun _ _ _ _ _ h => h) ?tg58 ?ty58 (by assumption) ?tr58
                case ti58 => (simp only [List.getElem?_toArray, List.getElem?_cons_succ, List.getElem?_cons_zero]; rfl)
                case td58 => exact rfl
                case tg58 => exact rfl
                case ty58 => (intro w hSw; (try dsimp only at hSw); go_split_ands; go_simp; try with_reducible rfl)
                simp only [List.setIfInBounds_toArray, List.set_cons_zero, List.set_cons_succ]
                refine doneG (by kernel_rfl) ?_ _
                clear hHeld
                go_wp2_with fail
                go_meet
                exact ⟨_, _, A7, c7, A8, c8, A9, c9, rfl, rfl, rfl, ⟨hka.keep_grown hgb (by simp; omega), (hO1a.keptE hz7a (by decide) (by decide) hgb).rdl HLn.out⟩, ⟨hkb, (hO3a.keptE hz7a (by decide) (by decide) hgb).rdl HLn'.out⟩, (hO5a.keptE hz7a (by decide) hgb).rd, hSa.grown hgb (by omega) (by intro q hq; simp at hq; omega)⟩
            · refine StepOf.mk 6 (by simp only [List.getElem?_toArray, List.getElem?_cons_succ, List.getElem?_cons_zero]; rfl) (fun K hK => ?_)
              go_simp
              obtain ⟨ws57, hw57⟩ : ∃ wx : World, wx = ws51.alloc (.cells [Value.int .u8 0, .int .u8 0, .slice none 0 0].toArray 24) := ⟨_, rfl⟩
              rw [← hw57]
              have hbs57 : Below ws51.heap.size ws51 ws57 := by rw [hw57]; exact below_new _ _
              have nbs57 : Blk ws57 ws51.heap.size 24 [Value.int .u8 0, .int .u8 0, .slice none 0 0].toArray := by rw [hw57]; exact Blk.new _ _ _
              have szs57 : ws51.heap.size < ws57.heap.size := by rw [hw57]; simp
              clear hw57
              have ges57 : W.heap.size ≤ ws51.heap.size := (hs51).2.2.2.2.2.2.size
              refine hK.out _ _ ?tu57 (fun hs57 => ?_)
              case tu57 => exact keepS _ _ hs51 hbs57
              clear hK K
              have nb7_57 := nb7_51.below hbs57 nb7_51.lt
              have fy1_57 := fx51.below hbs57
              refine stepG 3 (by kernel_rfl) (by simp only [List.getElem?_toArray, List.getElem?_cons_succ, List.getElem?_cons_zero]; rfl) (fun K hK => ?_)
              go_simp
              refine (hr3 _ (hs57).2.2.2.2.2.2).mono ?_
              rintro e ws58 ⟨A8, c8, rfl, fx58, hbs58⟩
              have szs58 := hbs58.size
              refine hK.out _ _ ?tu58 (fun hs58 => ?_)
              case tu58 => exact keepS _ _ hs57 hbs58
              clear hK K
              have nb7_58 := nb7_57.below hbs58 nb7_57.lt
              have nb6_58 := nbs57.below hbs58 nbs57.lt
              have fy1_58 := fy1_57.below hbs58
              refine stepG 5 (by kernel_rfl) (by simp only [List.getElem?_toArray, List.getElem?_cons_succ, List.getElem?_cons_zero]; rfl) (fun K hK => ?_)
              go_simp
              refine (hr5 _ (hs58).2.2.2.2.2.2).mono ?_
              rintro e ws59 ⟨A9, c9, rfl, fx59, hbs59⟩
              have szs59 := hbs59.size
              refine hK.out _ _ ?tu59 (fun hs59 => ?_)
              case tu59 => exact keepS _ _ hs58 hbs59
              clear hK K
              have nb7_59 := nb7_58.below hbs59 nb7_58.lt
              have nb6_59 := nb6_58.below hbs59 nb6_58.lt
              have fy1_59 := fy1_58.below hbs59
              have fy3_59 := fx58.below hbs59
              have hSB := (hs59).2.2.2.2.2.2
              have hz6 := nb6_59
              have hz7 := nb7_59
              have hO1 := fy1_59
              have hO3 := fy3_59
              have hO5 := fx59
              have hs5 := hSB.size
              clear hHeld
              refine stepG 8 (by kernel_rfl) (by simp only [List.getElem?_toArray, List.getElem?_cons_succ, List.getElem?_cons_zero]; rfl) (fun K hK => ?_)
              refine step_store_blk rfl 24 (.tmp 7) (.tmp 34) rfl rfl (cs := [.int .u8 (k : Int), .int .u8 (l : Int), .slice A7 n c7]) rfl hz6 rfl infoNd (nd_one _ _ _ _ _) ?_
              intro wa hka hga
              refine hK.out _ _ ?ts59 (fun hHeld => ?_)
              case ts59 => ((try dsimp only); exact TR.out _ (hSB.grown hga (by omega) (by intro q hq; simp at hq; omega)))
              clear hK K
              have hz7a := hz7.keep_grown hga (by simp; omega)
              have hSa := hSB.grown hga (by omega) (by intro q hq; simp at hq; omega)
              have hsa := hSa.size
              have hO1a := hO1.keptE hz6 (by decide) (by decide) hga
              have hO3a := hO3.keptE hz6 (by decide) (by decide) hga
              have hO5a := hO5.keptE hz6 (by decide) hga
              clear hHeld
              refine stepG 9 (by kernel_rfl) (by simp only [List.getElem?_toArray, List.getElem?_cons_succ, List.getElem?_cons_zero]; rfl) (fun K hK => ?_)
              refine step_store_blk rfl 24 (.tmp 8) (.tmp 36) rfl rfl (cs := [.int .u8 (k' : Int), .int .u8 (l' : Int), .slice A8 n' c8]) rfl hz7a rfl infoNd (nd_one _ _ _ _ _) ?_
              intro wb hkb hgb
              refine hK.out _ _ ?ts60 (fun hHeld => ?_)
              case ts60 => ((try dsimp only); exact TR.out _ (hSa.grown hgb (by omega) (by intro q hq; simp at hq; omega)))
              clear hK K
              refine' takeV 10 (oi := _) (d := _) (v := _) ?ti61 ?td61 (by kernel_rfl) (by kernel_rfl) (by kernel_rfl) (by kernel_rfl) (by decide) (fun _ _ _ _ _ h => h) ?tg61 ?ty61 (by assumption) ?tr61
              case ti61 => (simp only [List.getElem?_toArray, List.getElem?_cons_succ, List.getElem?_cons_zero]; rfl)
              case td61 => exact rfl
              case tg61 => exact rfl
              case ty61 => (intro w hSw; (try dsimp only at hSw); go_split_ands; go_simp; try with_reducible rfl)
              simp only [List.setIfInBounds_toArray, List.set_cons_zero, List.set_cons_succ]
              refine doneG (by kernel_rfl) ?_ _
              clear hHeld
              go_wp2_with fail
              go_meet
              exact ⟨_, _, A7, c7, A8, c8, A9, c9, rfl, rfl, rfl, ⟨hka.keep_grown hgb (by simp; omega), (hO1a.keptE hz7a (by decide) (by decide) hgb).rdl HLn.out⟩, ⟨hkb, (hO3a.keptE hz7a (by decide) (by decide) hgb).rdl HLn'.out⟩, (hO5a.keptE hz7a (by decide) hgb).rd, hSa.grown hgb (by omega) (by intro q hq; simp at hq; omega)⟩
          · refine StepOf.mk 6 (by simp only [List.getElem?_toArray, List.getElem?_cons_succ, List.getElem?_cons_zero]; rfl) (fun K hK => ?_)
            go_simp
            obtain ⟨ws60, hw60⟩ : ∃ wx : World, wx = ws50.alloc (.cells [Value.int .u8 0, .int .u8 0, .slice none 0 0].toArray 24) := ⟨_, rfl⟩
            rw [← hw60]
            have hbs60 : Below ws50.heap.size ws50 ws60 := by rw [hw60]; exact below_new _ _
            have nbs60 : Blk ws60 ws50.heap.size 24 [Value.int .u8 0, .int .u8 0, .slice none 0 0].toArray := by rw [hw60]; exact Blk.new _ _ _
            have szs60 : ws50.heap.size < ws60.heap.size := by rw [hw60]; simp
            clear hw60
            have ges60 : W.heap.size ≤ ws50.heap.size := (hs50).2.2.2.2.2.2.size
            refine hK.out _ _ ?tu60 (fun hs60 => ?_)
            case tu60 => exact keepS _ _ hs50 hbs60
            clear hK K
            have nb7_60 := nbs50.below hbs60 nbs50.lt
            refine stepG 1 (by kernel_rfl) (by simp only [List.getElem?_toArray, List.getElem?_cons_succ, List.getElem?_cons_zero]; rfl) (fun K hK => ?_)
            go_simp
            refine (hr1 _ (hs60).2.2.2.2.2.2).mono ?_
            rintro e ws61 ⟨A7, c7, rfl, fx61, hbs61⟩
            have szs61 := hbs61.size
            refine hK.out _ _ ?tu61 (fun hs61 => ?_)
            case tu61 => exact keepS _ _ hs60 hbs61
            clear hK K
            have nb7_61 := nb7_60.below hbs61 nb7_60.lt
            have nb6_61 := nbs60.below hbs61 nbs60.lt
            refine stepG 3 (by kernel_rfl) (by simp only [List.getElem?_toArray, List.getElem?_cons_succ, List.getElem?_cons_zero]; rfl) (fun K hK => ?_)
            go_simp
            refine (hr3 _ (hs61).2.2.2.2.2.2).mono ?_
            rintro e ws62 ⟨A8, c8, rfl, fx62, hbs62⟩
            have szs62 := hbs62.size
            refine hK.out _ _ ?tu62 (fun hs62 => ?_)
            case tu62 => exact keepS _ _ hs61 hbs62
            clear hK K
            have nb7_62 := nb7_61.below hbs62 nb7_61.lt
            have nb6_62 := nb6_61.below hbs62 nb6_61.lt
            have fy1_62 := fx61.below hbs62
            refine stepG 5 (by kernel_rfl) (by simp only [List.getElem?_toArray, List.getElem?_cons_succ, List.getElem?_cons_zero]; rfl) (fun K hK => ?_)
            go_simp
            refine (hr5 _ (hs62).2.2.2.2.2.2).mono ?_
            rintro e ws63 ⟨A9, c9, rfl, fx63, hbs63⟩
            have szs63 := hbs63.size
            refine hK.out _ _ ?tu63 (fun hs63 => ?_)
            case tu63 => exact keepS _ _ hs62 hbs63
            clear hK K
            have nb7_63 := nb7_62.below hbs63 nb7_62.lt
            have nb6_63 := nb6_62.below hbs63 nb6_62.lt
            have fy1_63 := fy1_62.below hbs63
            have fy3_63 := fx62.below hbs63
            have hSB := (hs63).2.2.2.2.2.2
            have hz6 := nb6_63
            have hz7 := nb7_63
            have hO1 := fy1_63
            have hO3 := fy3_63
            have hO5 := fx63
            have hs5 := hSB.size
            clear hHeld
            refine stepG 8 (by kernel_rfl) (by simp only [List.getElem?_toArray, List.getElem?_cons_succ, List.getElem?_cons_zero]; rfl) (fun K hK => ?_)
            refine step_store_blk rfl 24 (.tmp 7) (.tmp 34) rfl rfl (cs := [.int .u8 (k : Int), .int .u8 (l : Int), .slice A7 n c7]) rfl hz6 rfl infoNd (nd_one _ _ _ _ _) ?_
            intro wa hka hga
            refine hK.out _ _ ?ts62 (fun hHeld => ?_)
            case ts62 => ((try dsimp only); exact TR.out _ (hSB.grown hga (by omega) (by intro q hq; simp at hq; omega)))
            clear hK K
            have hz7a := hz7.keep_grown hga (by simp; omega)
            have hSa := hSB.grown hga (by omega) (by intro q hq; simp at hq; omega)
            have hsa := hSa.size
            have hO1a := hO1.keptE hz6 (by decide) (by decide) hga
            have hO3a := hO3.keptE hz6 (by decide) (by decide) hga
            have hO5a := hO5.keptE hz6 (by decide) hga
            clear hHeld
            refine stepG 9 (by kernel_rfl) (by simp only [List.getElem?_toArray, List.getElem?_cons_succ, List.getElem?_cons_zero]; rfl) (fun K hK => ?_)
            refine step_store_blk rfl 24 (.tmp 8) (.tmp 36) rfl rfl (cs := [.int .u8 (k' : Int), .int .u8 (l' : Int), .slice A8 n' c8]) rfl hz7a rfl infoNd (nd_one _ _ _ _ _) ?_
            intro wb hkb hgb
            refine hK.out _ _ ?ts63 (fun hHeld => ?_)
            case ts63 => ((try dsimp only); exact TR.out _ (hSa.grown hgb (by omega) (by intro q hq; simp at hq; omega)))
            clear hK K
            refine' takeV 10 (oi := _) (d := _) (v := _) ?ti64 ?td64 (by kernel_rfl) (by kernel_rfl) (by kernel_rfl) (by kernel_rfl) (by decide) (fun _ _ _ _ _ h => h) ?tg64 ?ty64 (by assumption) ?tr64
            case ti64 => (simp only [List.getElem?_toArray, List.getElem?_cons_succ, List.getElem?_cons_zero]; rfl)
            case td64 => exact rfl
            case tg64 => exact rfl
            case ty64 => (intro w hSw; (try dsimp only at hSw); go_split_ands; go_simp; try with_reducible rfl)
            simp only [List.setIfInBounds_toArray, List.set_cons_zero, List.set_cons_succ]
            refine doneG (by kernel_rfl) ?_ _
            clear hHeld
            go_wp2_with fail
            go_meet
            exact ⟨_, _, A7, c7, A8, c8, A9, c9, rfl, rfl, rfl, ⟨hka.keep_grown hgb (by simp; omega), (hO1a.keptE hz7a (by decide) (by decide) hgb).rdl HLn.out⟩, ⟨hkb, (hO3a.keptE hz7a (by decide) (by decide) hgb).rdl HLn'.out⟩, (hO5a.keptE hz7a (by decide) hgb).rd, hSa.grown hgb (by omega) (by intro q hq; simp at hq; omega)⟩
      case rest =>
        obtain ⟨g7, g8, A7, c7, A8, c8, A9, c9, rfl, rfl, rfl, hn7, hn8, hk9, hbel⟩ := hcut
        have N7 := Lib.hid hn7
        have N8 := Lib.hid hn8
        have RZ := Lib.hid hk9
        have HBc := Lib.hid hbel
        have sc := hbel.size
        obtain ⟨L, HL⟩ : ∃ L, Hid (oneL k es es' key = L) := ⟨_, rfl⟩
        obtain ⟨JB, HJB⟩ : ∃ JB, Hid (joinB k l es k' l' es' key = JB) := ⟨_, rfl⟩
        obtain ⟨EB, HEB⟩ : ∃ EB, Hid (evB k l es k' l' es' key = EB) := ⟨_, rfl⟩
        have HCJ := Lib.hid (join_any k l A7 n c7 es k' l' A8 n' c8 es' A9 nk c9 key wc N7.out.rd N8.out.rd RZ.out hk hl hk' hl' (by have := HN3.out; omega) (by have := HN3'.out; omega) HSH.out HO.out.1.2 HSH'.out HIN.out HIN'.out (by omega))
        rw [HJB.out, HL.out] at HCJ
        clear hn7 hn8 hk9 hbel TR HB1 HX1
        have d0 := N7.out.c0
        have d1 := N7.out.c1
        have d2 := N7.out.c2
        have f0 := N8.out.c0
        have f1 := N8.out.c1
        have f2 := N8.out.c2
        go_wp2_with fail
        refine HCJ.out.mono ?_
        rintro e w2 ⟨An, cn, rfl, ho, hb⟩
        clear d0 d1 d2 f0 f1 f2 HCJ
        obtain ⟨kn, HKN⟩ : ∃ kn, Hid (bN JB k = kn) := ⟨_, rfl⟩
        obtain ⟨ln, HLN⟩ : ∃ ln, Hid (bN JB l = ln) := ⟨_, rfl⟩
        obtain ⟨Ln, HLNN⟩ : ∃ Ln, Hid (bE JB L = Ln) := ⟨_, rfl⟩
        obtain ⟨nn, HNN⟩ : ∃ nn, Hid (Ln.length = nn) := ⟨_, rfl⟩
        rw [HLNN.out, HNN.out] at ho
        rw [HKN.out, HLN.out, HLNN.out, HNN.out]
        have hkn : kn < 256 := by rw [← HKN.out]; exact bN_lt hk
        have hln : ln < 256 := by rw [← HLN.out]; exact bN_lt hl
        have s2 := hb.size
        obtain ⟨wd, hwd⟩ : ∃ wd, wd = w2.alloc (.cells #[.int .u8 (kn : Int), .int .u8 (ln : Int), .slice An nn cn] 24) := ⟨_, rfl⟩
        have hbd : Below wc.heap.size wc wd := by rw [hwd]; exact hb.alloc s2 _
        have On : Hid (OwnN wd wc.heap.size An nn cn Ln) := by rw [hwd]; exact ho.below (below_new _ _)
        have Nn : Hid (Nin wd w2.heap.size kn ln An nn cn Ln) := ⟨by rw [hwd]; exact Blk.new _ _ _, On.out.rdl HNN.out.symm⟩
        have HX := Lib.hid hbd
        have HAL : Hid (∀ a, An = some a → a.block < wd.heap.size) := On.out.lt
        have HWD := Lib.hid hwd
        clear ho hb hwd hbd
        go_upto_region 5 with fail
        rw [← HWD.out]
        have M7 := Lib.hid (N7.out.below HX.out)
        have M8 := Lib.hid (N8.out.below HX.out)
        have sd := HX.out.size
        have HCE := Lib.hid (even_any k l A7 n c7 es k' l' A8 n' c8 es' A9 nk c9 key wd M7.out.rd M8.out.rd (RZ.out.below HX.out) hk hl hk' hl' (by have := HN3.out; omega) (by have := HN3'.out; omega) HSH.out HO.out.1.2 HSH'.out HIN.out HIN'.out (by omega))
        rw [HEB.out, HL.out] at HCE
        have d0 := M7.out.c0
        have d1 := M7.out.c1
        have d2 := M7.out.c2
        have f0 := M8.out.c0
        have f1 := M8.out.c1
        have f2 := M8.out.c2
        go_wp2_with fail
        refine HCE.out.mono ?_
        rintro e w3 ⟨A1, c1, A2, c2, B, m, d, rfl, ho1, ho2, ho3, hb, hdis⟩
        clear d0 d1 d2 f0 f1 f2 HCE M7 M8
        obtain ⟨kx, HKX⟩ : ∃ kx, Hid (bN EB (splN k l L k) = kx) := ⟨_, rfl⟩
        obtain ⟨lx, HLX⟩ : ∃ lx, Hid (bN EB (splN k l L l) = lx) := ⟨_, rfl⟩
        obtain ⟨LA, HLA⟩ : ∃ LA, Hid (bE EB (splA k l L) = LA) := ⟨_, rfl⟩
        obtain ⟨LB, HLB⟩ : ∃ LB, Hid (bE EB (splB k l L) = LB) := ⟨_, rfl⟩
        obtain ⟨LK, HLK⟩ : ∃ LK, Hid ((if EB then splK k l L else []) = LK) := ⟨_, rfl⟩
        obtain ⟨E, HE⟩ : ∃ E, Hid ((if EB then splE k l L else 2) = E) := ⟨_, rfl⟩
        obtain ⟨nA, HNA⟩ : ∃ nA, Hid (LA.length = nA) := ⟨_, rfl⟩
        obtain ⟨nB, HNB⟩ : ∃ nB, Hid (LB.length = nB) := ⟨_, rfl⟩
        have hkx : kx < 256 := by rw [← HKX.out]; exact bN_lt (splN_lt hk)
        have hlx : lx < 256 := by rw [← HLX.out]; exact bN_lt (splN_lt hl)
        rw [HLA.out, HNA.out] at ho1
        rw [HLB.out, HNB.out] at ho2
        rw [HLK.out] at ho3
        rw [HKX.out, HLX.out, HLA.out, HLB.out, HNA.out, HNB.out, HE.out]
        have s3 := hb.size
        obtain ⟨w4, hw4⟩ : ∃ w4, w4 = (w3.alloc (.cells #[.int .u8 (kx : Int), .int .u8 (lx : Int), .slice A1 nA c1] 24)).alloc (.cells #[.int .u8 (kx : Int), .int .u8 (lx : Int), .slice A2 nB c2] 24) := ⟨_, rfl⟩
        have hx4 : Below w3.heap.size w3 w4 := by rw [hw4]; exact (below_new _ _).alloc (by simp) _
        have hb4 : Below wd.heap.size wd w4 := hb.trans (hx4.mono s3)
        have HD1 : Hid (∀ a a', An = some a → A1 = some a' → a.block ≠ a'.block) := fun a a' h1 h2 => by have q1 := HAL.out a h1; have q2 := ho1.ge a' h2; omega
        have HD2 : Hid (∀ a a', An = some a → A2 = some a' → a.block ≠ a'.block) := fun a a' h1 h2 => by have q1 := HAL.out a h1; have q2 := ho2.ge a' h2; omega
        have HD3 := Lib.hid hdis
        have O1 : Hid (OwnN w4 wc.heap.size A1 nA c1 LA) := (ho1.mono sd).below hx4
        have O2 : Hid (OwnN w4 wc.heap.size A2 nB c2 LB) := (ho2.mono sd).below hx4
        have O3 : Hid (Own w4 wc.heap.size B m d LK) := (ho3.mono sd).below hx4
        have M1 : Hid (Nin w4 w3.heap.size kx lx A1 nA c1 LA) := ⟨by rw [hw4]; exact (Blk.new _ _ _).alloc _, O1.out.rdl HNA.out.symm⟩
        have M2 : Hid (Nin w4 (w3.heap.size + 1) kx lx A2 nB c2 LB) := ⟨by rw [hw4]; exact Blk.new' _ _ _ _ (by simp), O2.out.rdl HNB.out.symm⟩
        have HW4 := Lib.hid hw4
        replace Nn := Lib.hid (Nn.out.below hb4)
        replace On := Lib.hid (On.out.below hb4)
        replace HX := Lib.hid (HX.out.trans (hb4.mono sd))
        clear ho1 ho2 ho3 hb hdis hw4 hx4 hb4 s3
        go_upto_region 6 with fail
        rw [← HW4.out]
        have hW4 : Below W.heap.size W w4 := HBc.out.trans (HX.out.mono sc)
        have M7 := Lib.hid (NA.out.below hW4)
        have M8 := Lib.hid (NB.out.below hW4)
        have s4 := HX.out.size
        have HCJ := Lib.hid (refjoin_any k l A n c es k' l' A' n' c' es' Ak nk ck key w4 M7.out.rd M8.out.rd (HKY.out.below hW4) hk hl hk' hl' (by have := HN3.out; omega) (by have := HN3'.out; omega) HSH.out HO.out.1.2 HSH'.out HIN.out HIN'.out (by omega))
        rw [HJB.out, HL.out] at HCJ
        clear hW4
        have d0 := M7.out.c0
        have d1 := M7.out.c1
        have d2 := M7.out.c2
        have f0 := M8.out.c0
        have f1 := M8.out.c1
        have f2 := M8.out.c2
        go_wp2_with fail
        refine HCJ.out.mono ?_
        rintro e w5 ⟨Am, cm, rfl, ho, hb⟩
        clear d0 d1 d2 f0 f1 f2 HCJ M7 M8
        rw [HLNN.out, HNN.out] at ho
        rw [HKN.out, HLN.out, HLNN.out, HNN.out]
        have s5 := hb.size
        obtain ⟨w6, hw6⟩ : ∃ w6, w6 = w5.alloc (.cells #[.int .u8 (kn : Int), .int .u8 (ln : Int), .slice Am nn cm] 24) := ⟨_, rfl⟩
        have hb6 : Below w4.heap.size w4 w6 := by rw [hw6]; exact hb.alloc s5 _
        have Nm : Hid (Nin w6 w5.heap.size kn ln Am nn cm Ln) := ⟨by rw [hw6]; exact Blk.new _ _ _, by rw [hw6]; exact (ho.below (below_new _ _)).rdl HNN.out.symm⟩
        have HW6 := Lib.hid hw6
        replace Nn := Lib.hid (Nn.out.below hb6)
        replace On := Lib.hid (On.out.below hb6)
        replace O1 := Lib.hid (O1.out.below hb6)
        replace O2 := Lib.hid (O2.out.below hb6)
        replace O3 := Lib.hid (O3.out.below hb6)
        replace M1 := Lib.hid (M1.out.below hb6)
        replace M2 := Lib.hid (M2.out.below hb6)
        replace HX := Lib.hid (HX.out.trans (hb6.mono s4))
        clear ho hb hw6 hb6 s5
        go_upto_region 7 with fail
        rw [← HW6.out]
        have hW6 : Below W.heap.size W w6 := HBc.out.trans (HX.out.mono sc)
        have M7 := Lib.hid (NA.out.below hW6)
        have M8 := Lib.hid (NB.out.below hW6)
        have s6 := HX.out.size
        have HCE := Lib.hid (refeven_any k l A n c es k' l' A' n' c' es' Ak nk ck key w6 M7.out.rd M8.out.rd (HKY.out.below hW6) hk hl hk' hl' (by have := HN3.out; omega) (by have := HN3'.out; omega) HSH.out HO.out.1.2 HSH'.out HIN.out HIN'.out (by omega))
        rw [HEB.out, HL.out] at HCE
        clear hW6
        have d0 := M7.out.c0
        have d1 := M7.out.c1
        have d2 := M7.out.c2
        have f0 := M8.out.c0
        have f1 := M8.out.c1
        have f2 := M8.out.c2
        go_wp2_with fail
        refine HCE.out.mono ?_
        rintro e w7 ⟨A3, c3, A4, c4, B', m', d', rfl, ho1, ho2, ho3, hb, _⟩
        clear d0 d1 d2 f0 f1 f2 HCE M7 M8
        rw [HLA.out, HNA.out] at ho1
        rw [HLB.out, HNB.out] at ho2
        rw [HLK.out] at ho3
        rw [HKX.out, HLX.out, HLA.out, HLB.out, HNA.out, HNB.out, HE.out]
        have s7 := hb.size
        obtain ⟨w8, hw8⟩ : ∃ w8, w8 = (w7.alloc (.cells #[.int .u8 (kx : Int), .int .u8 (lx : Int), .slice A3 nA c3] 24)).alloc (.cells #[.int .u8 (kx : Int), .int .u8 (lx : Int), .slice A4 nB c4] 24) := ⟨_, rfl⟩
        have hx8 : Below w7.heap.size w7 w8 := by rw [hw8]; exact (below_new _ _).alloc (by simp) _
        have hb8 : Below w6.heap.size w6 w8 := hb.trans (hx8.mono s7)
        have P1 : Hid (Nin w8 w7.heap.size kx lx A3 nA c3 LA) := ⟨by rw [hw8]; exact (Blk.new _ _ _).alloc _, (ho1.below hx8).rdl HNA.out.symm⟩
        have P2 : Hid (Nin w8 (w7.heap.size + 1) kx lx A4 nB c4 LB) := ⟨by rw [hw8]; exact Blk.new' _ _ _ _ (by simp), (ho2.below hx8).rdl HNB.out.symm⟩
        have P3 := Lib.hid (ho3.below hx8).rd
        have HW8 := Lib.hid hw8
        replace Nm := Lib.hid (Nm.out.below hb8)
        replace Nn := Lib.hid (Nn.out.below hb8)
        replace On := Lib.hid (On.out.below hb8)
        replace O1 := Lib.hid (O1.out.below hb8)
        replace O2 := Lib.hid (O2.out.below hb8)
        replace O3 := Lib.hid (O3.out.below hb8)
        replace M1 := Lib.hid (M1.out.below hb8)
        replace M2 := Lib.hid (M2.out.below hb8)
        replace HX := Lib.hid (HX.out.trans (hb8.mono s6))
        clear ho1 ho2 ho3 hb hw8 hx8 hb8 s7
        go_upto_region 8 with fail
        rw [← HW8.out]
        have tokJ : (JB != JB) = false := bne_self_eq_false _
        have tokE : (E != E) = false := bne_self_eq_false _
        have HCS := Lib.hid (refsame_any kn ln An nn cn Ln kn ln Am nn cm Ln w8 Nn.out.rd Nm.out.rd hkn hln hkn hln)
        rw [sameN_refl] at HCS
        have d0 := Nn.out.c0
        have d1 := Nn.out.c1
        have d2 := Nn.out.c2
        have f0 := Nm.out.c0
        have f1 := Nm.out.c1
        have f2 := Nm.out.c2
        go_wp2_with fail
        refine HCS.out.mono ?_
        rintro e w9 ⟨rfl, hb⟩
        replace Nn := Lib.hid (Nn.out.below hb)
        replace On := Lib.hid (On.out.below hb)
        replace O1 := Lib.hid (O1.out.below hb)
        replace O2 := Lib.hid (O2.out.below hb)
        replace O3 := Lib.hid (O3.out.below hb)
        replace M1 := Lib.hid (M1.out.below hb)
        replace M2 := Lib.hid (M2.out.below hb)
        replace P1 := Lib.hid (P1.out.below hb)
        replace P2 := Lib.hid (P2.out.below hb)
        replace P3 := Lib.hid (P3.out.below hb)
        replace HX := Lib.hid (HX.out.trans (hb.mono HX.out.size))
        clear d0 d1 d2 f0 f1 f2 HCS hb Nm
        have HCS := Lib.hid (refsame_any kx lx A1 nA c1 LA kx lx A3 nA c3 LA w9 M1.out.rd P1.out.rd hkx hlx hkx hlx)
        rw [sameN_refl] at HCS
        have d0 := M1.out.c0
        have d1 := M1.out.c1
        have d2 := M1.out.c2
        have f0 := P1.out.c0
        have f1 := P1.out.c1
        have f2 := P1.out.c2
        go_wp2_with fail
        refine HCS.out.mono ?_
        rintro e wa ⟨rfl, hb⟩
        replace Nn := Lib.hid (Nn.out.below hb)
        replace On := Lib.hid (On.out.below hb)
        replace O1 := Lib.hid (O1.out.below hb)
        replace O2 := Lib.hid (O2.out.below hb)
        replace O3 := Lib.hid (O3.out.below hb)
        replace M1 := Lib.hid (M1.out.below hb)
        replace M2 := Lib.hid (M2.out.below hb)
        replace P2 := Lib.hid (P2.out.below hb)
        replace P3 := Lib.hid (P3.out.below hb)
        replace HX := Lib.hid (HX.out.trans (hb.mono HX.out.size))
        clear d0 d1 d2 f0 f1 f2 HCS hb P1
        have HCS := Lib.hid (refsame_any kx lx A2 nB c2 LB kx lx A4 nB c4 LB wa M2.out.rd P2.out.rd hkx hlx hkx hlx)
        rw [sameN_refl] at HCS
        have d0 := M2.out.c0
        have d1 := M2.out.c1
        have d2 := M2.out.c2
        have f0 := P2.out.c0
        have f1 := P2.out.c1
        have f2 := P2.out.c2
        go_wp2_with fail
        refine HCS.out.mono ?_
        rintro e wb ⟨rfl, hb⟩
        replace Nn := Lib.hid (Nn.out.below hb)
        replace On := Lib.hid (On.out.below hb)
        replace O1 := Lib.hid (O1.out.below hb)
        replace O2 := Lib.hid (O2.out.below hb)
        replace O3 := Lib.hid (O3.out.below hb)
        replace M1 := Lib.hid (M1.out.below hb)
        replace M2 := Lib.hid (M2.out.below hb)
        replace P3 := Lib.hid (P3.out.below hb)
        replace HX := Lib.hid (HX.out.trans (hb.mono HX.out.size))
        clear d0 d1 d2 f0 f1 f2 HCS hb P2
        have hcs := same_any B m d LK B' m' d' LK wb O3.out.rd P3.out
        rw [beq_self_eq_true] at hcs
        have HCS := Lib.hid hcs
        clear hcs
        go_wp2_with fail
        refine HCS.out.mono ?_
        rintro e _ ⟨rfl, rfl⟩
        clear HCS P3
        obtain ⟨css1, hsp1⟩ := O1.out.sp
        obtain ⟨css2, hsp2⟩ := O2.out.sp
        have HC4 := Lib.hid (spoil_keeps (k := kn) (l := ln) ((Keeps.sp (css := css1) (H' := wc.heap.size) (n' := nA) (c' := c1) HD1.out).and ((Keeps.sp (css := css2) (H' := wc.heap.size) (n' := nB) (c' := c2) HD2.out).and ((Keeps.own (H' := wc.heap.size) (A' := B) (n' := m) (c' := d)).and ((Keeps.blk (g := w3.heap.size) (T := 24) (cs := ndA kx lx A1 nA c1) (by decide) (by decide)).and (Keeps.blk (g := w3.heap.size + 1) (T := 24) (cs := ndA kx lx A2 nB c2) (by decide) (by decide)))))) On.out HX.out.size ⟨hsp1, hsp2, ⟨LK, O3.out⟩, M1.out.blk, M2.out.blk⟩)
        have d0 := Nn.out.c0
        have d1 := Nn.out.c1
        have d2 := Nn.out.c2
        clear hsp1 hsp2
        go_wp2_with fail
        refine HC4.out.mono ?_
        rintro e we ⟨rfl, hb, hsp1, hsp2, how, hk1, hk2⟩
        replace HX := Lib.hid (HX.out.trans hb)
        obtain ⟨es1, ho1⟩ := hsp1.nN
        have HO1 := Lib.hid ho1
        have HSP2 := Lib.hid hsp2
        have HOW := Lib.hid how
        have HK1 := Lib.hid hk1
        have HK2 := Lib.hid hk2
        clear d0 d1 d2 HC4 hb hsp1 hsp2 how hk1 hk2 ho1 O1 O2 O3 On Nn M1 M2
        have HC4 := Lib.hid (spoil_keeps (k := kx) (l := lx) ((Keeps.sp (css := css2) (H' := wc.heap.size) (n' := nB) (c' := c2) HD3.out).and ((Keeps.own (H' := wc.heap.size) (A' := B) (n' := m) (c' := d)).and (Keeps.blk (g := w3.heap.size + 1) (T := 24) (cs := ndA kx lx A2 nB c2) (by decide) (by decide)))) HO1.out HX.out.size ⟨HSP2.out, HOW.out, HK2.out⟩)
        have d0 : we.cell? ⟨w3.heap.size, 0, none⟩ = some (.int .u8 (kx : Int)) := HK1.out.cell 0
        have d1 : we.cell? ⟨w3.heap.size, 1, none⟩ = some (.int .u8 (lx : Int)) := HK1.out.cell 1
        have d2 : we.cell? ⟨w3.heap.size, 2, none⟩ = some (.slice A1 nA c1) := HK1.out.cell 2
        go_wp2_with fail
        refine HC4.out.mono ?_
        rintro e wf ⟨rfl, hb, hsp2, how, hk2⟩
        replace HX := Lib.hid (HX.out.trans hb)
        obtain ⟨es2, ho2⟩ := hsp2.nN
        have HO2 := Lib.hid ho2
        replace HOW := Lib.hid how
        replace HK2 := Lib.hid hk2
        clear d0 d1 d2 HC4 hb hsp2 how hk2 ho2 HO1 HSP2 HK1
        have HC4 := Lib.hid (spoil_keeps (k := kx) (l := lx) (Keeps.own (H' := wc.heap.size) (A' := B) (n' := m) (c' := d)) HO2.out HX.out.size HOW.out)
        have d0 : wf.cell? ⟨w3.heap.size + 1, 0, none⟩ = some (.int .u8 (kx : Int)) := HK2.out.cell 0
        have d1 : wf.cell? ⟨w3.heap.size + 1, 1, none⟩ = some (.int .u8 (lx : Int)) := HK2.out.cell 1
        have d2 : wf.cell? ⟨w3.heap.size + 1, 2, none⟩ = some (.slice A2 nB c2) := HK2.out.cell 2
        go_wp2_with fail
        refine HC4.out.mono ?_
        rintro e wg ⟨rfl, hb, how⟩
        replace HX := Lib.hid (HX.out.trans hb)
        replace HOW := Lib.hid how
        clear d0 d1 d2 HC4 hb how HO2 HK2
        have hmd : m ≤ d ∧ d ≤ 9223372036854775807 := by
          obtain ⟨l9, ho9⟩ := HOW.out
          have h1 := ho9.rd.cap
          have h2 := ho9.rd.max
          unfold maxLen at h2
          omega
        obtain ⟨hmd1, hmd2⟩ := hmd
        go_wp2_with fail
        go_loopw [111] (fun i wr => ∃ (j : Nat), j ≤ m ∧ i = .int .i64 j ∧ (∃ l', Own wr wc.heap.size B m d l') ∧ Below wc.heap.size wc wr) (fun i _ => m - (intOf i).toNat)
        case atStart => exact ⟨0, Nat.zero_le _, rfl, HOW.out, HX.out⟩
        case round =>
          obtain ⟨j, hj, rfl, hown, hbel⟩ := hrel
          have HOWr := Lib.hid hown
          have HXr := Lib.hid hbel
          clear hown hbel
          by_cases hlt : j < m
          · obtain ⟨l9, ho9⟩ := HOWr.out
            obtain ⟨gz, rfl, hg2⟩ := ho9.split (by omega)
            have hcell : wr.cell? ⟨gz, j, none⟩ = some (B8 (l9.getD j 0)) := own_cell ho9 j hlt
            have hfr : wr.frozen? ⟨gz, j, none⟩ = false := ho9.frozenAt j
            obtain ⟨x, HXX⟩ : ∃ x, Hid (x = l9.getD j 0) := ⟨_, rfl⟩
            rw [← HXX.out] at hcell
            have hx := x.toNat_lt
            have hfl := flip255 x
            have HO9 := Lib.hid ho9
            clear ho9
            have i1 : (0 : Int) ≤ (j : Int) := by omega
            have i2 : (j : Int) < (m : Int) := by omega
            go_wp2_with fail
            go_roundw
            case rel => exact ⟨j + 1, by omega, by go_num, ⟨_, own_set HO9.out j (x ^^^ 255)⟩, HXr.out.setCell hg2 _⟩
            case measure => first | (simp [intOf]; done) | (simp [intOf]; omega)
          · obtain rfl : j = m := by omega
            have hW9 : Below W.heap.size W wr := HBc.out.trans (HXr.out.mono sc)
            have Q7 := Lib.hid (N7.out.below HXr.out)
            have Q8 := Lib.hid (N8.out.below HXr.out)
            have QA := Lib.hid (NA.out.below hW9)
            have QB := Lib.hid (NB.out.below hW9)
            have HY := Lib.hid hW9
            clear hW9 HOWr hlt hj
            have HCS := Lib.hid (refsame_any k l A7 n c7 es k l A n c es wr Q7.out.rd QA.out.rd hk hl hk hl)
            rw [sameN_refl] at HCS
            have d0 := Q7.out.c0
            have d1 := Q7.out.c1
            have d2 := Q7.out.c2
            have f0 := QA.out.c0
            have f1 := QA.out.c1
            have f2 := QA.out.c2
            go_wp2_with fail
            refine HCS.out.mono ?_
            rintro e wh ⟨rfl, hb⟩
            replace Q8 := Lib.hid (Q8.out.below hb)
            replace QB := Lib.hid (QB.out.below hb)
            have RZ2 := Lib.hid ((RZ.out.below HXr.out).below hb)
            replace HY := Lib.hid (HY.out.trans (hb.mono HY.out.size))
            clear d0 d1 d2 f0 f1 f2 HCS hb Q7 QA
            have HCS := Lib.hid (refsame_any k' l' A8 n' c8 es' k' l' A' n' c' es' wh Q8.out.rd QB.out.rd hk' hl' hk' hl')
            rw [sameN_refl] at HCS
            have d0 := Q8.out.c0
            have d1 := Q8.out.c1
            have d2 := Q8.out.c2
            have f0 := QB.out.c0
            have f1 := QB.out.c1
            have f2 := QB.out.c2
            go_wp2_with fail
            refine HCS.out.mono ?_
            rintro e wi ⟨rfl, hb⟩
            replace RZ2 := Lib.hid (RZ2.out.below hb)
            replace HY := Lib.hid (HY.out.trans (hb.mono HY.out.size))
            clear d0 d1 d2 f0 f1 f2 HCS hb Q8 QB
            have hcs := same_any A9 nk c9 key Ak nk ck key wi RZ2.out (HKY.out.below HY.out)
            rw [beq_self_eq_true] at hcs
            have HCS := Lib.hid hcs
            clear hcs
            go_wp2_with fail
            refine HCS.out.mono ?_
            rintro e _ ⟨rfl, rfl⟩
            clear HCS RZ2
            go_wp2_with fail
            refine (known_any wi).mono ?_
            rintro e wj ⟨rfl, hb⟩
            have HZ : Hid (Below W.heap.size W wj) := HY.out.trans (hb.mono HY.out.size)
            clear hb
            go_wp2_with fail
            go_ret
            exact ⟨rfl, HB0.out.trans (HZ.out.mono s0)⟩
end Go.Proofs.Ytgihcjmcefdkiaa
