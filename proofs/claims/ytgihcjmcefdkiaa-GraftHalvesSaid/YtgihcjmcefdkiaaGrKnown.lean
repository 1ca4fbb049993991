/- Contracts: what the laws of graft know. -/
import Derived.Test.YtgihcjmcefdkiaaGrHeavy
import Derived.Test.YtgihcjmcefdkiaaRegU
import Derived.Outline
set_option linter.unusedVariables false
set_option linter.unusedSimpArgs false
namespace Go.Proofs.Ytgihcjmcefdkiaa
open Go.RowKit

theorem leafE_in (ks : List UInt8) : esIn (leafE ks) := fun j hj => by
  rw [leafE_length] at hj
  rw [leafE_at ks j hj]
  simp [entIn, i64In, rfIn, r0]
theorem leafE_short (ks : List UInt8) : shortE (leafE ks) := fun j hj => by
  rw [leafE_length] at hj
  rw [leafE_at ks j hj]
  simp
theorem kn_e : splE 1 0 (leafE [97, 98, 99, 100]) = 0 := by decide +kernel
theorem kn_a : (splA 1 0 (leafE [97, 98, 99, 100])).length = 2 := by decide +kernel
theorem kn_b : (splB 1 0 (leafE [97, 98, 99, 100])).length = 2 := by decide +kernel
theorem kn_k : splK 1 0 (leafE [97, 98, 99, 100]) = [99] := by decide +kernel
theorem kn_n : splN 1 0 (leafE [97, 98, 99, 100]) 1 = 1 := by decide +kernel
theorem kn_n0 : splN 1 0 (leafE [97, 98, 99, 100]) 0 = 0 := by decide +kernel
theorem kn_sa : sameN 1 0 (splA 1 0 (leafE [97, 98, 99, 100])) 1 0 (leafE [97, 98]) = true := by decide +kernel
theorem kn_sb : sameN 1 0 (splB 1 0 (leafE [97, 98, 99, 100])) 1 0 (leafE [99, 100]) = true := by decide +kernel
theorem kn_f : fndA (leafE [97, 99]) [98] = 1 := by decide +kernel
theorem kn_g : fndB (leafE [97, 99]) [98] = false := by decide +kernel
theorem k_conv (w : World) (C : Array Value) (n c g : Nat) (hg : g = w.heap.size) : Sem.run Try.prog (convert 28 28 (.slice (some ⟨g, 0, none⟩) n c)) (w.alloc (.cells C 5)) = .ok (.slice (some ⟨g, 0, none⟩) n c) (w.alloc (.cells C 5 (C.size, C.size + 1))) :=
  hg ▸ Lib.run_convert_bytes_const w 28 5 C n c Try.underlying28 Try.underlying5
attribute [local go_sem] k_conv
set_option maxRecDepth 100000 in
set_option maxHeartbeats 3200000 in
theorem known_any (w : World) : Calls Try.prog 13 #[] w fun e w' => e = .returned (.bool true) ∧ Below w.heap.size w w' := by
  go_enter Try.func13, Try.ntmps13
  go_wp2_with fail
  refine (leaf_any ⟨#[97, 98, 99, 100]⟩ [97, 98, 99, 100] w rfl (by decide)).mono ?_
  rintro e w1 ⟨A, c, rfl, hown, hb1⟩
  have HB1 := Lib.hid hb1
  have HC := split_any 1 0 A 4 c (leafE [97, 98, 99, 100]) w1 (hown.rdl rfl) (by omega) (by omega) (leafE_in _) (by omega) (leafE_short _)
  have HCC := Lib.hid HC
  clear hown hb1 HC
  go_wp2_with fail
  refine HCC.out.mono ?_
  rintro e w2 ⟨A1, c1, A2, c2, B, m, d, rfl, h1, h2, h3, hb2, _⟩
  rw [kn_a] at h1
  rw [kn_b] at h2
  rw [kn_k] at h3
  have hm : m = 1 := h3.len
  subst hm
  rw [kn_e, kn_a, kn_b, kn_n, kn_n0]
  have HO1 := Lib.hid h1
  have HO2 := Lib.hid h2
  have HO3 := Lib.hid h3
  have HB2 := Lib.hid (HB1.out.trans (hb2.mono HB1.out.size))
  clear h1 h2 h3 hb2 HCC HB1
  obtain ⟨W, hW⟩ : ∃ W, W = (w2.alloc (.cells #[.int .u8 1, .int .u8 0, .slice A1 2 c1] 24)).alloc (.cells #[.int .u8 1, .int .u8 0, .slice A2 2 c2] 24) := ⟨_, rfl⟩
  have hbW : Below w2.heap.size w2 W := by rw [hW]; exact (below_new _ _).alloc (by simp) _
  have N1 : Hid (Nin W w2.heap.size 1 0 A1 2 c1 (splA 1 0 (leafE [97, 98, 99, 100]))) := ⟨by rw [hW]; exact (Blk.new _ _ _).alloc _, (HO1.out.rdl kn_a.symm).below hbW⟩
  have N2 : Hid (Nin W (w2.heap.size + 1) 1 0 A2 2 c2 (splB 1 0 (leafE [97, 98, 99, 100]))) := ⟨by rw [hW]; exact Blk.new' _ _ _ _ (by simp), (HO2.out.rdl kn_b.symm).below hbW⟩
  have R3 := Lib.hid (HO3.out.rd.below hbW)
  have HBW := Lib.hid (HB2.out.trans (hbW.mono HB2.out.size))
  have HW := Lib.hid hW
  clear hW hbW HO1 HO2 HO3 HB2
  go_wp2_with fail
  rw [← HW.out]
  refine (leaf_any ⟨#[97, 99]⟩ [97, 99] W rfl (by decide)).mono ?_
  rintro e w3 ⟨A3, c3, rfl, hown, hb3⟩
  have HC := fun g V (hb : Below w3.heap.size w3 V) (h' : Rd V g 1 1 [98]) => find_any 1 0 A3 2 c3 (leafE [97, 99]) g 1 1 [98] V ((hown.rdl rfl).below hb) h'
  have HCC := Lib.hid HC
  clear hown HC
  have HBX : Hid (Below W.heap.size W w3) := hb3
  clear hb3
  go_wp2_with fail
  have s3 := HBX.out.size
  have HFd := HCC.out (some ⟨w3.heap.size, 0, none⟩) (w3.alloc (.cells #[.int .u8 98] 5 (1, 2))) (below_new1 _ _) (Rd.marked w3 [98] 1 (1, 2) rfl (by omega))
  rw [kn_f, kn_g] at HFd
  refine HFd.mono ?_
  clear HFd HCC
  rintro e w4 ⟨rfl, hb4⟩
  have HB4 : Hid (Below W.heap.size W w4) := HBX.out.trans (((below_new1 w3 (.cells #[.int .u8 98] 5 (1, 2))).trans (hb4.mono (by simp))).mono s3)
  clear hb4 s3 HBX
  have TR : Hid (∀ V, Below W.heap.size W V → (fun V => V.cell? ⟨w2.heap.size, 0, none⟩ = some (.int .u8 1) ∧ V.cell? ⟨w2.heap.size, 1, none⟩ = some (.int .u8 0) ∧ V.cell? ⟨w2.heap.size, 2, none⟩ = some (.slice A1 2 c1) ∧ V.cell? ⟨w2.heap.size + 1, 0, none⟩ = some (.int .u8 1) ∧ V.cell? ⟨w2.heap.size + 1, 1, none⟩ = some (.int .u8 0) ∧ V.cell? ⟨w2.heap.size + 1, 2, none⟩ = some (.slice A2 2 c2) ∧ Below W.heap.size W V) V) := fun V hb => by
    have n1 := N1.out.below hb
    have n2 := N2.out.below hb
    exact ⟨n1.c0, n1.c1, n1.c2, n2.c0, n2.c1, n2.c2, hb⟩
  have s4 := HB4.out.size
  go_wp2_with fail
  refine region_gate 26 (fun V => V.cell? ⟨w2.heap.size, 0, none⟩ = some (.int .u8 1) ∧ V.cell? ⟨w2.heap.size, 1, none⟩ = some (.int .u8 0) ∧ V.cell? ⟨w2.heap.size, 2, none⟩ = some (.slice A1 2 c1) ∧ V.cell? ⟨w2.heap.size + 1, 0, none⟩ = some (.int .u8 1) ∧ V.cell? ⟨w2.heap.size + 1, 1, none⟩ = some (.int .u8 0) ∧ V.cell? ⟨w2.heap.size + 1, 2, none⟩ = some (.slice A2 2 c2) ∧ Below W.heap.size W V) (by kernel_rfl) ?th1 (fun hHeld => ?tk1)
  case th1 => ((try dsimp only); exact TR.out _ HB4.out.drew)
  refine' takeV 0 (oi := _) (d := _) (v := _) ?ti2 ?td2 (by kernel_rfl) (by kernel_rfl) (by kernel_rfl) (by kernel_rfl) (by decide) (fun _ _ _ _ _ h => h) ?tg2 ?ty2 (by assumption) ?tr2
  case ti2 => (simp only [List.getElem?_toArray, List.getElem?_cons_succ, List.getElem?_cons_zero]; rfl)
  case td2 => exact rfl
  case tg2 => exact rfl
  case ty2 => (intro w hSw; (try dsimp only at hSw); go_split_ands; go_simp; try with_reducible rfl)
  simp only [List.setIfInBounds_toArray, List.set_cons_zero, List.set_cons_succ]
  refine' takeV 1 (oi := _) (d := _) (v := _) ?ti3 ?td3 (by kernel_rfl) (by kernel_rfl) (by kernel_rfl) (by kernel_rfl) (by decide) (fun _ _ _ _ _ h => h) ?tg3 ?ty3 (by assumption) ?tr3
  case ti3 => (simp only [List.getElem?_toArray, List.getElem?_cons_succ, List.getElem?_cons_zero]; rfl)
  case td3 => exact rfl
  case tg3 => exact rfl
  case ty3 => (intro w hSw; (try dsimp only at hSw); go_split_ands; go_simp; try with_reducible rfl)
  simp only [List.setIfInBounds_toArray, List.set_cons_zero, List.set_cons_succ]
  refine' takeV 2 (oi := _) (d := _) (v := _) ?ti4 ?td4 (by kernel_rfl) (by kernel_rfl) (by kernel_rfl) (by kernel_rfl) (by decide) (fun _ _ _ _ _ h => h) ?tg4 ?ty4 (by assumption) ?tr4
  case ti4 => (simp only [List.getElem?_toArray, List.getElem?_cons_succ, List.getElem?_cons_zero]; rfl)
  case td4 => exact rfl
  case tg4 => exact rfl
  case ty4 => (intro w hSw; (try dsimp only at hSw); go_split_ands; go_simp; try with_reducible rfl)
  simp only [List.setIfInBounds_toArray, List.set_cons_zero, List.set_cons_succ]
  refine' takeVg 3 (oi := _) (d := _) (v := _) ?ti5 ?td5 (by kernel_rfl) (by kernel_rfl) (by kernel_rfl) (by kernel_rfl) (by decide) (fun _ _ _ _ _ h => h) ?tg5 ?ty5 (by assumption) ?tr5
  case ti5 => (simp only [List.getElem?_toArray, List.getElem?_cons_succ, List.getElem?_cons_zero]; rfl)
  case td5 => exact rfl
  case tg5 => exact rfl
  case ty5 => (intro w hSw; (try dsimp only at hSw); go_split_ands; go_simp; try with_reducible rfl)
  simp only [List.setIfInBounds_toArray, List.set_cons_zero, List.set_cons_succ]
  refine' takeVg 4 (oi := _) (d := _) (v := _) ?ti6 ?td6 (by kernel_rfl) (by kernel_rfl) (by kernel_rfl) (by kernel_rfl) (by decide) (fun _ _ _ _ _ h => h) ?tg6 ?ty6 (by assumption) ?tr6
  case ti6 => (simp only [List.getElem?_toArray, List.getElem?_cons_succ, List.getElem?_cons_zero]; rfl)
  case td6 => exact rfl
  case tg6 => exact rfl
  case ty6 => (intro w hSw; (try dsimp only at hSw); have htx := (show (convert 28 9 (.slice B 1 d)).run Try.prog w = .ok (.string ⟨#[99]⟩) w from (R3.out.below hSw.2.2.2.2.2.2).str (P := Try.prog) 28 5 9 Try.underlying28 Try.underlying5 Try.underlying9); go_split_ands; go_simp; try with_reducible rfl)
  simp only [List.setIfInBounds_toArray, List.set_cons_zero, List.set_cons_succ]
  refine' takeVg 5 (oi := _) (d := _) (v := _) ?ti7 ?td7 (by kernel_rfl) (by kernel_rfl) (by kernel_rfl) (by kernel_rfl) (by decide) (fun _ _ _ _ _ h => h) ?tg7 ?ty7 (by assumption) ?tr7
  case ti7 => (simp only [List.getElem?_toArray, List.getElem?_cons_succ, List.getElem?_cons_zero]; rfl)
  case td7 => exact rfl
  case tg7 => exact rfl
  case ty7 => (intro w hSw; (try dsimp only at hSw); go_split_ands; go_simp; try with_reducible rfl)
  simp only [List.setIfInBounds_toArray, List.set_cons_zero, List.set_cons_succ]
  refine' takeV 6 (oi := _) (d := _) (v := _) ?ti8 ?td8 (by kernel_rfl) (by kernel_rfl) (by kernel_rfl) (by kernel_rfl) (by decide) (fun _ _ _ _ _ h => h) ?tg8 ?ty8 (by assumption) ?tr8
  case ti8 => (simp only [List.getElem?_toArray, List.getElem?_cons_succ, List.getElem?_cons_zero]; rfl)
  case td8 => exact rfl
  case tg8 => exact rfl
  case ty8 => (intro w hSw; (try dsimp only at hSw); go_split_ands; go_simp; try with_reducible rfl)
  simp only [List.setIfInBounds_toArray, List.set_cons_zero, List.set_cons_succ]
  refine' takeV 7 (oi := _) (d := _) (v := _) ?ti9 ?td9 (by kernel_rfl) (by kernel_rfl) (by kernel_rfl) (by kernel_rfl) (by decide) (fun _ _ _ _ _ h => h) ?tg9 ?ty9 (by assumption) ?tr9
  case ti9 => (simp only [List.getElem?_toArray, List.getElem?_cons_succ, List.getElem?_cons_zero]; rfl)
  case td9 => exact rfl
  case tg9 => exact rfl
  case ty9 => (intro w hSw; (try dsimp only at hSw); go_split_ands; go_simp; try with_reducible rfl)
  simp only [List.setIfInBounds_toArray, List.set_cons_zero, List.set_cons_succ]
  refine' takeVg 8 (oi := _) (d := _) (v := _) ?ti10 ?td10 (by kernel_rfl) (by kernel_rfl) (by kernel_rfl) (by kernel_rfl) (by decide) (fun _ _ _ _ _ h => h) ?tg10 ?ty10 (by assumption) ?tr10
  case ti10 => (simp only [List.getElem?_toArray, List.getElem?_cons_succ, List.getElem?_cons_zero]; rfl)
  case td10 => exact rfl
  case tg10 => exact rfl
  case ty10 => (intro w hSw; (try dsimp only at hSw); go_split_ands; go_simp; try with_reducible rfl)
  simp only [List.setIfInBounds_toArray, List.set_cons_zero, List.set_cons_succ]
  clear hHeld
  obtain ⟨V0, hV0⟩ : ∃ V0, V0 = w4.drew := ⟨_, rfl⟩
  have B0 : Hid (Below W.heap.size W V0) := by rw [hV0]; exact HB4.out.drew
  rw [← hV0]
  clear hV0 HB4 HW s4
  have z0 := B0.out.size
  refine stepG 9 (by kernel_rfl) (by simp only [List.getElem?_toArray, List.getElem?_cons_succ, List.getElem?_cons_zero]; rfl) (fun K hK => ?_)
  go_simp
  refine (leaf_any ⟨#[97, 98]⟩ [97, 98] _ rfl (by decide)).mono ?_
  rintro e v1 ⟨A5, c5, rfl, hown5, hb5⟩
  refine hK.out _ _ ?ts11 (fun hHeld => ?_)
  case ts11 => ((try dsimp only); exact TR.out _ (B0.out.trans (hb5.mono z0)))
  clear hK K
  have B1 : Hid (Below W.heap.size W v1) := B0.out.trans (hb5.mono z0)
  have S1 := Lib.hid (refsame_any 1 0 A1 2 c1 _ 1 0 A5 2 c5 _ v1 (N1.out.below B1.out).rd (hown5.rdl rfl) (by omega) (by omega) (by omega) (by omega))
  rw [kn_sa] at S1
  have z1 := B1.out.size
  clear hown5 hb5 hHeld
  refine stepG 10 (by kernel_rfl) (by simp only [List.getElem?_toArray, List.getElem?_cons_succ, List.getElem?_cons_zero]; rfl) (fun K hK => ?_)
  go_simp
  refine (S1.out).mono ?_
  rintro e v2 ⟨rfl, hb6⟩
  refine hK.out _ _ ?ts12 (fun hHeld => ?_)
  case ts12 => ((try dsimp only); exact TR.out _ (B1.out.trans (hb6.mono z1)))
  clear hK K
  have B2 : Hid (Below W.heap.size W v2) := B1.out.trans (hb6.mono z1)
  have z2 := B2.out.size
  clear hb6 S1
  refine' takeV 11 (oi := _) (d := _) (v := _) ?ti13 ?td13 (by kernel_rfl) (by kernel_rfl) (by kernel_rfl) (by kernel_rfl) (by decide) (fun _ _ _ _ _ h => h) ?tg13 ?ty13 (by assumption) ?tr13
  case ti13 => (simp only [List.getElem?_toArray, List.getElem?_cons_succ, List.getElem?_cons_zero]; rfl)
  case td13 => exact rfl
  case tg13 => exact rfl
  case ty13 => (intro w hSw; (try dsimp only at hSw); go_split_ands; go_simp; try with_reducible rfl)
  simp only [List.setIfInBounds_toArray, List.set_cons_zero, List.set_cons_succ]
  refine' takeV 12 (oi := _) (d := _) (v := _) ?ti14 ?td14 (by kernel_rfl) (by kernel_rfl) (by kernel_rfl) (by kernel_rfl) (by decide) (fun _ _ _ _ _ h => h) ?tg14 ?ty14 (by assumption) ?tr14
  case ti14 => (simp only [List.getElem?_toArray, List.getElem?_cons_succ, List.getElem?_cons_zero]; rfl)
  case td14 => exact rfl
  case tg14 => exact rfl
  case ty14 => (intro w hSw; (try dsimp only at hSw); go_split_ands; go_simp; try with_reducible rfl)
  simp only [List.setIfInBounds_toArray, List.set_cons_zero, List.set_cons_succ]
  refine' takeVg 13 (oi := _) (d := _) (v := _) ?ti15 ?td15 (by kernel_rfl) (by kernel_rfl) (by kernel_rfl) (by kernel_rfl) (by decide) (fun _ _ _ _ _ h => h) ?tg15 ?ty15 (by assumption) ?tr15
  case ti15 => (simp only [List.getElem?_toArray, List.getElem?_cons_succ, List.getElem?_cons_zero]; rfl)
  case td15 => exact rfl
  case tg15 => exact rfl
  case ty15 => (intro w hSw; (try dsimp only at hSw); go_split_ands; go_simp; try with_reducible rfl)
  simp only [List.setIfInBounds_toArray, List.set_cons_zero, List.set_cons_succ]
  clear hHeld
  refine stepG 14 (by kernel_rfl) (by simp only [List.getElem?_toArray, List.getElem?_cons_succ, List.getElem?_cons_zero]; rfl) (fun K hK => ?_)
  go_simp
  refine (leaf_any ⟨#[99, 100]⟩ [99, 100] _ rfl (by decide)).mono ?_
  rintro e v3 ⟨A6, c6, rfl, hown5, hb5⟩
  refine hK.out _ _ ?ts16 (fun hHeld => ?_)
  case ts16 => ((try dsimp only); exact TR.out _ (B2.out.trans (hb5.mono z2)))
  clear hK K
  have B3 : Hid (Below W.heap.size W v3) := B2.out.trans (hb5.mono z2)
  have S1 := Lib.hid (refsame_any 1 0 A2 2 c2 _ 1 0 A6 2 c6 _ v3 (N2.out.below B3.out).rd (hown5.rdl rfl) (by omega) (by omega) (by omega) (by omega))
  rw [kn_sb] at S1
  have z3 := B3.out.size
  clear hown5 hb5 hHeld
  refine stepG 15 (by kernel_rfl) (by simp only [List.getElem?_toArray, List.getElem?_cons_succ, List.getElem?_cons_zero]; rfl) (fun K hK => ?_)
  go_simp
  refine (S1.out).mono ?_
  rintro e v4 ⟨rfl, hb6⟩
  refine hK.out _ _ ?ts17 (fun hHeld => ?_)
  case ts17 => ((try dsimp only); exact TR.out _ (B3.out.trans (hb6.mono z3)))
  clear hK K
  have B4 : Hid (Below W.heap.size W v4) := B3.out.trans (hb6.mono z3)
  clear hb6 S1
  refine' takeV 16 (oi := _) (d := _) (v := _) ?ti18 ?td18 (by kernel_rfl) (by kernel_rfl) (by kernel_rfl) (by kernel_rfl) (by decide) (fun _ _ _ _ _ h => h) ?tg18 ?ty18 (by assumption) ?tr18
  case ti18 => (simp only [List.getElem?_toArray, List.getElem?_cons_succ, List.getElem?_cons_zero]; rfl)
  case td18 => exact rfl
  case tg18 => exact rfl
  case ty18 => (intro w hSw; (try dsimp only at hSw); go_split_ands; go_simp; try with_reducible rfl)
  simp only [List.setIfInBounds_toArray, List.set_cons_zero, List.set_cons_succ]
  refine' takeV 17 (oi := _) (d := _) (v := _) ?ti19 ?td19 (by kernel_rfl) (by kernel_rfl) (by kernel_rfl) (by kernel_rfl) (by decide) (fun _ _ _ _ _ h => h) ?tg19 ?ty19 (by assumption) ?tr19
  case ti19 => (simp only [List.getElem?_toArray, List.getElem?_cons_succ, List.getElem?_cons_zero]; rfl)
  case td19 => exact rfl
  case tg19 => exact rfl
  case ty19 => (intro w hSw; (try dsimp only at hSw); go_split_ands; go_simp; try with_reducible rfl)
  simp only [List.setIfInBounds_toArray, List.set_cons_zero, List.set_cons_succ]
  refine' takeVg 18 (oi := _) (d := _) (v := _) ?ti20 ?td20 (by kernel_rfl) (by kernel_rfl) (by kernel_rfl) (by kernel_rfl) (by decide) (fun _ _ _ _ _ h => h) ?tg20 ?ty20 (by assumption) ?tr20
  case ti20 => (simp only [List.getElem?_toArray, List.getElem?_cons_succ, List.getElem?_cons_zero]; rfl)
  case td20 => exact rfl
  case tg20 => exact rfl
  case ty20 => (intro w hSw; (try dsimp only at hSw); go_split_ands; go_simp; try with_reducible rfl)
  simp only [List.setIfInBounds_toArray, List.set_cons_zero, List.set_cons_succ]
  refine' takeVg 19 (oi := _) (d := _) (v := _) ?ti21 ?td21 (by kernel_rfl) (by kernel_rfl) (by kernel_rfl) (by kernel_rfl) (by decide) (fun _ _ _ _ _ h => h) ?tg21 ?ty21 (by assumption) ?tr21
  case ti21 => (simp only [List.getElem?_toArray, List.getElem?_cons_succ, List.getElem?_cons_zero]; rfl)
  case td21 => exact rfl
  case tg21 => exact rfl
  case ty21 => (intro w hSw; (try dsimp only at hSw); go_split_ands; go_simp; try with_reducible rfl)
  simp only [List.setIfInBounds_toArray, List.set_cons_zero, List.set_cons_succ]
  refine' takeV 20 (oi := _) (d := _) (v := _) ?ti22 ?td22 (by kernel_rfl) (by kernel_rfl) (by kernel_rfl) (by kernel_rfl) (by decide) (fun _ _ _ _ _ h => h) ?tg22 ?ty22 (by assumption) ?tr22
  case ti22 => (simp only [List.getElem?_toArray, List.getElem?_cons_succ, List.getElem?_cons_zero]; rfl)
  case td22 => exact rfl
  case tg22 => exact rfl
  case ty22 => (intro w hSw; (try dsimp only at hSw); go_split_ands; go_simp; try with_reducible rfl)
  simp only [List.setIfInBounds_toArray, List.set_cons_zero, List.set_cons_succ]
  refine' takeV 21 (oi := _) (d := _) (v := _) ?ti23 ?td23 (by kernel_rfl) (by kernel_rfl) (by kernel_rfl) (by kernel_rfl) (by decide) (fun _ _ _ _ _ h => h) ?tg23 ?ty23 (by assumption) ?tr23
  case ti23 => (simp only [List.getElem?_toArray, List.getElem?_cons_succ, List.getElem?_cons_zero]; rfl)
  case td23 => exact rfl
  case tg23 => exact rfl
  case ty23 => (intro w hSw; (try dsimp only at hSw); go_split_ands; go_simp; try with_reducible rfl)
  simp only [List.setIfInBounds_toArray, List.set_cons_zero, List.set_cons_succ]
  refine' takeVg 22 (oi := _) (d := _) (v := _) ?ti24 ?td24 (by kernel_rfl) (by kernel_rfl) (by kernel_rfl) (by kernel_rfl) (by decide) (fun _ _ _ _ _ h => h) ?tg24 ?ty24 (by assumption) ?tr24
  case ti24 => (simp only [List.getElem?_toArray, List.getElem?_cons_succ, List.getElem?_cons_zero]; rfl)
  case td24 => exact rfl
  case tg24 => exact rfl
  case ty24 => (intro w hSw; (try dsimp only at hSw); go_split_ands; go_simp; try with_reducible rfl)
  simp only [List.setIfInBounds_toArray, List.set_cons_zero, List.set_cons_succ]
  refine' takeVg 23 (oi := _) (d := _) (v := _) ?ti25 ?td25 (by kernel_rfl) (by kernel_rfl) (by kernel_rfl) (by kernel_rfl) (by decide) (fun _ _ _ _ _ h => h) ?tg25 ?ty25 (by assumption) ?tr25
  case ti25 => (simp only [List.getElem?_toArray, List.getElem?_cons_succ, List.getElem?_cons_zero]; rfl)
  case td25 => exact rfl
  case tg25 => exact rfl
  case ty25 => (intro w hSw; (try dsimp only at hSw); go_split_ands; go_simp; try with_reducible rfl)
  simp only [List.setIfInBounds_toArray, List.set_cons_zero, List.set_cons_succ]
  refine' takeV 24 (oi := _) (d := _) (v := _) ?ti26 ?td26 (by kernel_rfl) (by kernel_rfl) (by kernel_rfl) (by kernel_rfl) (by decide) (fun _ _ _ _ _ h => h) ?tg26 ?ty26 (by assumption) ?tr26
  case ti26 => (simp only [List.getElem?_toArray, List.getElem?_cons_succ, List.getElem?_cons_zero]; rfl)
  case td26 => exact rfl
  case tg26 => exact rfl
  case ty26 => (intro w hSw; (try dsimp only at hSw); go_split_ands; go_simp; try with_reducible rfl)
  simp only [List.setIfInBounds_toArray, List.set_cons_zero, List.set_cons_succ]
  refine stepG 25 (by kernel_rfl) (by simp only [List.getElem?_toArray, List.getElem?_cons_succ, List.getElem?_cons_zero]; rfl) (fun K hK => ?_)
  go_simp
  refine hK.out _ _ ?ts27 (fun hHeld => ?_)
  case ts27 => ((try dsimp only); exact hHeld)
  clear hK K
  refine doneG (by kernel_rfl) ?_ _
  clear hHeld
  go_wp2_with fail
  go_ret
  exact ⟨rfl, HBW.out.trans (B4.out.mono HBW.out.size)⟩
end Go.Proofs.Ytgihcjmcefdkiaa
