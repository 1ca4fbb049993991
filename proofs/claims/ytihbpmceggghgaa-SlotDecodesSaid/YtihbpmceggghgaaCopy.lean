/- Contracts: an entry, a node, in memory of its own. -/
import Derived.Test.YtihbpmceggghgaaSameR
set_option linter.unusedVariables false
set_option linter.unusedSimpArgs false
namespace Go.Proofs.Ytihbpmceggghgaa
open Go.RowKit

/-- A block of another type is written: a row of bytes stays. -/
theorem Own.keptE {w w' : World} {H n c X : Nat} {A : Option Addr} {l : List UInt8} {T : TypeId} {cs : Array Value} (h : Own w H A n c l) (hX : Blk w X T cs) (hT : T ≠ 5) (hg : w.grownBy w' (some X)) : Own w' H A n c l := by
  refine h.kept hg fun a ha e => ?_
  simp only [Option.some.injEq] at e
  subst ha
  rcases h.2 with ⟨hv, _⟩ | ⟨g, cap, cur, hv, _⟩
  · cases hv
  · injection hv with h1 _ _
    injection h1 with h1
    subst h1
    exact h.ne_blk hX hT e
set_option maxRecDepth 100000 in
set_option maxHeartbeats 3200000 in
theorem copyent_any (A1 : Option Addr) (n1 c1 : Nat) (A2 : Option Addr) (n2 c2 : Nat) (L : Int) (r s : Rf) (Ky Va : List UInt8) (w : World) (h1 : Rd w A1 n1 c1 Ky) (h2 : Rd w A2 n2 c2 Va) (hn1 : n1 ≤ 140737488355328) (hn2 : n2 ≤ 140737488355328) :
    Calls Try.prog 26 #[EnV A1 n1 c1 A2 n2 c2 L r s] w fun e w' => ∃ B1 d1 B2 d2, e = .returned (EnV B1 n1 d1 B2 n2 d2 L r s) ∧ Own w' w.heap.size B1 n1 d1 Ky ∧ Own w' w.heap.size B2 n2 d2 Va ∧ Below w.heap.size w w' := by
  obtain ⟨W, hW⟩ : ∃ W, W = (w.alloc (.cells (enA A1 n1 c1 A2 n2 c2 L r s) 49)).alloc (.cells #[.slice none 0 0, .slice none 0 0, .int .i64 0, .int .u32 0, .int .u64 0, .int .u16 0, .int .u32 0, .int .u64 0, .int .u16 0] 49) := ⟨_, rfl⟩
  have HWB : Hid (Below w.heap.size w W) := by rw [hW]; exact (below_new _ _).alloc (by simp) _
  have KX : Hid (Blk W w.heap.size 49 (enA A1 n1 c1 A2 n2 c2 L r s)) := by rw [hW]; exact (Blk.new _ _ _).alloc _
  have KZ : Hid (Blk W (w.heap.size + 1) 49 zE.toArray) := by rw [hW]; exact Blk.new' _ _ _ _ (by simp)
  have HR1 := Lib.hid (h1.below HWB.out)
  have HR2 := Lib.hid (h2.below HWB.out)
  have HW := Lib.hid hW
  have hWs : w.heap.size < W.heap.size := KX.out.lt
  clear h1 h2 hW
  go_enter Try.func26, Try.ntmps26
  go_wp2_with fail
  rw [← HW.out]
  have TR : Hid (∀ w', Below W.heap.size W w' → w'.cell? ⟨w.heap.size, 0, none⟩ = some (.slice A1 n1 c1) ∧ w'.cell? ⟨w.heap.size, 1, none⟩ = some (.slice A2 n2 c2) ∧ w'.cell? ⟨w.heap.size, 2, none⟩ = some (.int .i64 L) ∧ w'.cell? ⟨w.heap.size, 3, none⟩ = some (.int .u32 (r.1 : Int)) ∧ w'.cell? ⟨w.heap.size, 4, none⟩ = some (.int .u64 (r.2.1 : Int)) ∧ w'.cell? ⟨w.heap.size, 5, none⟩ = some (.int .u16 (r.2.2 : Int)) ∧ w'.cell? ⟨w.heap.size, 6, none⟩ = some (.int .u32 (s.1 : Int)) ∧ w'.cell? ⟨w.heap.size, 7, none⟩ = some (.int .u64 (s.2.1 : Int)) ∧ w'.cell? ⟨w.heap.size, 8, none⟩ = some (.int .u16 (s.2.2 : Int)) ∧ Below W.heap.size W w') := fun wx hb => by
    have k := KX.out.below hb KX.out.lt
    exact ⟨k.cell 0, k.cell 1, k.cell 2, k.cell 3, k.cell 4, k.cell 5, k.cell 6, k.cell 7, k.cell 8, hb⟩
  refine region_gate 13 (fun w' => w'.cell? ⟨w.heap.size, 0, none⟩ = some (.slice A1 n1 c1) ∧ w'.cell? ⟨w.heap.size, 1, none⟩ = some (.slice A2 n2 c2) ∧ w'.cell? ⟨w.heap.size, 2, none⟩ = some (.int .i64 L) ∧ w'.cell? ⟨w.heap.size, 3, none⟩ = some (.int .u32 (r.1 : Int)) ∧ w'.cell? ⟨w.heap.size, 4, none⟩ = some (.int .u64 (r.2.1 : Int)) ∧ w'.cell? ⟨w.heap.size, 5, none⟩ = some (.int .u16 (r.2.2 : Int)) ∧ w'.cell? ⟨w.heap.size, 6, none⟩ = some (.int .u32 (s.1 : Int)) ∧ w'.cell? ⟨w.heap.size, 7, none⟩ = some (.int .u64 (s.2.1 : Int)) ∧ w'.cell? ⟨w.heap.size, 8, none⟩ = some (.int .u16 (s.2.2 : Int)) ∧ Below W.heap.size W w') (by kernel_rfl) ?th1 (fun hHeld => ?tk1)
  case th1 => ((try dsimp only); exact TR.out _ (Below.refl _ _).drew)
  refine' takeV 0 (oi := _) (d := _) (v := _) ?ti2 ?td2 (by kernel_rfl) (by kernel_rfl) (by kernel_rfl) (by kernel_rfl) (by decide) (fun _ _ _ _ _ h => h) ?tg2 ?ty2 (by assumption) ?tr2
  case ti2 => (simp only [List.getElem?_toArray, List.getElem?_cons_succ, List.getElem?_cons_zero]; rfl)
  case td2 => exact rfl
  case tg2 => exact rfl
  case ty2 => (intro w hSw; (try dsimp only at hSw); go_split_ands; go_simp; try with_reducible rfl)
  simp only [List.setIfInBounds_toArray, List.set_cons_zero, List.set_cons_succ]
  refine' takeV 1 (oi := _) (d := _) (v := _) ?ti3 ?td3 (by kernel_rfl) (by kernel_rfl) (by kernel_rfl) (by kernel_rfl) (by decide) (fun _ _ _ _ _ h => h) ?tg3 ?ty3 (by assumption) ?tr3
  case ti3 => (simp only [List.getElem?_toArray, List.getElem?_cons_succ, List.getElem?_cons_zero]; rfl)
  case td3 => exact rfl
  case tg3 => exact rfl
  case ty3 => (intro w hSw; (try dsimp only at hSw); go_split_ands; go_simp; try with_reducible rfl)
  simp only [List.setIfInBounds_toArray, List.set_cons_zero, List.set_cons_succ]
  refine' takeV 3 (oi := _) (d := _) (v := _) ?ti4 ?td4 (by kernel_rfl) (by kernel_rfl) (by kernel_rfl) (by kernel_rfl) (by decide) (fun _ _ _ _ _ h => h) ?tg4 ?ty4 (by assumption) ?tr4
  case ti4 => (simp only [List.getElem?_toArray, List.getElem?_cons_succ, List.getElem?_cons_zero]; rfl)
  case td4 => exact rfl
  case tg4 => exact rfl
  case ty4 => (intro w hSw; (try dsimp only at hSw); go_split_ands; go_simp; try with_reducible rfl)
  simp only [List.setIfInBounds_toArray, List.set_cons_zero, List.set_cons_succ]
  refine' takeV 4 (oi := _) (d := _) (v := _) ?ti5 ?td5 (by kernel_rfl) (by kernel_rfl) (by kernel_rfl) (by kernel_rfl) (by decide) (fun _ _ _ _ _ h => h) ?tg5 ?ty5 (by assumption) ?tr5
  case ti5 => (simp only [List.getElem?_toArray, List.getElem?_cons_succ, List.getElem?_cons_zero]; rfl)
  case td5 => exact rfl
  case tg5 => exact rfl
  case ty5 => (intro w hSw; (try dsimp only at hSw); go_split_ands; go_simp; try with_reducible rfl)
  simp only [List.setIfInBounds_toArray, List.set_cons_zero, List.set_cons_succ]
  refine' takeV 6 (oi := _) (d := _) (v := _) ?ti6 ?td6 (by kernel_rfl) (by kernel_rfl) (by kernel_rfl) (by kernel_rfl) (by decide) (fun _ _ _ _ _ h => h) ?tg6 ?ty6 (by assumption) ?tr6
  case ti6 => (simp only [List.getElem?_toArray, List.getElem?_cons_succ, List.getElem?_cons_zero]; rfl)
  case td6 => exact rfl
  case tg6 => exact rfl
  case ty6 => (intro w hSw; (try dsimp only at hSw); go_split_ands; go_simp; try with_reducible rfl)
  simp only [List.setIfInBounds_toArray, List.set_cons_zero, List.set_cons_succ]
  refine' takeV 7 (oi := _) (d := _) (v := _) ?ti7 ?td7 (by kernel_rfl) (by kernel_rfl) (by kernel_rfl) (by kernel_rfl) (by decide) (fun _ _ _ _ _ h => h) ?tg7 ?ty7 (by assumption) ?tr7
  case ti7 => (simp only [List.getElem?_toArray, List.getElem?_cons_succ, List.getElem?_cons_zero]; rfl)
  case td7 => exact rfl
  case tg7 => exact rfl
  case ty7 => (intro w hSw; (try dsimp only at hSw); go_split_ands; go_simp; try with_reducible rfl)
  simp only [List.setIfInBounds_toArray, List.set_cons_zero, List.set_cons_succ]
  refine' takeV 8 (oi := _) (d := _) (v := _) ?ti8 ?td8 (by kernel_rfl) (by kernel_rfl) (by kernel_rfl) (by kernel_rfl) (by decide) (fun _ _ _ _ _ h => h) ?tg8 ?ty8 (by assumption) ?tr8
  case ti8 => (simp only [List.getElem?_toArray, List.getElem?_cons_succ, List.getElem?_cons_zero]; rfl)
  case td8 => exact rfl
  case tg8 => exact rfl
  case ty8 => (intro w hSw; (try dsimp only at hSw); go_split_ands; go_simp; try with_reducible rfl)
  simp only [List.setIfInBounds_toArray, List.set_cons_zero, List.set_cons_succ]
  refine' takeV 9 (oi := _) (d := _) (v := _) ?ti9 ?td9 (by kernel_rfl) (by kernel_rfl) (by kernel_rfl) (by kernel_rfl) (by decide) (fun _ _ _ _ _ h => h) ?tg9 ?ty9 (by assumption) ?tr9
  case ti9 => (simp only [List.getElem?_toArray, List.getElem?_cons_succ, List.getElem?_cons_zero]; rfl)
  case td9 => exact rfl
  case tg9 => exact rfl
  case ty9 => (intro w hSw; (try dsimp only at hSw); go_split_ands; go_simp; try with_reducible rfl)
  simp only [List.setIfInBounds_toArray, List.set_cons_zero, List.set_cons_succ]
  refine' takeV 10 (oi := _) (d := _) (v := _) ?ti10 ?td10 (by kernel_rfl) (by kernel_rfl) (by kernel_rfl) (by kernel_rfl) (by decide) (fun _ _ _ _ _ h => h) ?tg10 ?ty10 (by assumption) ?tr10
  case ti10 => (simp only [List.getElem?_toArray, List.getElem?_cons_succ, List.getElem?_cons_zero]; rfl)
  case td10 => exact rfl
  case tg10 => exact rfl
  case ty10 => (intro w hSw; (try dsimp only at hSw); go_split_ands; go_simp; try with_reducible rfl)
  simp only [List.setIfInBounds_toArray, List.set_cons_zero, List.set_cons_succ]
  refine' takeV 11 (oi := _) (d := _) (v := _) ?ti11 ?td11 (by kernel_rfl) (by kernel_rfl) (by kernel_rfl) (by kernel_rfl) (by decide) (fun _ _ _ _ _ h => h) ?tg11 ?ty11 (by assumption) ?tr11
  case ti11 => (simp only [List.getElem?_toArray, List.getElem?_cons_succ, List.getElem?_cons_zero]; rfl)
  case td11 => exact rfl
  case tg11 => exact rfl
  case ty11 => (intro w hSw; (try dsimp only at hSw); go_split_ands; go_simp; try with_reducible rfl)
  simp only [List.setIfInBounds_toArray, List.set_cons_zero, List.set_cons_succ]
  obtain ⟨V0, hV0⟩ : ∃ V0, V0 = W.drew := ⟨_, rfl⟩
  have B0 : Hid (Below W.heap.size W V0) := by rw [hV0]; exact (Below.refl _ _).drew
  rw [← hV0]
  clear hV0 hHeld
  have s0 := B0.out.size
  refine stepG 2 (by kernel_rfl) (by simp only [List.getElem?_toArray, List.getElem?_cons_succ, List.getElem?_cons_zero]; rfl) (fun K hK => ?_)
  go_simp
  refine (copy_any A1 n1 c1 Ky _ (HR1.out.below B0.out) hn1).mono ?_
  rintro e w1 ⟨B1, d1, rfl, hown1, hb1⟩
  refine hK.out _ _ ?ts12 (fun hHeld => ?_)
  case ts12 => ((try dsimp only); exact TR.out _ (B0.out.trans (hb1.mono s0)))
  clear hK K
  have O1 : Hid (Own w1 W.heap.size B1 n1 d1 Ky) := Own.mono hown1 s0
  have BB1 := Lib.hid (B0.out.trans (hb1.mono s0))
  have s1 := BB1.out.size
  clear hown1 hb1 hHeld
  refine stepG 5 (by kernel_rfl) (by simp only [List.getElem?_toArray, List.getElem?_cons_succ, List.getElem?_cons_zero]; rfl) (fun K hK => ?_)
  go_simp
  refine (copy_any A2 n2 c2 Va _ (HR2.out.below BB1.out) hn2).mono ?_
  rintro e w2 ⟨B2, d2, rfl, hown2, hb2⟩
  refine hK.out _ _ ?ts13 (fun hHeld => ?_)
  case ts13 => ((try dsimp only); exact TR.out _ (BB1.out.trans (hb2.mono s1)))
  clear hK K
  have O2 : Hid (Own w2 W.heap.size B2 n2 d2 Va) := Own.mono hown2 s1
  have O12 := Lib.hid (O1.out.below hb2)
  have BB2 := Lib.hid (BB1.out.trans (hb2.mono s1))
  have KZ2 := Lib.hid (KZ.out.below BB2.out KZ.out.lt)
  clear hown2 hb2
  refine' takeV 12 (oi := _) (d := _) (v := _) ?ti14 ?td14 (by kernel_rfl) (by kernel_rfl) (by kernel_rfl) (by kernel_rfl) (by decide) (fun _ _ _ _ _ h => h) ?tg14 ?ty14 (by assumption) ?tr14
  case ti14 => (simp only [List.getElem?_toArray, List.getElem?_cons_succ, List.getElem?_cons_zero]; rfl)
  case td14 => exact rfl
  case tg14 => exact rfl
  case ty14 => (intro w hSw; (try dsimp only at hSw); go_split_ands; go_simp; try with_reducible rfl)
  simp only [List.setIfInBounds_toArray, List.set_cons_zero, List.set_cons_succ]
  clear hHeld
  refine stepGate 13 (by kernel_rfl) (by kernel_rfl) (by simp only [List.getElem?_toArray, List.getElem?_cons_succ, List.getElem?_cons_zero]; rfl) (fun K hK => ?_)
  refine step_store_blk rfl 49 (.tmp 2) (.tmp 15) rfl rfl (cs := enC B1 n1 d1 B2 n2 d2 L r s) rfl KZ2.out rfl infoE (enC_one _ _ _ _ _ _ _ _ _) ?_
  intro wa hka hga
  refine hK.out _ _ ?_
  clear hK K
  refine doneG (by kernel_rfl) ?_ _
  have s2 := BB2.out.size
  go_wp2_with fail
  have O1a : Own wa W.heap.size B1 n1 d1 Ky := O12.out.keptE KZ2.out (by decide) hga
  have O2a : Own wa W.heap.size B2 n2 d2 Va := O2.out.keptE KZ2.out (by decide) hga
  have hBa : Below w.heap.size w wa := (HWB.out.trans (BB2.out.mono (Nat.le_of_lt hWs))).grown hga (by omega) (by intro k hk; simp at hk; omega)
  refine bodyPost_ret (v := EnV B1 n1 d1 B2 n2 d2 L r s) (ret_blk (p := 2) rfl rfl hka _ Try.underlying49 rfl infoE) rfl ⟨B1, d1, B2, d2, rfl, O1a.mono (Nat.le_of_lt hWs), O2a.mono (Nat.le_of_lt hWs), hBa⟩
end Go.Proofs.Ytihbpmceggghgaa
