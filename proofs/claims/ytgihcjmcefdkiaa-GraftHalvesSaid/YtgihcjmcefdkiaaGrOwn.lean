/- Contracts: graft.own. -/
import Derived.Test.YtgihcjmcefdkiaaSpoil
set_option linter.unusedVariables false
set_option linter.unusedSimpArgs false
namespace Go.Proofs.Ytgihcjmcefdkiaa
open Go.RowKit

set_option maxRecDepth 100000 in
set_option maxHeartbeats 3200000 in
theorem own_any (A1 : Option Addr) (n1 c1 : Nat) (A2 : Option Addr) (n2 c2 : Nat) (L : Int) (r s : Rf) (Ky Va : List UInt8) (w : World) (h1 : Rd w A1 n1 c1 Ky) (h2 : Rd w A2 n2 c2 Va) (hn1 : n1 ≤ 140737488355328) (hn2 : n2 ≤ 140737488355328) :
    Calls Try.prog 60 #[EnV A1 n1 c1 A2 n2 c2 L r s] w fun e w' => ∃ B1 d1 B2 d2, e = .returned (EnV B1 n1 d1 B2 n2 d2 L r s) ∧ Own w' w.heap.size B1 n1 d1 Ky ∧ Own w' w.heap.size B2 n2 d2 Va ∧ Below w.heap.size w w' := by
  obtain ⟨W, hW⟩ : ∃ W, W = (w.alloc (.cells (enA A1 n1 c1 A2 n2 c2 L r s) 46)).alloc (.cells #[.slice none 0 0, .slice none 0 0, .int .i64 0, .int .u32 0, .int .u64 0, .int .u16 0, .int .u32 0, .int .u64 0, .int .u16 0] 46) := ⟨_, rfl⟩
  have HWB : Hid (Below w.heap.size w W) := by rw [hW]; exact (below_new _ _).alloc (by simp) _
  have KX : Hid (Blk W w.heap.size 46 (enA A1 n1 c1 A2 n2 c2 L r s)) := by rw [hW]; exact (Blk.new _ _ _).alloc _
  have KZ : Hid (Blk W (w.heap.size + 1) 46 zE.toArray) := by rw [hW]; exact Blk.new' _ _ _ _ (by simp)
  have HR1 := Lib.hid (h1.below HWB.out)
  have h2 := Lib.hid h2
  have HW := Lib.hid hW
  have hWs : w.heap.size + 1 < W.heap.size := KZ.out.lt
  clear h1 hW
  go_enter Try.func60, Try.ntmps60
  go_upto_region 1 with fail
  rw [← HW.out]
  have hs0 : W.heap.size < (W.alloc (.cells #[] 5)).heap.size := by simp
  have HF1 : Hid (Own (W.alloc (.cells #[] 5)) W.heap.size (some ⟨W.heap.size, 0, none⟩) 0 0 []) := Own.fresh W W.heap.size [] 0 rfl (by omega) (Nat.le_refl _)
  have HRa := Lib.hid (HR1.out.below (below_new W (.cells #[] 5)))
  have KXa := Lib.hid (KX.out.alloc (.cells #[] 5))
  have d0 : (W.alloc (.cells #[] 5)).cell? ⟨w.heap.size, 0, none⟩ = some (.slice A1 n1 c1) := KXa.out.cell 0
  go_upto_region 2 with (at_builtin; refine wpList_app 28 Try.underlying28 rfl (.tmp 3) (.tmp 5) rfl rfl rfl HF1.out HRa.out (Nat.le_of_lt hs0) (by omega) ?_; intro B1 d1 W1 hown1 hg1 hb1; have KX1 := Lib.hid (HF1.out.keep_blk KXa.out (by decide) hg1); have e0 := KX1.out.cell 0; have f0 := KX1.out.frozen 0)
  have O1 : Hid (Own W1 W.heap.size B1 n1 d1 Ky) := by rw [Nat.zero_add, List.nil_append] at hown1; exact hown1
  have BB1 : Hid (Below W.heap.size W W1) := (below_new W _).trans hb1
  clear hown1 hg1 hb1 e0 f0 d0 KXa HRa HF1
  obtain ⟨W2, hW2⟩ : ∃ W2, W2 = W1.setCell ⟨w.heap.size, 0, none⟩ (.slice B1 n1 d1) := ⟨_, rfl⟩
  have hg2 : W1.grownBy W2 (some w.heap.size) := by rw [hW2]; exact grown_setCell _ _ _ _
  have KX2 : Hid (Blk W2 w.heap.size 46 (enA B1 n1 d1 A2 n2 c2 L r s)) := by rw [hW2]; exact KX1.out.set_ 0 _
  have O2 : Hid (Own W2 W.heap.size B1 n1 d1 Ky) := O1.out.keptE KX1.out (by decide) hg2
  have s1 := BB1.out.size
  have BB2 : Hid (Below w.heap.size w W2) := (HWB.out.trans (BB1.out.mono (by omega))).grown hg2 (by omega) (by intro k hk; simp at hk; omega)
  have KZ2 : Hid (Blk W2 (w.heap.size + 1) 46 zE.toArray) := (KZ.out.below BB1.out KZ.out.lt).keep_grown hg2 (by simp)
  have HR2' : Hid (Rd W2 A2 n2 c2 Va) := h2.out.below BB2.out
  rw [← hW2]
  clear hW2 hg2 O1 KX1 KX
  have s2 := BB2.out.size
  have hs2 : W2.heap.size < (W2.alloc (.cells #[] 5)).heap.size := by simp
  have HF2 : Hid (Own (W2.alloc (.cells #[] 5)) W2.heap.size (some ⟨W2.heap.size, 0, none⟩) 0 0 []) := Own.fresh W2 W2.heap.size [] 0 rfl (by omega) (Nat.le_refl _)
  have HRb := Lib.hid (HR2'.out.below (below_new W2 (.cells #[] 5)))
  have KXb := Lib.hid (KX2.out.alloc (.cells #[] 5))
  have d1' : (W2.alloc (.cells #[] 5)).cell? ⟨w.heap.size, 1, none⟩ = some (.slice A2 n2 c2) := KXb.out.cell 1
  go_upto_region 3 with (at_builtin; refine wpList_app 28 Try.underlying28 rfl (.tmp 8) (.tmp 10) rfl rfl rfl HF2.out HRb.out (Nat.le_of_lt hs2) (by omega) ?_; intro B2 d2 W3 hown3 hg3 hb3; have KX3 := Lib.hid (HF2.out.keep_blk KXb.out (by decide) hg3); have e1 := KX3.out.cell 1; have f1 := KX3.out.frozen 1)
  have O3 : Hid (Own W3 W2.heap.size B2 n2 d2 Va) := by rw [Nat.zero_add, List.nil_append] at hown3; exact hown3
  have BB3 : Hid (Below W2.heap.size W2 W3) := (below_new W2 _).trans hb3
  clear hown3 hg3 hb3 e1 f1 d1' KXb HRb HF2
  obtain ⟨W4, hW4⟩ : ∃ W4, W4 = W3.setCell ⟨w.heap.size, 1, none⟩ (.slice B2 n2 d2) := ⟨_, rfl⟩
  have hg4 : W3.grownBy W4 (some w.heap.size) := by rw [hW4]; exact grown_setCell _ _ _ _
  have KX4 : Hid (Blk W4 w.heap.size 46 (enA B1 n1 d1 B2 n2 d2 L r s)) := by rw [hW4]; exact KX3.out.set_ 1 _
  have P4 : Hid (Own W4 W2.heap.size B2 n2 d2 Va) := O3.out.keptE KX3.out (by decide) hg4
  have O4 : Hid (Own W4 W.heap.size B1 n1 d1 Ky) := (O2.out.below BB3.out).keptE KX3.out (by decide) hg4
  have s3 := BB3.out.size
  have BB4 : Hid (Below w.heap.size w W4) := (BB2.out.trans (BB3.out.mono (by omega))).grown hg4 (by omega) (by intro k hk; simp at hk; omega)
  have KZ4 : Hid (Blk W4 (w.heap.size + 1) 46 zE.toArray) := (KZ2.out.below BB3.out KZ2.out.lt).keep_grown hg4 (by simp)
  rw [← hW4]
  clear hW4 hg4 O3 KX3 KX2 O2
  have x0 := KX4.out.cell 0
  have x1 := KX4.out.cell 1
  have x2 := KX4.out.cell 2
  have x3 := KX4.out.cell 3
  have x4 := KX4.out.cell 4
  have x5 := KX4.out.cell 5
  have x6 := KX4.out.cell 6
  have x7 := KX4.out.cell 7
  have x8 := KX4.out.cell 8
  have hlz : zE.length = (enC B1 n1 d1 B2 n2 d2 L r s).length := rfl
  have hiz : (Try.prog.info? 46).map (·.size) = some (enC B1 n1 d1 B2 n2 d2 L r s).length := infoE
  go_wp2_with (with_reducible refine wpList_store_blk rfl 46 (.tmp 2) (.tmp 13) rfl rfl (cs := enC B1 n1 d1 B2 n2 d2 L r s) rfl KZ4.out hlz hiz (enC_one _ _ _ _ _ _ _ _ _) ?_; intro W5 hk5 hg5)
  have s4 := BB4.out.size
  have hB5 : Below w.heap.size w W5 := BB4.out.grown hg5 (by omega) (by intro k hk; simp at hk; omega)
  refine bodyPost_ret (v := EnV B1 n1 d1 B2 n2 d2 L r s) (ret_blk (p := 2) rfl rfl hk5 _ Try.underlying46 rfl infoE) rfl ⟨B1, d1, B2, d2, rfl, (O4.out.keptE KZ4.out (by decide) hg5).mono (by omega), (P4.out.keptE KZ4.out (by decide) hg5).mono (by omega), hB5⟩
end Go.Proofs.Ytgihcjmcefdkiaa
