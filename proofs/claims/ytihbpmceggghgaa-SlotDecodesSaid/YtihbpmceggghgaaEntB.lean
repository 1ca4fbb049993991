/- Contracts: a Ref's bytes, as slot has them and as the reference does. -/
import Derived.Test.YtihbpmceggghgaaRightR
set_option linter.unusedVariables false
set_option linter.unusedSimpArgs false
namespace Go.Proofs.Ytihbpmceggghgaa
open Go.RowKit

set_option maxHeartbeats 800000 in
theorem refrf_any (r : Rf) (hr : rfIn r) (w : World) :
    Calls Try.prog 59 #[RfV r] w fun e w' => ∃ A k, e = .returned (.slice A 14 k) ∧ Own w' w.heap.size A 14 k (rfB r) ∧ Below w.heap.size w w' := by
  obtain ⟨hp, hc, hg⟩ := hr
  obtain ⟨p, c, g⟩ := r
  dsimp only at hp hc hg
  have HK : Hid (Blk (w.alloc (.cells #[.int .u32 p, .int .u64 c, .int .u16 g] 47)) w.heap.size 47 #[.int .u32 p, .int .u64 c, .int .u16 g]) := Blk.new _ _ _
  have HB : Hid (Below w.heap.size w (w.alloc (.cells #[.int .u32 p, .int .u64 c, .int .u16 g] 47))) := below_new1 _ _
  show Calls Try.prog 59 #[.agg #[.int .u32 (p : Int), .int .u64 (c : Int), .int .u16 (g : Int)]] w _
  have e : rfB (p, c, g) = be p 4 ++ be c 8 ++ be g 2 := rfl
  rw [e]
  clear e
  go_enter Try.func59, Try.ntmps59
  go_wp2_with fail
  refine (of_any p 4 _ (by omega) (by omega)).mono ?_
  rintro e w1 ⟨A1, c1, rfl, hown1, hb1⟩
  have HK1 := Lib.hid (HK.out.below hb1 HK.out.lt)
  have HB1 := Lib.hid (HB.out.trans (hb1.mono HB.out.size))
  have HO1 : Hid (Own w1 w.heap.size A1 4 c1 (be p 4)) := Own.mono hown1 HB.out.size
  clear hown1 hb1
  have d1 : w1.cell? ⟨w.heap.size, 1, none⟩ = some (.int .u64 c) := HK1.out.cell 1
  go_wp2_with fail
  refine (of_any c 8 _ (by omega) (by omega)).mono ?_
  rintro e w2 ⟨A2, c2, rfl, hown2, hb2⟩
  have HK2 := Lib.hid (HK1.out.below hb2 HK1.out.lt)
  have HB2 := Lib.hid (HB1.out.trans (hb2.mono HB1.out.size))
  have HO12 := Lib.hid (HO1.out.below hb2)
  have HO2 : Hid (Own w2 w.heap.size A2 8 c2 (be c 8)) := Own.mono hown2 HB1.out.size
  clear hown2 hb2
  have d2 : w2.cell? ⟨w.heap.size, 2, none⟩ = some (.int .u16 g) := HK2.out.cell 2
  go_wp2_with fail
  refine (of_any g 2 _ (by omega) (by omega)).mono ?_
  rintro e w3 ⟨A3, c3, rfl, hown3, hb3⟩
  have HB3 := Lib.hid (HB2.out.trans (hb3.mono HB2.out.size))
  have HO13 := Lib.hid (HO12.out.below hb3)
  have HO23 := Lib.hid (HO2.out.below hb3)
  have HO3 : Hid (Own w3 w2.heap.size A3 2 c3 (be g 2)) := hown3
  clear hown3 hb3
  go_wp2_with (first
    | (at_builtin; refine wpList_app 34 Try.underlying34 rfl (.tmp 29) (.tmp 30) rfl rfl rfl HO13.out HO23.out.rd HB3.out.size (by omega) ?_; intro A4 c4 w4 hown4 hg4 hb4; have HO4 := Lib.hid hown4; have HO34 := Lib.hid (HO3.out.sep hg4 HO12.out.lt); have HB4 := Lib.hid hb4; clear hown4 hg4 hb4)
    | (at_builtin; refine wpList_app 34 Try.underlying34 rfl (.tmp 32) (.tmp 33) rfl rfl rfl HO4.out HO34.out.rd (Nat.le_trans HB3.out.size HB4.out.size) (by omega) ?_; intro A5 c5 w5 hown5 hg5 hb5; have HO5 := Lib.hid hown5; have HB5 := Lib.hid hb5; clear hown5 hg5 hb5))
  go_ret
  exact ⟨A5, c5, rfl, HO5.out, HB3.out.trans (HB4.out.trans HB5.out)⟩
theorem RdS.of_blk {w : World} {b : Nat} {T : TypeId} {cs : List Value} {ls : List (List UInt8)} (h : Blk w b T cs.toArray) (hl : ls.length = cs.length) (hm : cs.length ≤ maxLen)
    (he : ∀ j, j < cs.length → ∃ A n c, cs[j]? = some (.slice A n c) ∧ Rd w A n c (ls.getD j [])) : RdS w (some ⟨b, 0, none⟩) cs.length cs.length ls :=
  ⟨hl.symm, Nat.le_refl _, hm, fun _ => ⟨b, 0, rfl, fun j hj => by
    obtain ⟨A, n, c, h1, h2⟩ := he j hj
    refine ⟨A, n, c, ?_, h2⟩
    rw [Nat.zero_add, h.cell j]
    simpa using h1⟩⟩
set_option maxHeartbeats 800000 in
theorem ref_any (r : Rf) (hr : rfIn r) (w : World) :
    Calls Try.prog 57 #[RfV r] w fun e w' => ∃ A k, e = .returned (.slice A 14 k) ∧ Own w' w.heap.size A 14 k (rfB r) ∧ Below w.heap.size w w' := by
  obtain ⟨hp, hq, hg⟩ := hr
  obtain ⟨p, q, g⟩ := r
  dsimp only at hp hq hg
  have HK : Hid (Blk (w.alloc (.cells #[.int .u32 p, .int .u64 q, .int .u16 g] 47)) w.heap.size 47 #[.int .u32 p, .int .u64 q, .int .u16 g]) := Blk.new _ _ _
  have HB : Hid (Below w.heap.size w (w.alloc (.cells #[.int .u32 p, .int .u64 q, .int .u16 g] 47))) := below_new1 _ _
  show Calls Try.prog 57 #[.agg #[.int .u32 (p : Int), .int .u64 (q : Int), .int .u16 (g : Int)]] w _
  have e : rfB (p, q, g) = be p 4 ++ be q 8 ++ be g 2 := rfl
  rw [e]
  clear e
  go_enter Try.func57, Try.ntmps57
  go_wp2_with fail
  refine (put_loop p 4 _ (by omega) (by omega) (by omega) (by intro _; omega)).mono ?_
  rintro e w1 ⟨A1, c1, rfl, hown1, hb1⟩
  have HK1 := Lib.hid (HK.out.below hb1 HK.out.lt)
  have HB1 := Lib.hid (HB.out.trans (hb1.mono HB.out.size))
  have HO1 : Hid (Own w1 w.heap.size A1 4 c1 (be p 4)) := Own.mono hown1 HB.out.size
  clear hown1 hb1
  have d1 : w1.cell? ⟨w.heap.size, 1, none⟩ = some (.int .u64 q) := HK1.out.cell 1
  go_wp2_with fail
  refine (put_loop q 8 _ (by omega) (by omega) (by omega) (by omega)).mono ?_
  rintro e w2 ⟨A2, c2, rfl, hown2, hb2⟩
  have HK2 := Lib.hid (HK1.out.below hb2 HK1.out.lt)
  have HB2 := Lib.hid (HB1.out.trans (hb2.mono HB1.out.size))
  have HO12 := Lib.hid (HO1.out.below hb2)
  have HO2 : Hid (Own w2 w.heap.size A2 8 c2 (be q 8)) := Own.mono hown2 HB1.out.size
  clear hown2 hb2
  have d2 : w2.cell? ⟨w.heap.size, 2, none⟩ = some (.int .u16 g) := HK2.out.cell 2
  go_wp2_with fail
  refine (put_loop g 2 _ (by omega) (by omega) (by omega) (by intro _; omega)).mono ?_
  rintro e w3 ⟨A3, c3, rfl, hown3, hb3⟩
  have HB3 := Lib.hid (HB2.out.trans (hb3.mono HB2.out.size))
  have HO13 := Lib.hid (HO12.out.below hb3)
  have HO23 := Lib.hid (HO2.out.below hb3)
  have HO3 : Hid (Own w3 w.heap.size A3 2 c3 (be g 2)) := Own.mono hown3 HB2.out.size
  clear hown3 hb3
  go_wp2_with fail
  have hflat : [be p 4, be q 8, be g 2].flatten = be p 4 ++ be q 8 ++ be g 2 := by simp
  have hlen : (be p 4 ++ be q 8 ++ be g 2).length = 14 := by simp [be_length]
  have HS : RdS (w3.alloc (.cells #[.slice A1 4 c1, .slice A2 8 c2, .slice A3 2 c3] 34)) (some ⟨w3.heap.size, 0, none⟩) 3 3 [be p 4, be q 8, be g 2] := by
    have bn := below_new1 w3 (.cells #[.slice A1 4 c1, .slice A2 8 c2, .slice A3 2 c3] 34)
    refine RdS.of_blk (cs := [.slice A1 4 c1, .slice A2 8 c2, .slice A3 2 c3]) (T := 34) (Blk.new _ _ _) rfl (by unfold maxLen; simp) ?_
    intro j hj
    match j, hj with
    | 0, _ => exact ⟨_, _, _, rfl, HO13.out.rd.below bn⟩
    | 1, _ => exact ⟨_, _, _, rfl, HO23.out.rd.below bn⟩
    | 2, _ => exact ⟨_, _, _, rfl, HO3.out.rd.below bn⟩
  refine (concat_any _ 3 3 _ _ HS (by rw [hflat, hlen]; omega)).mono ?_
  rw [hflat, hlen]
  rintro e w5 ⟨A5, c5, rfl, hown5, hb5⟩
  have bn : Below w.heap.size w (w3.alloc (.cells #[.slice A1 4 c1, .slice A2 8 c2, .slice A3 2 c3] 34)) := HB3.out.alloc HB3.out.size _
  have HB5 := Lib.hid (bn.trans (hb5.mono bn.size))
  have HO5 : Hid (Own w5 w.heap.size A5 14 c5 (be p 4 ++ be q 8 ++ be g 2)) := Own.mono hown5 bn.size
  clear hown5 hb5 bn HS hflat hlen
  go_wp2
  go_ret
  exact ⟨A5, c5, rfl, HO5.out, HB5.out⟩
end Go.Proofs.Ytihbpmceggghgaa
