/- The walk of GraftDrops. -/
import Derived.Test.YtgihcjmcefdkiaaGrWoR
set_option linter.unusedVariables false
set_option linter.unusedSimpArgs false
namespace Go.Proofs.Ytgihcjmcefdkiaa
open Go.RowKit

theorem sN_lt {E : Int} {k : Nat} (h : k < 256) : sN E k < 256 := by unfold sN; split <;> omega
set_option maxRecDepth 100000 in
set_option maxHeartbeats 6400000 in
theorem graftDrops_walk (k l : Nat) (A : Option Addr) (n c : Nat) (es : List Ent) (i : Int) (w : World) (hk : k < 256) (hl : l < 256) (h : RdL w A n c es) (hin : esIn es) (hi : i64In i) :
    Calls Try.prog 7 #[NdV k l A n c, .int .i64 i] w fun e w' => e = .returned (.bool true) ∧ Below w.heap.size w w' := by
  have HIW := Lib.hid hi
  obtain ⟨hi1, hi2⟩ := hi
  obtain ⟨W, hW⟩ : ∃ W, W = w.alloc (.cells #[.int .u8 (k : Int), .int .u8 (l : Int), .slice A n c] 24) := ⟨_, rfl⟩
  have HB0 : Hid (Below w.heap.size w W) := by rw [hW]; exact below_new1 _ _
  have N0 : Hid (Nin W w.heap.size k l A n c es) := by rw [hW]; exact Nin.new h k l
  have HWs : Hid (W.heap.size = w.heap.size + 1) := by rw [hW]; exact size_new _ _
  have HLn := Lib.hid h.len
  have HW := Lib.hid hW
  have HIN := Lib.hid hin
  clear h hW hin
  have d0 := N0.out.c0
  have d1 := N0.out.c1
  have d2 := N0.out.c2
  go_enter Try.func7, Try.ntmps7
  go_wp2_with fail
  rw [← HW.out]
  obtain ⟨W1, hW1⟩ : ∃ W1, W1 = W.alloc (.cells #[.int .u8 (k : Int), .int .u8 (l : Int), .slice A n c] 24) := ⟨_, rfl⟩
  have hb0 : Below W.heap.size W W1 := by rw [hW1]; exact below_new1 _ _
  have HM := Lib.hid (lheavy_any (some ⟨w.heap.size + 1, 0, none⟩) 1 1 [es] W1 (RdNs.one (by rw [hW1]; exact Blk.new' _ _ _ _ HWs.out) hk hl (N0.out.below hb0).rd))
  rw [← hW1]
  have HBa := Lib.hid hb0
  have sa := hb0.size
  clear hW1 hb0
  refine HM.out.mono ?_
  rintro e w1 ⟨b, rfl, hbb, hb⟩
  have HB1 : Hid (Below W.heap.size W w1) := HBa.out.trans (hb.mono sa)
  have N1 := Lib.hid (N0.out.below HB1.out)
  have HBB := Lib.hid hbb
  have s0 := HB0.out.size
  have s1 := HB1.out.size
  have HX1 : Hid (Below w.heap.size w w1) := HB0.out.trans (HB1.out.mono s0)
  have sx := HX1.out.size
  clear hb hbb d0 d1 d2 HM
  cases b with
  | true =>
    go_wp2_with (go_at_call 13; refine (known_any _).mono ?_; rintro e w3 ⟨rfl, hb3⟩)
    go_ret
    exact ⟨rfl, HX1.out.trans (hb3.mono sx)⟩
  | false =>
    have HO := Lib.hid (HBB.out rfl 0 (by simp))
    have HN3 : Hid (n ≤ 300) := by show _ ≤ _; rw [HLn.out]; exact HO.out.2
    have HSH := Lib.hid HO.out.short
    clear HBB
    have HC := Lib.hid (copynode_any k l A n c es w1 N1.out.rd (by have := HN3.out; omega) HO.out.1.2)
    have d0 := N1.out.c0
    have d1 := N1.out.c1
    have d2 := N1.out.c2
    go_wp2_with fail
    refine HC.out.mono ?_
    rintro e w2 ⟨A7, c7, rfl, ho, hb⟩
    have HB2 : Hid (Below W.heap.size W w2) := HB1.out.trans (hb.mono s1)
    have s2 := HB2.out.size
    obtain ⟨wc, hwc⟩ : ∃ wc, wc = w2.alloc (.cells #[.int .u8 (k : Int), .int .u8 (l : Int), .slice A7 n c7] 24) := ⟨_, rfl⟩
    have N7 : Hid (Nin wc w2.heap.size k l A7 n c7 es) := ⟨by rw [hwc]; exact Blk.new _ _ _, by rw [hwc]; exact (ho.below (below_new1 _ _)).rdl HLn.out⟩
    have HBc : Hid (Below W.heap.size W wc) := by rw [hwc]; exact HB2.out.alloc s2 _
    have sc := HBc.out.size
    have HWC := Lib.hid hwc
    clear ho hb hwc d0 d1 d2 HC N1 HB1 HB2 HBa HX1
    go_upto_region 4 with fail
    rw [← HWC.out]
    obtain ⟨E, HE⟩ : ∃ E, Hid (woE k l es i = E) := ⟨_, rfl⟩
    obtain ⟨L, HL⟩ : ∃ L, Hid (mE k (dropE es i.toNat) = L) := ⟨_, rfl⟩
    have HC1 := Lib.hid (without_any k l A7 n c7 es i wc N7.out.rd hk hl (by have := HN3.out; omega) HSH.out HIW.out)
    rw [HE.out, HL.out] at HC1
    have d0 := N7.out.c0
    have d1 := N7.out.c1
    have d2 := N7.out.c2
    go_wp2_with fail
    refine HC1.out.mono ?_
    rintro e w4 ⟨A9, c9, rfl, ho9, hb9⟩
    clear d0 d1 d2 HC1
    obtain ⟨k9, HK9⟩ : ∃ k9, Hid (sN E k = k9) := ⟨_, rfl⟩
    obtain ⟨l9, HL9⟩ : ∃ l9, Hid (sN E l = l9) := ⟨_, rfl⟩
    obtain ⟨L9, HLL9⟩ : ∃ L9, Hid (sE E L = L9) := ⟨_, rfl⟩
    obtain ⟨n9, HN9⟩ : ∃ n9, Hid (L9.length = n9) := ⟨_, rfl⟩
    rw [HLL9.out, HN9.out] at ho9
    rw [HK9.out, HL9.out, HLL9.out, HN9.out]
    have hk9 : k9 < 256 := by rw [← HK9.out]; exact sN_lt hk
    have hl9 : l9 < 256 := by rw [← HL9.out]; exact sN_lt hl
    have s4 := hb9.size
    obtain ⟨w5, hw5⟩ : ∃ w5, w5 = w4.alloc (.cells #[.int .u8 (k9 : Int), .int .u8 (l9 : Int), .slice A9 n9 c9] 24) := ⟨_, rfl⟩
    have hb5 : Below wc.heap.size wc w5 := by rw [hw5]; exact hb9.alloc s4 _
    have O9 : Hid (OwnN w5 wc.heap.size A9 n9 c9 L9) := by rw [hw5]; exact ho9.below (below_new1 _ _)
    have N9 : Hid (Nin w5 w4.heap.size k9 l9 A9 n9 c9 L9) := ⟨by rw [hw5]; exact Blk.new _ _ _, O9.out.rdl HN9.out.symm⟩
    have H5 := Lib.hid hb5
    have hW5 : Below W.heap.size W w5 := HBc.out.trans (hb5.mono sc)
    have N5 := Lib.hid (N0.out.below hW5)
    have HW5 := Lib.hid hw5
    have s5 := hb5.size
    have HC2 := Lib.hid (refwithout_any k l A n c es i w5 N5.out.rd hk hl (by have := HN3.out; omega) HSH.out HIW.out)
    rw [HE.out, HL.out] at HC2
    clear ho9 hb9 hb5 hw5 hW5
    go_upto_region 5 with fail
    rw [← HW5.out]
    have d0 := N5.out.c0
    have d1 := N5.out.c1
    have d2 := N5.out.c2
    go_wp2_with fail
    refine HC2.out.mono ?_
    rintro e w6 ⟨A10, c10, rfl, ho10, hb10⟩
    clear d0 d1 d2 HC2
    rw [HLL9.out, HN9.out] at ho10
    rw [HK9.out, HL9.out, HLL9.out, HN9.out]
    have s6 := hb10.size
    obtain ⟨w7, hw7⟩ : ∃ w7, w7 = w6.alloc (.cells #[.int .u8 (k9 : Int), .int .u8 (l9 : Int), .slice A10 n9 c10] 24) := ⟨_, rfl⟩
    have hb7 : Below w5.heap.size w5 w7 := by rw [hw7]; exact hb10.alloc s6 _
    have NA : Hid (Nin w7 w6.heap.size k9 l9 A10 n9 c10 L9) := ⟨by rw [hw7]; exact Blk.new _ _ _, by rw [hw7]; exact (ho10.below (below_new1 _ _)).rdl HN9.out.symm⟩
    go_upto_region 6 with fail
    rw [← hw7]
    have N9b := Lib.hid (N9.out.below hb7)
    have O9b := Lib.hid (O9.out.below hb7)
    have H7 : Hid (Below wc.heap.size wc w7) := H5.out.trans (hb7.mono s5)
    have s7 := H7.out.size
    clear ho10 hb10 hb7 hw7 O9 N9 H5 N5
    have HC3 := Lib.hid (refsame_any k9 l9 A9 n9 c9 L9 k9 l9 A10 n9 c10 L9 w7 N9b.out.rd NA.out.rd hk9 hl9 hk9 hl9)
    rw [sameN_refl] at HC3
    have d0 := N9b.out.c0
    have d1 := N9b.out.c1
    have d2 := N9b.out.c2
    have y0 := NA.out.c0
    have y1 := NA.out.c1
    have y2 := NA.out.c2
    have tokE : (E == E) = true := beq_self_eq_true _
    go_wp2_with fail
    refine HC3.out.mono ?_
    rintro e w8 ⟨rfl, hb8⟩
    have N9c := Lib.hid (N9b.out.below hb8)
    have O9c := Lib.hid (O9b.out.below hb8)
    have H8 : Hid (Below wc.heap.size wc w8) := H7.out.trans (hb8.mono s7)
    have s8 := H8.out.size
    clear hb8 d0 d1 d2 y0 y1 y2 HC3 NA O9b N9b H7
    have HC4 := Lib.hid (spoil_any k9 l9 A9 n9 c9 L9 wc.heap.size w8 O9c.out s8)
    have d0 := N9c.out.c0
    have d1 := N9c.out.c1
    have d2 := N9c.out.c2
    go_wp2_with fail
    refine HC4.out.mono ?_
    rintro e w9 ⟨rfl, hb9⟩
    have H9 : Hid (Below wc.heap.size wc w9) := H8.out.trans hb9
    have s9 := H9.out.size
    clear hb9 d0 d1 d2 HC4 O9c N9c H8
    have hW9 : Below W.heap.size W w9 := HBc.out.trans (H9.out.mono sc)
    have N7b := Lib.hid (N7.out.below H9.out)
    have N0b := Lib.hid (N0.out.below hW9)
    have HW9 := Lib.hid hW9
    have HC5 := Lib.hid (refsame_any k l A7 n c7 es k l A n c es w9 N7b.out.rd N0b.out.rd hk hl hk hl)
    rw [sameN_refl] at HC5
    clear hW9 N7
    have d0 := N7b.out.c0
    have d1 := N7b.out.c1
    have d2 := N7b.out.c2
    have y0 := N0b.out.c0
    have y1 := N0b.out.c1
    have y2 := N0b.out.c2
    go_wp2_with fail
    refine HC5.out.mono ?_
    rintro e wa ⟨rfl, hba⟩
    have Ha : Hid (Below W.heap.size W wa) := HW9.out.trans (hba.mono HW9.out.size)
    have sa2 := Ha.out.size
    clear hba d0 d1 d2 y0 y1 y2 HC5 HW9 N0b N7b
    go_wp2_with fail
    refine (known_any wa).mono ?_
    rintro e wf ⟨rfl, hbf⟩
    have Hf : Hid (Below W.heap.size W wf) := Ha.out.trans (hbf.mono sa2)
    clear hbf
    go_wp2_with fail
    go_ret
    exact ⟨rfl, HB0.out.trans (Hf.out.mono s0)⟩
end Go.Proofs.Ytgihcjmcefdkiaa
