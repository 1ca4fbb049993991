/- The walk of GraftSplits. -/
import Derived.Test.YtgihcjmcefdkiaaGrSplR
import Derived.Test.YtgihcjmcefdkiaaSpoil2
set_option linter.unusedVariables false
set_option linter.unusedSimpArgs false
namespace Go.Proofs.Ytgihcjmcefdkiaa
open Go.RowKit

theorem splN_lt {k l x : Nat} {es : List Ent} (h : x < 256) : splN k l es x < 256 := by unfold splN; split <;> omega
set_option maxRecDepth 100000 in
set_option maxHeartbeats 6400000 in
theorem graftSplits_walk (k l : Nat) (A : Option Addr) (n c : Nat) (es : List Ent) (w : World) (hk : k < 256) (hl : l < 256) (h : RdL w A n c es) (hin : esIn es) :
    Calls Try.prog 3 #[NdV k l A n c] w fun e w' => e = .returned (.bool true) ∧ Below w.heap.size w w' := by
  obtain ⟨W, hW⟩ : ∃ W, W = w.alloc (.cells #[.int .u8 (k : Int), .int .u8 (l : Int), .slice A n c] 24) := ⟨_, rfl⟩
  have HB0 : Hid (Below w.heap.size w W) := by rw [hW]; exact below_new1 _ _
  have N0 : Hid (Nin W w.heap.size k l A n c es) := by rw [hW]; exact Nin.new h k l
  have HWs : Hid (W.heap.size = w.heap.size + 1) := by rw [hW]; exact size_new _ _
  have HLn := Lib.hid h.len
  have HW := Lib.hid hW
  have HIN := Lib.hid hin
  clear h hW hin
  have d0 := N0.out.c0
  have d1 := N0.out.c1
  have d2 := N0.out.c2
  go_enter Try.func3, Try.ntmps3
  go_wp2_with fail
  rw [← HW.out]
  obtain ⟨W1, hW1⟩ : ∃ W1, W1 = W.alloc (.cells #[.int .u8 (k : Int), .int .u8 (l : Int), .slice A n c] 24) := ⟨_, rfl⟩
  have hb0 : Below W.heap.size W W1 := by rw [hW1]; exact below_new1 _ _
  have HM := Lib.hid (lheavy_any (some ⟨w.heap.size + 1, 0, none⟩) 1 1 [es] W1 (RdNs.one (by rw [hW1]; exact Blk.new' _ _ _ _ HWs.out) hk hl (N0.out.below hb0).rd))
  rw [← hW1]
  have HBa := Lib.hid hb0
  have sa := hb0.size
  clear hW1 hb0
  refine HM.out.mono ?_
  rintro e w1 ⟨b, rfl, hbb, hb⟩
  have HB1 : Hid (Below W.heap.size W w1) := HBa.out.trans (hb.mono sa)
  have N1 := Lib.hid (N0.out.below HB1.out)
  have HBB := Lib.hid hbb
  have s0 := HB0.out.size
  have s1 := HB1.out.size
  have HX1 : Hid (Below w.heap.size w w1) := HB0.out.trans (HB1.out.mono s0)
  have sx := HX1.out.size
  clear hb hbb d0 d1 d2 HM
  cases b with
  | true =>
    go_wp2_with (go_at_call 13; refine (known_any _).mono ?_; rintro e w3 ⟨rfl, hb3⟩)
    go_ret
    exact ⟨rfl, HX1.out.trans (hb3.mono sx)⟩
  | false =>
    have HO := Lib.hid (HBB.out rfl 0 (by simp))
    have HN3 : Hid (n ≤ 300) := by show _ ≤ _; rw [HLn.out]; exact HO.out.2
    have HSH := Lib.hid HO.out.short
    clear HBB
    have HC := Lib.hid (copynode_any k l A n c es w1 N1.out.rd (by have := HN3.out; omega) HO.out.1.2)
    have d0 := N1.out.c0
    have d1 := N1.out.c1
    have d2 := N1.out.c2
    go_wp2_with fail
    refine HC.out.mono ?_
    rintro e w2 ⟨A7, c7, rfl, ho, hb⟩
    have HB2 : Hid (Below W.heap.size W w2) := HB1.out.trans (hb.mono s1)
    have s2 := HB2.out.size
    obtain ⟨wc, hwc⟩ : ∃ wc, wc = w2.alloc (.cells #[.int .u8 (k : Int), .int .u8 (l : Int), .slice A7 n c7] 24) := ⟨_, rfl⟩
    have N7 : Hid (Nin wc w2.heap.size k l A7 n c7 es) := ⟨by rw [hwc]; exact Blk.new _ _ _, by rw [hwc]; exact (ho.below (below_new1 _ _)).rdl HLn.out⟩
    have HBc : Hid (Below W.heap.size W wc) := by rw [hwc]; exact HB2.out.alloc s2 _
    have sc := HBc.out.size
    have HWC := Lib.hid hwc
    clear ho hb hwc d0 d1 d2 HC N1 HB1 HB2 HBa HX1
    go_upto_region 4 with fail
    rw [← HWC.out]
    obtain ⟨E, HE⟩ : ∃ E, Hid (splE k l es = E) := ⟨_, rfl⟩
    obtain ⟨k9, HK9⟩ : ∃ k9, Hid (splN k l es k = k9) := ⟨_, rfl⟩
    obtain ⟨l9, HL9⟩ : ∃ l9, Hid (splN k l es l = l9) := ⟨_, rfl⟩
    obtain ⟨LA, HLA⟩ : ∃ LA, Hid (splA k l es = LA) := ⟨_, rfl⟩
    obtain ⟨LB, HLB⟩ : ∃ LB, Hid (splB k l es = LB) := ⟨_, rfl⟩
    obtain ⟨LK, HLK⟩ : ∃ LK, Hid (splK k l es = LK) := ⟨_, rfl⟩
    obtain ⟨nA, HNA⟩ : ∃ nA, Hid (LA.length = nA) := ⟨_, rfl⟩
    obtain ⟨nB, HNB⟩ : ∃ nB, Hid (LB.length = nB) := ⟨_, rfl⟩
    have hk9 : k9 < 256 := by rw [← HK9.out]; exact splN_lt hk
    have hl9 : l9 < 256 := by rw [← HL9.out]; exact splN_lt hl
    have HC1 := Lib.hid (split_any k l A7 n c7 es wc N7.out.rd hk hl HIN.out (by have := HN3.out; omega) HSH.out)
    have d0 := N7.out.c0
    have d1 := N7.out.c1
    have d2 := N7.out.c2
    go_wp2_with fail
    refine HC1.out.mono ?_
    rintro e w4 ⟨A1, c1, A2, c2, B, m, d, rfl, ho1, ho2, ho3, hb9, hdis⟩
    rw [HLA.out, HNA.out] at ho1
    rw [HLB.out, HNB.out] at ho2
    rw [HLK.out] at ho3
    rw [HK9.out, HL9.out, HLA.out, HLB.out, HNA.out, HNB.out, HE.out]
    have s4 := hb9.size
    obtain ⟨w5, hw5⟩ : ∃ w5, w5 = (w4.alloc (.cells #[.int .u8 (k9 : Int), .int .u8 (l9 : Int), .slice A1 nA c1] 24)).alloc (.cells #[.int .u8 (k9 : Int), .int .u8 (l9 : Int), .slice A2 nB c2] 24) := ⟨_, rfl⟩
    have hx5 : Below w4.heap.size w4 w5 := by rw [hw5]; exact (below_new _ _).alloc (by simp) _
    have hb5 : Below wc.heap.size wc w5 := hb9.trans (hx5.mono s4)
    have O1 := Lib.hid (ho1.below hx5)
    have O2 := Lib.hid (ho2.below hx5)
    have O3 := Lib.hid (ho3.below hx5)
    have M1 : Hid (Nin w5 w4.heap.size k9 l9 A1 nA c1 LA) := ⟨by rw [hw5]; exact (Blk.new _ _ _).alloc _, O1.out.rdl HNA.out.symm⟩
    have M2 : Hid (Nin w5 (w4.heap.size + 1) k9 l9 A2 nB c2 LB) := ⟨by rw [hw5]; exact Blk.new' _ _ _ _ (by simp), O2.out.rdl HNB.out.symm⟩
    have H5 := Lib.hid hb5
    have HDIS := Lib.hid hdis
    have hW5 : Below W.heap.size W w5 := HBc.out.trans (hb5.mono sc)
    have N5 := Lib.hid (N0.out.below hW5)
    have HW5 := Lib.hid hw5
    have s5 := hb5.size
    have HC2 := Lib.hid (refsplit_any k l A n c es w5 N5.out.rd hk hl HIN.out (by have := HN3.out; omega) HSH.out)
    clear ho1 ho2 ho3 hb9 hb5 hx5 hw5 hW5 hdis d0 d1 d2 HC1
    go_upto_region 5 with fail
    rw [← HW5.out]
    have d0 := N5.out.c0
    have d1 := N5.out.c1
    have d2 := N5.out.c2
    go_wp2_with fail
    refine HC2.out.mono ?_
    rintro e w6 ⟨A3, c3, A4, c4, B', m', d', rfl, ho1, ho2, ho3, hb10, _⟩
    clear d0 d1 d2 HC2
    rw [HLA.out, HNA.out] at ho1
    rw [HLB.out, HNB.out] at ho2
    rw [HLK.out] at ho3
    rw [HK9.out, HL9.out, HLA.out, HLB.out, HNA.out, HNB.out, HE.out]
    have s6 := hb10.size
    obtain ⟨w7, hw7⟩ : ∃ w7, w7 = (w6.alloc (.cells #[.int .u8 (k9 : Int), .int .u8 (l9 : Int), .slice A3 nA c3] 24)).alloc (.cells #[.int .u8 (k9 : Int), .int .u8 (l9 : Int), .slice A4 nB c4] 24) := ⟨_, rfl⟩
    have hx7 : Below w6.heap.size w6 w7 := by rw [hw7]; exact (below_new _ _).alloc (by simp) _
    have hb7 : Below w5.heap.size w5 w7 := hb10.trans (hx7.mono s6)
    have P1 : Hid (Nin w7 w6.heap.size k9 l9 A3 nA c3 LA) := ⟨by rw [hw7]; exact (Blk.new _ _ _).alloc _, (ho1.below hx7).rdl HNA.out.symm⟩
    have P2 : Hid (Nin w7 (w6.heap.size + 1) k9 l9 A4 nB c4 LB) := ⟨by rw [hw7]; exact Blk.new' _ _ _ _ (by simp), (ho2.below hx7).rdl HNB.out.symm⟩
    have P3 := Lib.hid (ho3.below hx7).rd
    go_upto_region 6 with fail
    rw [← hw7]
    have M1b := Lib.hid (M1.out.below hb7)
    have M2b := Lib.hid (M2.out.below hb7)
    have O1b := Lib.hid (O1.out.below hb7)
    have O2b := Lib.hid (O2.out.below hb7)
    have O3b := Lib.hid (O3.out.below hb7).rd
    have H7 : Hid (Below wc.heap.size wc w7) := H5.out.trans (hb7.mono s5)
    have s7 := H7.out.size
    clear ho1 ho2 ho3 hb10 hb7 hx7 hw7 O1 O2 O3 M1 M2 H5 N5
    have HC3 := Lib.hid (refsame_any k9 l9 A1 nA c1 LA k9 l9 A3 nA c3 LA w7 M1b.out.rd P1.out.rd hk9 hl9 hk9 hl9)
    rw [sameN_refl] at HC3
    have d0 := M1b.out.c0
    have d1 := M1b.out.c1
    have d2 := M1b.out.c2
    have y0 := P1.out.c0
    have y1 := P1.out.c1
    have y2 := P1.out.c2
    have tokE : (E == E) = true := beq_self_eq_true _
    go_wp2_with fail
    refine HC3.out.mono ?_
    rintro e w8 ⟨rfl, hb8⟩
    have M1c := Lib.hid (M1b.out.below hb8)
    have M2c := Lib.hid (M2b.out.below hb8)
    have P2c := Lib.hid (P2.out.below hb8)
    have O1c := Lib.hid (O1b.out.below hb8)
    have O2c := Lib.hid (O2b.out.below hb8)
    have O3c := Lib.hid (O3b.out.below hb8)
    have P3c := Lib.hid (P3.out.below hb8)
    have H8 : Hid (Below wc.heap.size wc w8) := H7.out.trans (hb8.mono s7)
    have s8 := H8.out.size
    clear hb8 d0 d1 d2 y0 y1 y2 HC3 P1 P2 P3 M1b M2b O1b O2b O3b H7
    have HC3 := Lib.hid (refsame_any k9 l9 A2 nB c2 LB k9 l9 A4 nB c4 LB w8 M2c.out.rd P2c.out.rd hk9 hl9 hk9 hl9)
    rw [sameN_refl] at HC3
    have d0 := M2c.out.c0
    have d1 := M2c.out.c1
    have d2 := M2c.out.c2
    have y0 := P2c.out.c0
    have y1 := P2c.out.c1
    have y2 := P2c.out.c2
    go_wp2_with fail
    refine HC3.out.mono ?_
    rintro e wx ⟨rfl, hb8⟩
    have M1d := Lib.hid (M1c.out.below hb8)
    have M2d := Lib.hid (M2c.out.below hb8)
    have O1d := Lib.hid (O1c.out.below hb8)
    have O2d := Lib.hid (O2c.out.below hb8)
    have O3d := Lib.hid (O3c.out.below hb8)
    have P3d := Lib.hid (P3c.out.below hb8)
    have Hx : Hid (Below wc.heap.size wc wx) := H8.out.trans (hb8.mono s8)
    have sx2 := Hx.out.size
    clear hb8 d0 d1 d2 y0 y1 y2 HC3 P2c M1c M2c O1c O2c O3c P3c H8
    have HC3 := same_any B m d LK B' m' d' LK wx O3d.out P3d.out
    rw [beq_self_eq_true] at HC3
    have HC3' := Lib.hid HC3
    clear HC3
    go_wp2_with fail
    refine HC3'.out.mono ?_
    rintro e _ ⟨rfl, rfl⟩
    clear HC3'
    obtain ⟨cssB, hspB⟩ := O2d.out.sp
    have HC4 := Lib.hid (spoil_keeps (k := k9) (l := l9) ((Keeps.sp (css := cssB) (H' := wc.heap.size) (n' := nB) (c' := c2) HDIS.out).and (Keeps.blk (g := w4.heap.size + 1) (T := 24) (cs := ndA k9 l9 A2 nB c2) (by decide) (by decide))) O1d.out sx2 ⟨hspB, M2d.out.blk⟩)
    clear hspB
    have d0 := M1d.out.c0
    have d1 := M1d.out.c1
    have d2 := M1d.out.c2
    go_wp2_with fail
    refine HC4.out.mono ?_
    rintro e wy ⟨rfl, hb8, hsp, hkb⟩
    have Hy : Hid (Below wc.heap.size wc wy) := Hx.out.trans hb8
    have sy2 := Hy.out.size
    obtain ⟨esB, hoB⟩ := hsp.nN
    have HOB := Lib.hid hoB
    have HKB := Lib.hid hkb
    clear hsp hoB hkb hb8 d0 d1 d2 HC4 M1d M2d O1d O2d O3d P3d Hx
    have HC4 := Lib.hid (spoil_any k9 l9 A2 nB c2 esB wc.heap.size wy HOB.out sy2)
    have d0 := HKB.out.cell 0
    have d1 := HKB.out.cell 1
    have d2 := HKB.out.cell 2
    go_wp2_with fail
    refine HC4.out.mono ?_
    rintro e w9 ⟨rfl, hb9⟩
    have H9 : Hid (Below wc.heap.size wc w9) := Hy.out.trans hb9
    have s9 := H9.out.size
    clear hb9 d0 d1 d2 HC4 HOB HKB Hy
    have hW9 : Below W.heap.size W w9 := HBc.out.trans (H9.out.mono sc)
    have N7b := Lib.hid (N7.out.below H9.out)
    have N0b := Lib.hid (N0.out.below hW9)
    have HW9 := Lib.hid hW9
    have HC5 := Lib.hid (refsame_any k l A7 n c7 es k l A n c es w9 N7b.out.rd N0b.out.rd hk hl hk hl)
    rw [sameN_refl] at HC5
    clear hW9 N7
    have d0 := N7b.out.c0
    have d1 := N7b.out.c1
    have d2 := N7b.out.c2
    have y0 := N0b.out.c0
    have y1 := N0b.out.c1
    have y2 := N0b.out.c2
    go_wp2_with fail
    refine HC5.out.mono ?_
    rintro e wa ⟨rfl, hba⟩
    have Ha : Hid (Below W.heap.size W wa) := HW9.out.trans (hba.mono HW9.out.size)
    have sa2 := Ha.out.size
    clear hba d0 d1 d2 y0 y1 y2 HC5 HW9 N0b N7b
    go_wp2_with fail
    refine (known_any wa).mono ?_
    rintro e wf ⟨rfl, hbf⟩
    have Hf : Hid (Below W.heap.size W wf) := Ha.out.trans (hbf.mono sa2)
    clear hbf
    go_wp2_with fail
    go_ret
    exact ⟨rfl, HB0.out.trans (Hf.out.mono s0)⟩
end Go.Proofs.Ytgihcjmcefdkiaa
