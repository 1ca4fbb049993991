/- The walk of GraftOne. -/
import Derived.Test.YtgihcjmcefdkiaaGrFit
set_option linter.unusedVariables false
set_option linter.unusedSimpArgs false
namespace Go.Proofs.Ytgihcjmcefdkiaa
open Go.RowKit

set_option maxRecDepth 100000 in
set_option maxHeartbeats 6400000 in
theorem graftOne_walk (k l : Nat) (A : Option Addr) (n c : Nat) (es : List Ent) (k' l' : Nat) (A' : Option Addr) (n' c' : Nat) (es' : List Ent) (Ak : Option Addr) (nk ck : Nat) (key : List UInt8) (w : World)
    (hk : k < 256) (hl : l < 256) (h : RdL w A n c es) (hin : esIn es) (hk' : k' < 256) (hl' : l' < 256) (h' : RdL w A' n' c' es') (hin' : esIn es') (hky : Rd w Ak nk ck key) (hre : ck ≤ 140737488351232) :
    Calls Try.prog 9 #[NdV k l A n c, NdV k' l' A' n' c', .slice Ak nk ck] w fun e w' => e = .returned (.bool true) ∧ Below w.heap.size w w' := by
  have hkc := hky.cap
  obtain ⟨W, hW⟩ : ∃ W, W = (w.alloc (.cells #[.int .u8 (k : Int), .int .u8 (l : Int), .slice A n c] 24)).alloc (.cells #[.int .u8 (k' : Int), .int .u8 (l' : Int), .slice A' n' c'] 24) := ⟨_, rfl⟩
  have HB0 : Hid (Below w.heap.size w W) := by rw [hW]; exact (below_new _ _).alloc (by simp) _
  have NA : Hid (Nin W w.heap.size k l A n c es) := ⟨by rw [hW]; exact (Blk.new _ _ _).alloc _, h.below HB0.out⟩
  have NB : Hid (Nin W (w.heap.size + 1) k' l' A' n' c' es') := ⟨by rw [hW]; exact Blk.new' _ _ _ _ (by simp), h'.below HB0.out⟩
  have HWs : Hid (W.heap.size = w.heap.size + 1 + 1) := by rw [hW, size_new, size_new]; rfl
  have HKY := Lib.hid (hky.below HB0.out)
  have HLn := Lib.hid h.len
  have HLn' := Lib.hid h'.len
  have HW := Lib.hid hW
  have HIN := Lib.hid hin
  have HIN' := Lib.hid hin'
  clear h h' hky hW hin hin'
  have d0 := NA.out.c0
  have d1 := NA.out.c1
  have d2 := NA.out.c2
  have f0 := NB.out.c0
  have f1 := NB.out.c1
  have f2 := NB.out.c2
  go_enter Try.func9, Try.ntmps9
  go_wp2_with fail
  rw [← HW.out]
  obtain ⟨W1, hW1⟩ : ∃ W1, W1 = W.alloc (.cells #[.int .u8 (k : Int), .int .u8 (l : Int), .slice A n c, .int .u8 (k' : Int), .int .u8 (l' : Int), .slice A' n' c'] 24) := ⟨_, rfl⟩
  have hb0 : Below W.heap.size W W1 := by rw [hW1]; exact below_new1 _ _
  have HM := Lib.hid (lheavy_any (some ⟨w.heap.size + 1 + 1, 0, none⟩) 2 2 [es, es'] W1 (RdNs.two (by rw [hW1]; exact Blk.new' _ _ _ _ HWs.out) hk hl hk' hl' (NA.out.below hb0).rd (NB.out.below hb0).rd))
  rw [← hW1]
  have HBa := Lib.hid hb0
  have sa := hb0.size
  clear hW1 hb0
  refine HM.out.mono ?_
  rintro e w1 ⟨b, rfl, hbb, hb⟩
  have HB1 : Hid (Below W.heap.size W w1) := HBa.out.trans (hb.mono sa)
  have HBB := Lib.hid hbb
  have s0 := HB0.out.size
  have s1 := HB1.out.size
  have HX1 : Hid (Below w.heap.size w w1) := HB0.out.trans (HB1.out.mono s0)
  have sx := HX1.out.size
  clear hb hbb d0 d1 d2 f0 f1 f2 HM HBa
  cases b with
  | true =>
    go_wp2_with (go_at_call 13; refine (known_any _).mono ?_; rintro e w3 ⟨rfl, hb3⟩)
    go_ret
    exact ⟨rfl, HX1.out.trans (hb3.mono sx)⟩
  | false =>
    by_cases hlen : 4096 < nk
    · have hd : decide ((nk : Int) > 4096) = true := decide_eq_true (by omega)
      go_wp2_with (go_at_call 13; refine (known_any _).mono ?_; rintro e w3 ⟨rfl, hb3⟩)
      go_ret
      exact ⟨rfl, HX1.out.trans (hb3.mono sx)⟩
    · have hd : decide ((nk : Int) > 4096) = false := decide_eq_false (by omega)
      have HO := Lib.hid (HBB.out rfl 0 (by simp))
      have HO' := Lib.hid (HBB.out rfl 1 (by simp))
      have HN3 : Hid (n ≤ 300) := by show _ ≤ _; rw [HLn.out]; exact HO.out.2
      have HN3' : Hid (n' ≤ 300) := by show _ ≤ _; rw [HLn'.out]; exact HO'.out.2
      have HSH := Lib.hid HO.out.short
      have HSH' := Lib.hid HO'.out.short
      clear HBB
      obtain ⟨L, HL⟩ : ∃ L, Hid (oneL k es es' key = L) := ⟨_, rfl⟩
      obtain ⟨N, HNN⟩ : ∃ N, Hid (n + n' = N) := ⟨_, rfl⟩
      have HLL : Hid (L.length = N) := by show _ = _; rw [← HL.out, oneL_length, ← HLn.out, ← HLn'.out]; exact HNN.out
      have HIL : Hid (esIn L) := by rw [← HL.out]; exact HIN.out.one HIN'.out
      have HN9 : Hid (N ≤ 600) := by show _ ≤ _; have := HN3.out; have := HN3'.out; have := HNN.out; omega
      have hn3 := HN3.out
      have hn3' := HN3'.out
      have NA1 := Lib.hid (NA.out.below HB1.out)
      have NB1 := Lib.hid (NB.out.below HB1.out)
      have HCJ := join_any k l A n c es k' l' A' n' c' es' Ak nk ck key w1 NA1.out.rd NB1.out.rd (HKY.out.below HB1.out) hk hl hk' hl' (by omega) (by omega) HSH.out HO.out.1.2 HSH'.out HIN.out HIN'.out (by omega)
      have HCE := fun V (hb : Below W.heap.size W V) => even_any k l A n c es k' l' A' n' c' es' Ak nk ck key V (NA.out.below hb).rd (NB.out.below hb).rd (HKY.out.below hb) hk hl hk' hl' (by omega) (by omega) HSH.out HO.out.1.2 HSH'.out HIN.out HIN'.out (by omega)
      rw [HL.out] at HCJ
      simp only [HL.out] at HCE
      have HCE := Lib.hid HCE
      have d0 := NA1.out.c0
      have d1 := NA1.out.c1
      have d2 := NA1.out.c2
      have f0 := NB1.out.c0
      have f1 := NB1.out.c1
      have f2 := NB1.out.c2
      by_cases hJ : joinB k l es k' l' es' key = true
      · have hq : (oneB k l es k' l' es' && (rE k l L == 0)) = true := by have := hJ; rw [joinB, HL.out, Bool.and_eq_true] at this; exact this.1
        have h224 : 3 + (entsB k L).length ≤ 224 := by have := hJ; rw [joinB, HL.out, Bool.and_eq_true, decide_eq_true_iff] at this; exact this.2
        have hE0 : rE k l L = 0 := by rw [Bool.and_eq_true, beq_iff_eq] at hq; exact hq.2
        have hev : evB k l es k' l' es' key = true := by rw [evB, HL.out]; exact hq
        have hsp : splE k l L = 7 := by rw [splE, if_pos hE0, if_pos h224]
        have HOK := Lib.hid (NodB.ok HCJ hJ hJ HLL.out)
        have HEN := Lib.hid (fun V (hb : Below W.heap.size W V) => EvP.no (HCE.out V hb) (E := 7) (by rw [hev]; exact hsp) (by decide))
        obtain ⟨t, ht⟩ : ∃ t, sizeV k l L = t := ⟨_, rfl⟩
        have ht224 : t ≤ 224 := by rw [← ht, sizeV, if_pos hE0]; exact h224
        have HT := Lib.hid ht
        have HE0 := Lib.hid hE0
        have HRR := Lib.hid (right_reach (k := k) (l := l) (es := L) (by rw [HLL.out]; have := HN9.out; omega))
        clear HCJ HCE hJ hq h224 hE0 hev hsp ht
        go_wp2_with fail
        refine HOK.out.mono ?_
        rintro e w2 ⟨An, cn, rfl, ho, hb⟩
        clear d0 d1 d2 f0 f1 f2 HOK NA1 NB1 hd
        have s2 := hb.size
        obtain ⟨g7, hg7⟩ : ∃ g7, w2.heap.size = g7 := ⟨_, rfl⟩
        obtain ⟨wd, hwd⟩ : ∃ wd, wd = w2.alloc (.cells #[.int .u8 (k : Int), .int .u8 (l : Int), .slice An N cn] 24) := ⟨_, rfl⟩
        have hbd : Below w1.heap.size w1 wd := by rw [hwd]; exact hb.alloc s2 _
        have Nn : Hid (Nin wd g7 k l An N cn L) := ⟨by rw [hwd]; exact Blk.new' _ _ _ _ hg7, by rw [hwd]; exact (ho.below (below_new _ _)).rdl HLL.out.symm⟩
        have HX : Hid (Below W.heap.size W wd) := HB1.out.trans (hbd.mono s1)
        have HWD := Lib.hid hwd
        have HG7 := Lib.hid hg7
        clear ho hb hwd hbd hg7
        go_upto_region 4 with fail
        rw [← HWD.out, HG7.out]
        have M7 := Lib.hid (NA.out.below HX.out)
        have M8 := Lib.hid (NB.out.below HX.out)
        have HEW := Lib.hid (HEN.out wd HX.out)
        have d0 := M7.out.c0
        have d1 := M7.out.c1
        have d2 := M7.out.c2
        have f0 := M8.out.c0
        have f1 := M8.out.c1
        have f2 := M8.out.c2
        go_wp2_with fail
        refine HEW.out.mono ?_
        rintro e w3 ⟨A1, c1, A2, c2, B, m, d, rfl, hb⟩
        clear d0 d1 d2 f0 f1 f2 HEW M7 M8 HEN
        have s3 := hb.size
        obtain ⟨g9, hg9⟩ : ∃ g9, w3.heap.size = g9 := ⟨_, rfl⟩
        obtain ⟨w4, hw4⟩ : ∃ w4, w4 = (w3.alloc (.cells #[.int .u8 0, .int .u8 0, .slice A1 0 c1] 24)).alloc (.cells #[.int .u8 0, .int .u8 0, .slice A2 0 c2] 24) := ⟨_, rfl⟩
        have hx4 : Below w3.heap.size w3 w4 := by rw [hw4]; exact (below_new _ _).alloc (by simp) _
        have hb4 : Below wd.heap.size wd w4 := hb.trans (hx4.mono s3)
        have K9 : Hid (Blk w4 g9 24 #[.int .u8 0, .int .u8 0, .slice A1 0 c1]) := by rw [hw4]; exact (Blk.new' _ _ _ _ hg9).alloc _
        have HW4 := Lib.hid hw4
        have HG9 := Lib.hid hg9
        replace Nn := Lib.hid (Nn.out.below hb4)
        replace HX := Lib.hid (HX.out.trans (hb4.mono HX.out.size))
        clear hb hw4 hx4 hb4 s3 hg9
        go_upto_region 5 with fail
        rw [← HW4.out, HG9.out]
        have HCS := size_any k l An N cn L w4 Nn.out.rd hk hl HIL.out HRR.out
        rw [HT.out, HE0.out] at HCS
        have HCSS := Lib.hid HCS
        clear HCS
        have d0 := Nn.out.c0
        have d1 := Nn.out.c1
        have d2 := Nn.out.c2
        go_wp2_with fail
        refine HCSS.out.mono ?_
        rintro e w5 ⟨rfl, hb⟩
        have m2 : w5.cell? ⟨g7, 2, none⟩ = some (.slice An N cn) := (Nn.out.below hb).c2
        have k2 : w5.cell? ⟨g9, 2, none⟩ = some (.slice A1 0 c1) := (K9.out.below hb K9.out.lt).cell 2
        have hX5 : Below W.heap.size W w5 := HX.out.trans (hb.mono HX.out.size)
        have a2 := (NA.out.below hX5).c2
        have b2 := (NB.out.below hX5).c2
        have HX5 := Lib.hid hX5
        have i1 : decide ((t : Int) ≤ 224) = true := decide_eq_true (by omega)
        have i2 : ((N : Int) == (n : Int) + (n' : Int)) = true := by rw [beq_iff_eq]; have := HNN.out; omega
        have i3 : (N == n + n') = true := by rw [beq_iff_eq]; exact HNN.out.symm
        clear d0 d1 d2 HCSS hb hX5 Nn K9
        go_wp2_with (go_at_call 13; refine (known_any _).mono ?_; rintro e w9 ⟨rfl, hb9⟩)
        go_ret
        exact ⟨rfl, HB0.out.trans ((HX5.out.trans (hb9.mono HX5.out.size)).mono s0)⟩
      · have hJf : joinB k l es k' l' es' key = false := by cases hx : joinB k l es k' l' es' key with
          | true => exact absurd hx hJ
          | false => rfl
        have HOK := Lib.hid (NodB.zero HCJ hJf hJf)
        clear HCJ hJ
        go_wp2_with fail
        refine HOK.out.mono ?_
        rintro e w2 ⟨An, cn, rfl, hb⟩
        clear d0 d1 d2 f0 f1 f2 HOK NA1 NB1 hd
        have s2 := hb.size
        obtain ⟨g7, hg7⟩ : ∃ g7, w2.heap.size = g7 := ⟨_, rfl⟩
        obtain ⟨wd, hwd⟩ : ∃ wd, wd = w2.alloc (.cells #[.int .u8 0, .int .u8 0, .slice An 0 cn] 24) := ⟨_, rfl⟩
        have hbd : Below w1.heap.size w1 wd := by rw [hwd]; exact hb.alloc s2 _
        have K7 : Hid (Blk wd g7 24 #[.int .u8 0, .int .u8 0, .slice An 0 cn]) := by rw [hwd]; exact Blk.new' _ _ _ _ hg7
        have HX : Hid (Below W.heap.size W wd) := HB1.out.trans (hbd.mono s1)
        have HWD := Lib.hid hwd
        have HG7 := Lib.hid hg7
        clear hb hwd hbd hg7
        go_upto_region 4 with fail
        rw [← HWD.out, HG7.out]
        have M7 := Lib.hid (NA.out.below HX.out)
        have M8 := Lib.hid (NB.out.below HX.out)
        have d0 := M7.out.c0
        have d1 := M7.out.c1
        have d2 := M7.out.c2
        have f0 := M8.out.c0
        have f1 := M8.out.c1
        have f2 := M8.out.c2
        have hE : (∃ E, (if evB k l es k' l' es' key then splE k l L else 2) = E ∧ (E = 2 ∨ E = 9)) ∨ (evB k l es k' l' es' key = true ∧ splE k l L = 0) := by
          cases hv : evB k l es k' l' es' key with
          | false => exact .inl ⟨2, rfl, .inl rfl⟩
          | true =>
            have hq := hv
            rw [evB, HL.out] at hq
            have hE0 : rE k l L = 0 := by rw [Bool.and_eq_true, beq_iff_eq] at hq; exact hq.2
            rcases splE_cases hE0 with ⟨h1, _⟩ | ⟨h1, h2 | h2⟩
            · rw [joinB, HL.out, hq, Bool.true_and, decide_eq_false_iff_not] at hJf
              exact absurd h1 hJf
            · exact .inl ⟨9, h2, .inr rfl⟩
            · exact .inr ⟨rfl, h2⟩
        clear hJf
        rcases hE with ⟨E, hE, hE2⟩ | ⟨hev, hsp⟩
        · have HEW := Lib.hid (EvP.no (HCE.out wd HX.out) hE (by omega))
          have hEn : (E != 0) = true := by rw [bne_iff_ne]; omega
          clear hE
          go_wp2_with fail
          refine HEW.out.mono ?_
          rintro e w3 ⟨A1, c1, A2, c2, B, m, d, rfl, hb⟩
          clear d0 d1 d2 f0 f1 f2 HEW M7 M8 HCE
          have s3 := hb.size
          obtain ⟨g9, hg9⟩ : ∃ g9, w3.heap.size = g9 := ⟨_, rfl⟩
          obtain ⟨w4, hw4⟩ : ∃ w4, w4 = (w3.alloc (.cells #[.int .u8 0, .int .u8 0, .slice A1 0 c1] 24)).alloc (.cells #[.int .u8 0, .int .u8 0, .slice A2 0 c2] 24) := ⟨_, rfl⟩
          have hx4 : Below w3.heap.size w3 w4 := by rw [hw4]; exact (below_new _ _).alloc (by simp) _
          have hb4 : Below wd.heap.size wd w4 := hb.trans (hx4.mono s3)
          have K9 : Hid (Blk w4 g9 24 #[.int .u8 0, .int .u8 0, .slice A1 0 c1]) := by rw [hw4]; exact (Blk.new' _ _ _ _ hg9).alloc _
          have K10 : Hid (Blk w4 (g9 + 1) 24 #[.int .u8 0, .int .u8 0, .slice A2 0 c2]) := by rw [hw4]; exact Blk.new' _ _ _ _ (by rw [size_new, hg9])
          have HW4 := Lib.hid hw4
          have HG9 := Lib.hid hg9
          replace HX := Lib.hid (HX.out.trans (hb4.mono HX.out.size))
          clear hb hw4 hx4 hb4 s3 hg9
          go_upto_region 5 with fail
          rw [← HW4.out, HG9.out]
          have k2 : w4.cell? ⟨g9, 2, none⟩ = some (.slice A1 0 c1) := K9.out.cell 2
          have k3 : w4.cell? ⟨g9 + 1, 2, none⟩ = some (.slice A2 0 c2) := K10.out.cell 2
          rcases hE2 with rfl | rfl
          · clear hEn
            go_wp2_with (go_at_call 13; refine (known_any _).mono ?_; rintro e w9 ⟨rfl, hb9⟩)
            go_ret
            exact ⟨rfl, HB0.out.trans ((HX.out.trans (hb9.mono HX.out.size)).mono s0)⟩
          · clear hEn
            go_wp2_with (go_at_call 13; refine (known_any _).mono ?_; rintro e w9 ⟨rfl, hb9⟩)
            go_ret
            exact ⟨rfl, HB0.out.trans ((HX.out.trans (hb9.mono HX.out.size)).mono s0)⟩
        · have HEW := EvP.yes (HCE.out wd HX.out) hev hsp
          obtain ⟨hr1, hr2, hz1, hz2⟩ := half_sizes hsp
          have hbl := best_lt (splE_zero hsp).2.2
          rw [HLL.out] at HEW hbl
          obtain ⟨b, HBb⟩ : ∃ b, Hid (best k L = b) := ⟨_, rfl⟩
          obtain ⟨LA, HLA⟩ : ∃ LA, Hid (L.take b = LA) := ⟨_, rfl⟩
          obtain ⟨LB, HLB⟩ : ∃ LB, Hid (cutB k L b = LB) := ⟨_, rfl⟩
          rw [HBb.out] at hbl hr1 hr2 hz1 hz2
          simp only [HBb.out, HLA.out, HLB.out] at HEW
          have HIA : Hid (esIn LA) := by rw [← HLA.out]; exact HIL.out.take b
          have HIB : Hid (esIn LB) := by rw [← HLB.out]; exact HIL.out.cutB k b
          have HLAn : Hid (LA.length = b) := by show _ = _; rw [← HLA.out, List.length_take, HLL.out]; omega
          have HLBn : Hid (LB.length = N - b) := by show _ = _; rw [← HLB.out, cutB_length, HLL.out]
          rw [HLA.out] at hr1 hz1
          rw [HLB.out] at hr2 hz2
          have HRA := Lib.hid (right_reach (k := k) (l := l) (es := LA) (by rw [HLAn.out]; have := HN9.out; omega))
          have HRB := Lib.hid (right_reach (k := k) (l := l) (es := LB) (by rw [HLBn.out]; have := HN9.out; omega))
          obtain ⟨x, hx⟩ : ∃ x, sizeV k l LA = x := ⟨_, rfl⟩
          obtain ⟨y, hy⟩ : ∃ y, sizeV k l LB = y := ⟨_, rfl⟩
          rw [hx] at hz1
          rw [hy] at hz2
          have HEV := Lib.hid HEW
          have HXX := Lib.hid hx
          have HYY := Lib.hid hy
          have HR1 := Lib.hid hr1
          have HR2 := Lib.hid hr2
          clear HEW hev hsp hx hy hr1 hr2 HCE
          obtain ⟨M, HMM⟩ : ∃ M, Hid (N - b = M) := ⟨_, rfl⟩
          rw [HMM.out] at HEV HLBn
          go_wp2_with fail
          refine HEV.out.mono ?_
          rintro e w3 ⟨A1, c1, A2, c2, B, m, d, rfl, ho1, ho2, hb⟩
          clear d0 d1 d2 f0 f1 f2 HEV M7 M8
          have s3 := hb.size
          obtain ⟨g9, hg9⟩ : ∃ g9, w3.heap.size = g9 := ⟨_, rfl⟩
          obtain ⟨w4, hw4⟩ : ∃ w4, w4 = (w3.alloc (.cells #[.int .u8 (k : Int), .int .u8 (l : Int), .slice A1 b c1] 24)).alloc (.cells #[.int .u8 (k : Int), .int .u8 (l : Int), .slice A2 M c2] 24) := ⟨_, rfl⟩
          have hx4 : Below w3.heap.size w3 w4 := by rw [hw4]; exact (below_new _ _).alloc (by simp) _
          have hb4 : Below wd.heap.size wd w4 := hb.trans (hx4.mono s3)
          have M1 : Hid (Nin w4 g9 k l A1 b c1 LA) := ⟨by rw [hw4]; exact (Blk.new' _ _ _ _ hg9).alloc _, (ho1.below hx4).rdl HLAn.out.symm⟩
          have M2 : Hid (Nin w4 (g9 + 1) k l A2 M c2 LB) := ⟨by rw [hw4]; exact Blk.new' _ _ _ _ (by rw [size_new, hg9]), (ho2.below hx4).rdl HLBn.out.symm⟩
          have HW4 := Lib.hid hw4
          have HG9 := Lib.hid hg9
          have K7b := Lib.hid (K7.out.below hb4 K7.out.lt)
          replace HX := Lib.hid (HX.out.trans (hb4.mono HX.out.size))
          clear ho1 ho2 hb hw4 hx4 hb4 s3 hg9 K7
          go_upto_region 5 with fail
          rw [← HW4.out, HG9.out]
          have HCS := size_any k l A1 b c1 LA w4 M1.out.rd hk hl HIA.out HRA.out
          rw [HXX.out, HR1.out] at HCS
          have HCSS := Lib.hid HCS
          clear HCS
          have d0 := M1.out.c0
          have d1 := M1.out.c1
          have d2 := M1.out.c2
          go_wp2_with fail
          refine HCSS.out.mono ?_
          rintro e w5 ⟨rfl, hb⟩
          replace K7b := Lib.hid (K7b.out.below hb K7b.out.lt)
          replace M1 := Lib.hid (M1.out.below hb)
          replace M2 := Lib.hid (M2.out.below hb)
          replace HX := Lib.hid (HX.out.trans (hb.mono HX.out.size))
          clear d0 d1 d2 HCSS hb
          have HCS := size_any k l A2 M c2 LB w5 M2.out.rd hk hl HIB.out HRB.out
          rw [HYY.out, HR2.out] at HCS
          have HCSS := Lib.hid HCS
          clear HCS
          have d0 := M2.out.c0
          have d1 := M2.out.c1
          have d2 := M2.out.c2
          go_wp2_with fail
          refine HCSS.out.mono ?_
          rintro e w6 ⟨rfl, hb⟩
          have k7 : w6.cell? ⟨g7, 2, none⟩ = some (.slice An 0 cn) := (K7b.out.below hb K7b.out.lt).cell 2
          have m1 : w6.cell? ⟨g9, 2, none⟩ = some (.slice A1 b c1) := (M1.out.below hb).c2
          have m2 : w6.cell? ⟨g9 + 1, 2, none⟩ = some (.slice A2 M c2) := (M2.out.below hb).c2
          replace HX := Lib.hid (HX.out.trans (hb.mono HX.out.size))
          have a2 := (NA.out.below HX.out).c2
          have b2 := (NB.out.below HX.out).c2
          clear d0 d1 d2 HCSS hb K7b M1 M2
          have i1 : decide ((x : Int) ≤ 224) = true := decide_eq_true (by omega)
          have i2 : decide ((y : Int) ≤ 224) = true := decide_eq_true (by omega)
          have hbM : b + M = n + n' := by have := HNN.out; have := HMM.out; omega
          have i3 : ((b : Int) + (M : Int) == (n : Int) + (n' : Int)) = true := by rw [beq_iff_eq]; omega
          have i4 : (b + M == n + n') = true := by rw [beq_iff_eq]; exact hbM
          have hbb : b ≤ 600 ∧ M ≤ 600 := by omega
          obtain ⟨hbb1, hbb2⟩ := hbb
          clear hbM hbl
          go_wp2_with (go_at_call 13; refine (known_any _).mono ?_; rintro e w9 ⟨rfl, hb9⟩)
          go_ret
          exact ⟨rfl, HB0.out.trans ((HX.out.trans (hb9.mono HX.out.size)).mono s0)⟩
end Go.Proofs.Ytgihcjmcefdkiaa
