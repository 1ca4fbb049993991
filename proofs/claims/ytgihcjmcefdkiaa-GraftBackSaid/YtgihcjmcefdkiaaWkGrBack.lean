/- The walk of GraftBack. -/
import Derived.Test.YtgihcjmcefdkiaaGrBkP
import Derived.Test.YtgihcjmcefdkiaaSame12
set_option linter.unusedVariables false
set_option linter.unusedSimpArgs false
namespace Go.Proofs.Ytgihcjmcefdkiaa
open Go.RowKit

/-- An entry in a variable of its own. -/
structure Ein (w : World) (g : Nat) (A1 : Option Addr) (n1 c1 : Nat) (A2 : Option Addr) (n2 c2 : Nat) (x : Ent) : Prop where
  blk : Blk w g 46 (enC A1 n1 c1 A2 n2 c2 x.len x.chain x.child).toArray
  key : Rd w A1 n1 c1 x.key
  val : Rd w A2 n2 c2 x.val
theorem Ein.below {w w' : World} {g : Nat} {A1 : Option Addr} {n1 c1 : Nat} {A2 : Option Addr} {n2 c2 : Nat} {x : Ent} (h : Ein w g A1 n1 c1 A2 n2 c2 x) (hb : Below w.heap.size w w') : Ein w' g A1 n1 c1 A2 n2 c2 x :=
  ⟨h.blk.below hb h.blk.lt, h.key.below hb, h.val.below hb⟩
theorem Ein.cells {w : World} {g : Nat} {A1 : Option Addr} {n1 c1 : Nat} {A2 : Option Addr} {n2 c2 : Nat} {x : Ent} (h : Ein w g A1 n1 c1 A2 n2 c2 x) :
    w.cell? ⟨g, 0, none⟩ = some (.slice A1 n1 c1) ∧ w.cell? ⟨g, 1, none⟩ = some (.slice A2 n2 c2) ∧ w.cell? ⟨g, 2, none⟩ = some (.int .i64 x.len) ∧ w.cell? ⟨g, 3, none⟩ = some (.int .u32 (x.chain.1 : Int)) ∧ w.cell? ⟨g, 4, none⟩ = some (.int .u64 (x.chain.2.1 : Int)) ∧
      w.cell? ⟨g, 5, none⟩ = some (.int .u16 (x.chain.2.2 : Int)) ∧ w.cell? ⟨g, 6, none⟩ = some (.int .u32 (x.child.1 : Int)) ∧ w.cell? ⟨g, 7, none⟩ = some (.int .u64 (x.child.2.1 : Int)) ∧ w.cell? ⟨g, 8, none⟩ = some (.int .u16 (x.child.2.2 : Int)) :=
  ⟨h.blk.cell 0, h.blk.cell 1, h.blk.cell 2, h.blk.cell 3, h.blk.cell 4, h.blk.cell 5, h.blk.cell 6, h.blk.cell 7, h.blk.cell 8⟩
set_option maxRecDepth 100000 in
set_option maxHeartbeats 6400000 in
theorem graftBack_walk (k l : Nat) (A : Option Addr) (n c : Nat) (es : List Ent) (A1 : Option Addr) (n1 c1 : Nat) (A2 : Option Addr) (n2 c2 : Nat) (x : Ent) (w : World) (hk : k < 256) (hl : l < 256) (h : RdL w A n c es) (hin : esIn es)
    (h1 : Rd w A1 n1 c1 x.key) (h2 : Rd w A2 n2 c2 x.val) (hxin : entIn x) :
    Calls Try.prog 11 #[NdV k l A n c, EnV A1 n1 c1 A2 n2 c2 x.len x.chain x.child] w fun e w' => e = .returned (.bool true) ∧ Below w.heap.size w w' := by
  obtain ⟨W, hW⟩ : ∃ W, W = (w.alloc (.cells #[.int .u8 (k : Int), .int .u8 (l : Int), .slice A n c] 24)).alloc (.cells (enA A1 n1 c1 A2 n2 c2 x.len x.chain x.child) 46) := ⟨_, rfl⟩
  have HB0 : Hid (Below w.heap.size w W) := by rw [hW]; exact (below_new1 _ _).alloc (by simp) _
  have N0 : Hid (Nin W w.heap.size k l A n c es) := by rw [hW]; exact ⟨(Blk.new _ _ _).alloc _, h.below ((below_new1 _ _).alloc (by simp) _)⟩
  have E0 : Hid (Ein W (w.heap.size + 1) A1 n1 c1 A2 n2 c2 x) := ⟨by rw [hW]; exact Blk.new' _ _ _ _ (by simp), h1.below HB0.out, h2.below HB0.out⟩
  have HWs : Hid (W.heap.size = w.heap.size + 1 + 1) := by rw [hW, size_new, size_new]; rfl
  have HLn := Lib.hid h.len
  have HW := Lib.hid hW
  have HIN := Lib.hid hin
  have HXI := Lib.hid hxin
  have HXL : Hid (n1 = x.key.length ∧ n2 = x.val.length) := ⟨h1.len, h2.len⟩
  clear h h1 h2 hW hin hxin
  have d0 := N0.out.c0
  have d1 := N0.out.c1
  have d2 := N0.out.c2
  obtain ⟨x0, x1, x2, x3, x4, x5, x6, x7, x8⟩ := E0.out.cells
  go_enter Try.func11, Try.ntmps11
  go_wp2_with fail
  rw [← HW.out]
  obtain ⟨Va, hVa⟩ : ∃ Va, Va = W.alloc (.cells #[.slice A1 n1 c1, .slice A2 n2 c2, .int .i64 x.len, .int .u32 (x.chain.1 : Int), .int .u64 (x.chain.2.1 : Int), .int .u16 (x.chain.2.2 : Int), .int .u32 (x.child.1 : Int), .int .u64 (x.child.2.1 : Int), .int .u16 (x.child.2.2 : Int)] 46) := ⟨_, rfl⟩
  have hba : Below W.heap.size W Va := by rw [hVa]; exact below_new1 _ _
  have hka : Blk Va (w.heap.size + 1 + 1) 46 (enC A1 n1 c1 A2 n2 c2 x.len x.chain x.child).toArray := by rw [hVa]; exact Blk.new' _ _ _ _ HWs.out
  have hsa : Va.heap.size = w.heap.size + 1 + 1 + 1 := by rw [hVa, size_new, HWs.out]
  rw [← hVa]
  clear hVa
  obtain ⟨W1, hW1⟩ : ∃ W1, W1 = Va.alloc (.cells #[.int .u8 (k : Int), .int .u8 (l : Int), .slice A n c, .int .u8 0, .int .u8 0, .slice (some ⟨w.heap.size + 1 + 1, 0, none⟩) 1 1] 24) := ⟨_, rfl⟩
  have hb1 : Below W.heap.size W W1 := by rw [hW1]; exact hba.alloc hba.size _
  have hk1 : Blk W1 (w.heap.size + 1 + 1 + 1) 24 [Value.int .u8 (k : Int), .int .u8 (l : Int), .slice A n c, .int .u8 ((0 : Nat) : Int), .int .u8 ((0 : Nat) : Int), .slice (some ⟨w.heap.size + 1 + 1, 0, none⟩) 1 1].toArray := by rw [hW1]; exact Blk.new' _ _ _ _ hsa
  have hka1 : Blk W1 (w.heap.size + 1 + 1) 46 (enC A1 n1 c1 A2 n2 c2 x.len x.chain x.child).toArray := by rw [hW1]; exact hka.alloc _
  rw [← hW1]
  have HM := Lib.hid (lheavy_any (some ⟨w.heap.size + 1 + 1 + 1, 0, none⟩) 2 2 [es, [x]] W1 (RdNs.two hk1 hk hl (by omega) (by omega) (N0.out.below hb1).rd (RdL.single hka1 (E0.out.below hb1).key (E0.out.below hb1).val)))
  have HBa := Lib.hid hb1
  have s1 := hb1.size
  clear hW1 hb1 hk1 hka1 hka hba hsa
  refine HM.out.mono ?_
  rintro e w1 ⟨b, rfl, hbb, hb⟩
  have HB1 : Hid (Below W.heap.size W w1) := HBa.out.trans (hb.mono s1)
  have N1 := Lib.hid (N0.out.below HB1.out)
  have E1 := Lib.hid (E0.out.below HB1.out)
  have HBB := Lib.hid hbb
  have s0 := HB0.out.size
  have s2 := HB1.out.size
  have HX1 : Hid (Below w.heap.size w w1) := HB0.out.trans (HB1.out.mono s0)
  have sx := HX1.out.size
  clear hb hbb d0 d1 d2 x0 x1 x2 x3 x4 x5 x6 x7 x8 HM HBa s1
  cases b with
  | true =>
    go_wp2_with (go_at_call 13; refine (known_any _).mono ?_; rintro e w3 ⟨rfl, hb3⟩)
    go_ret
    exact ⟨rfl, HX1.out.trans (hb3.mono sx)⟩
  | false =>
    have HO := Lib.hid (HBB.out rfl 0 (by simp))
    have HOx := Lib.hid (HBB.out rfl 1 (by simp))
    have HN3 : Hid (n ≤ 300) := by show _ ≤ _; rw [HLn.out]; exact HO.out.2
    have HXk : Hid (x.key.length ≤ 4096 ∧ x.val.length ≤ 4096) := HOx.out.1.2 0 (by simp)
    have HSH : Hid (shortE es) := HO.out.short
    clear HBB HOx
    have d0 := N1.out.c0
    have d1 := N1.out.c1
    have d2 := N1.out.c2
    obtain ⟨x0, x1, x2, x3, x4, x5, x6, x7, x8⟩ := E1.out.cells
    by_cases hk1 : k = 1
    · subst hk1
      have HC := right_any 1 l A n c es w1 N1.out.rd hk hl
      by_cases hr : rE 1 l es = 0
      · rw [hr] at HC
        have HCC := Lib.hid HC
        have HR := Lib.hid hr
        clear hr HC
        go_wp2_with fail
        refine HCC.out.mono ?_
        rintro e w2 ⟨rfl, hb⟩
        have HX : Hid (Below W.heap.size W w2) := HB1.out.trans (hb.mono s2)
        clear hb d0 d1 d2 x0 x1 x2 x3 x4 x5 x6 x7 x8 HCC N1 E1 HB1
        have N2 := Lib.hid (N0.out.below HX.out)
        have E2 := Lib.hid (E0.out.below HX.out)
        obtain ⟨i, HI⟩ : ∃ i, Hid (fndA es x.key = i) := ⟨_, rfl⟩
        have hin : i ≤ n := by rw [← HI.out, HLn.out]; exact (fnd_spec es x.key).1
        have hn3 := HN3.out
        have HFD := find_any 1 l A n c es A1 n1 c1 x.key w2 N2.out.rd E2.out.key
        obtain ⟨q, HQ⟩ : ∃ q, Hid (fndB es x.key = q) := ⟨_, rfl⟩
        rw [HI.out, HQ.out] at HFD
        have HF := Lib.hid HFD
        have d0 := N2.out.c0
        have d1 := N2.out.c1
        have d2 := N2.out.c2
        obtain ⟨x0, x1, x2, x3, x4, x5, x6, x7, x8⟩ := E2.out.cells
        clear HFD
        go_wp2_with fail
        refine HF.out.mono ?_
        rintro e w3 ⟨rfl, hb⟩
        replace HX := Lib.hid (HX.out.trans (hb.mono HX.out.size))
        clear hb d0 d1 d2 x0 x1 x2 x3 x4 x5 x6 x7 x8 HF N2 E2
        have N3 := Lib.hid (N0.out.below HX.out)
        have E3 := Lib.hid (E0.out.below HX.out)
        obtain ⟨L, HL⟩ : ∃ L, Hid (insE es i x = L) := ⟨_, rfl⟩
        obtain ⟨E, HE⟩ : ∃ E, Hid (rE 1 l L = E) := ⟨_, rfl⟩
        have HW2 := with_any 1 l A n c es (i : Int) A1 n1 c1 A2 n2 c2 x w3 N3.out.rd hk hl (by omega) HSH.out ⟨by omega, by omega⟩ E3.out.key E3.out.val (by have := HXk.out.1; omega) (by have := HXk.out.2; omega)
        have hwe : withE 1 l es (i : Int) x = E := by
          rw [withE, if_neg (by rw [← HLn.out]; omega), Int.toNat_natCast, HL.out, HE.out]
        rw [hwe, Int.toNat_natCast, HL.out] at HW2
        have HWW := Lib.hid HW2
        have d0 := N3.out.c0
        have d1 := N3.out.c1
        have d2 := N3.out.c2
        obtain ⟨x0, x1, x2, x3, x4, x5, x6, x7, x8⟩ := E3.out.cells
        clear HW2 hwe
        go_wp2_with fail
        refine HWW.out.mono ?_
        rintro e w4 ⟨A7, c7, rfl, ho, hb⟩
        clear d0 d1 d2 x0 x1 x2 x3 x4 x5 x6 x7 x8 HWW N3 E3
        have s4 := hb.size
        have HX4 : Hid (Below W.heap.size W w4) := HX.out.trans (hb.mono HX.out.size)
        cases q with
        | true =>
          have hE2 : E = 2 ∨ E = 120 := by rw [← HE.out, ← HL.out]; exact ins_old HQ.out HI.out
          clear ho hb
          obtain ⟨w5, hw5⟩ : ∃ w5, w5 = w4.alloc (.cells #[.int .u8 (sN E 1 : Int), .int .u8 (sN E l : Int), .slice A7 (sE E L).length c7] 24) := ⟨_, rfl⟩
          have HX5 : Hid (Below W.heap.size W w5) := by rw [hw5]; exact HX4.out.alloc HX4.out.size _
          go_upto_region 5 with fail
          rw [← hw5]
          clear hw5
          rcases hE2 with rfl | rfl
          · go_wp2_with (go_at_call 13; refine (known_any _).mono ?_; rintro e w9 ⟨rfl, hb9⟩)
            go_ret
            exact ⟨rfl, HB0.out.trans ((HX5.out.trans (hb9.mono HX5.out.size)).mono s0)⟩
          · go_wp2_with (go_at_call 13; refine (known_any _).mono ?_; rintro e w9 ⟨rfl, hb9⟩)
            go_ret
            exact ⟨rfl, HB0.out.trans ((HX5.out.trans (hb9.mono HX5.out.size)).mono s0)⟩
        | false =>
          have hE2 : E = 0 ∨ E = 2 := by rw [← HE.out, ← HL.out]; exact ins_new HR.out HQ.out HI.out
          rcases hE2 with rfl | rfl
          · have hLn : L.length = n + 1 := by rw [← HL.out, insE_length (by rw [← HLn.out]; exact hin), ← HLn.out]
            have e1 : ∀ y, sN 0 y = y := fun y => rfl
            have e2 : sE 0 L = L := rfl
            rw [e2, hLn] at ho
            rw [e1, e1, e2, hLn]
            have HLL := Lib.hid hLn
            obtain ⟨g7, hg7⟩ : ∃ g7, w4.heap.size = g7 := ⟨_, rfl⟩
            obtain ⟨w5, hw5⟩ : ∃ w5, w5 = w4.alloc (.cells #[.int .u8 1, .int .u8 (l : Int), .slice A7 (n + 1) c7] 24) := ⟨_, rfl⟩
            have HX5 : Hid (Below W.heap.size W w5) := by rw [hw5]; exact HX4.out.alloc HX4.out.size _
            have N7 : Hid (Nin w5 g7 1 l A7 (n + 1) c7 L) := ⟨by rw [hw5]; exact Blk.new' _ _ _ _ hg7, by rw [hw5]; exact (ho.below (below_new _ _)).rdl hLn.symm⟩
            have HW5 := Lib.hid hw5
            have HG7 := Lib.hid hg7
            clear ho hb hw5 hg7 hLn e1 e2
            go_upto_region 5 with fail
            rw [← HW5.out, HG7.out]
            have E5 := Lib.hid (E0.out.below HX5.out)
            have HF2 := find_any 1 l A7 (n + 1) c7 L A1 n1 c1 x.key w5 N7.out.rd E5.out.key
            have hif := ins_found (es := es) (x := x) HI.out
            rw [HL.out] at hif
            rw [hif.1, hif.2] at HF2
            have HFF := Lib.hid HF2
            have d0 := N7.out.c0
            have d1 := N7.out.c1
            have d2 := N7.out.c2
            obtain ⟨x0, x1, x2, x3, x4, x5, x6, x7, x8⟩ := E5.out.cells
            clear HF2 hif
            go_wp2_with fail
            refine HFF.out.mono ?_
            rintro e w6 ⟨rfl, hb⟩
            replace N7 := Lib.hid (N7.out.below hb)
            replace HX5 := Lib.hid (HX5.out.trans (hb.mono HX5.out.size))
            clear d0 d1 d2 x0 x1 x2 x3 x4 x5 x6 x7 x8 HFF E5 hb
            have HSL : Hid (shortE L) := by rw [← HL.out]; exact HSH.out.ins (by rw [← HLn.out]; exact hin) (by have := HXk.out.1; omega) (by have := HXk.out.2; omega)
            have HWO := without_any 1 l A7 (n + 1) c7 L (i : Int) w6 N7.out.rd hk hl (by omega) HSL.out ⟨by omega, by omega⟩
            have hwe : woE 1 l L (i : Int) = 0 := by rw [woE, if_neg (by rw [HLL.out]; omega), HE.out]
            have hdr : mE 1 (dropE L i) = es := by rw [mE, if_neg (by decide), ← HL.out]; exact ins_drop (by rw [← HLn.out]; exact hin) x
            rw [hwe, Int.toNat_natCast, hdr] at HWO
            have HWW := Lib.hid HWO
            have d0 := N7.out.c0
            have d1 := N7.out.c1
            have d2 := N7.out.c2
            clear HWO hwe hdr
            go_wp2_with fail
            refine HWW.out.mono ?_
            rintro e w7 ⟨A11, c11, rfl, ho, hb⟩
            have e1 : ∀ y, sN 0 y = y := fun y => rfl
            have e2 : sE 0 es = es := rfl
            rw [e2, ← HLn.out] at ho
            rw [e1, e1, e2, ← HLn.out]
            have s7 := hb.size
            obtain ⟨g11, hg11⟩ : ∃ g11, w7.heap.size = g11 := ⟨_, rfl⟩
            obtain ⟨wb, hwb⟩ : ∃ wb, wb = w7.alloc (.cells #[.int .u8 1, .int .u8 (l : Int), .slice A11 n c11] 24) := ⟨_, rfl⟩
            have hbb : Below w6.heap.size w6 wb := by rw [hwb]; exact hb.alloc s7 _
            have N11 : Hid (Nin wb g11 1 l A11 n c11 es) := ⟨by rw [hwb]; exact Blk.new' _ _ _ _ hg11, by rw [hwb]; exact (ho.below (below_new _ _)).rdl HLn.out⟩
            have HWB := Lib.hid hwb
            have HG11 := Lib.hid hg11
            replace N7 := Lib.hid (N7.out.below hbb)
            replace HX5 := Lib.hid (HX5.out.trans (hbb.mono HX5.out.size))
            clear ho hb hwb hbb hg11 e1 e2 d0 d1 d2 HWW HX4 HX s7
            go_upto_region 11 with fail
            rw [← HWB.out, HG11.out]
            have NW := Lib.hid (N0.out.below HX5.out)
            have EW := Lib.hid (E0.out.below HX5.out)
            have hc7 : n + 1 ≤ c7 := N7.out.rd.cap
            have hw1 : IntKind.i64.wrap ((i : Int) + 1) = (i : Int) + 1 := IntWalk.i64_in _ (by omega)
            have TR : Hid (∀ V, Below wb.heap.size wb V → (fun V => V.cell? ⟨g11, 0, none⟩ = some (.int .u8 (1 : Int)) ∧ V.cell? ⟨g11, 1, none⟩ = some (.int .u8 (l : Int)) ∧ V.cell? ⟨g11, 2, none⟩ = some (.slice A11 n c11) ∧ V.cell? ⟨w.heap.size, 0, none⟩ = some (.int .u8 (1 : Int)) ∧ V.cell? ⟨w.heap.size, 1, none⟩ = some (.int .u8 (l : Int)) ∧ V.cell? ⟨w.heap.size, 2, none⟩ = some (.slice A n c) ∧ V.cell? ⟨g7, 2, none⟩ = some (.slice A7 (n + 1) c7) ∧ V.cell? ⟨w.heap.size + 1, 0, none⟩ = some (.slice A1 n1 c1) ∧ V.cell? ⟨w.heap.size + 1, 1, none⟩ = some (.slice A2 n2 c2) ∧ V.cell? ⟨w.heap.size + 1, 2, none⟩ = some (.int .i64 x.len) ∧ V.cell? ⟨w.heap.size + 1, 3, none⟩ = some (.int .u32 (x.chain.1 : Int)) ∧ V.cell? ⟨w.heap.size + 1, 4, none⟩ = some (.int .u64 (x.chain.2.1 : Int)) ∧ V.cell? ⟨w.heap.size + 1, 5, none⟩ = some (.int .u16 (x.chain.2.2 : Int)) ∧ V.cell? ⟨w.heap.size + 1, 6, none⟩ = some (.int .u32 (x.child.1 : Int)) ∧ V.cell? ⟨w.heap.size + 1, 7, none⟩ = some (.int .u64 (x.child.2.1 : Int)) ∧ V.cell? ⟨w.heap.size + 1, 8, none⟩ = some (.int .u16 (x.child.2.2 : Int)) ∧ Below wb.heap.size wb V) V) := fun V hb => by
              have n1 := N11.out.below hb
              have n2 := NW.out.below hb
              have n3 := N7.out.below hb
              obtain ⟨x0, x1, x2, x3, x4, x5, x6, x7, x8⟩ := (EW.out.below hb).cells
              exact ⟨n1.c0, n1.c1, n1.c2, n2.c0, n2.c1, n2.c2, n3.c2, x0, x1, x2, x3, x4, x5, x6, x7, x8, hb⟩
            have tok1 : ((i : Int) == (i : Int)) = true := beq_self_eq_true _
            refine region_gate 32 (fun V => V.cell? ⟨g11, 0, none⟩ = some (.int .u8 (1 : Int)) ∧ V.cell? ⟨g11, 1, none⟩ = some (.int .u8 (l : Int)) ∧ V.cell? ⟨g11, 2, none⟩ = some (.slice A11 n c11) ∧ V.cell? ⟨w.heap.size, 0, none⟩ = some (.int .u8 (1 : Int)) ∧ V.cell? ⟨w.heap.size, 1, none⟩ = some (.int .u8 (l : Int)) ∧ V.cell? ⟨w.heap.size, 2, none⟩ = some (.slice A n c) ∧ V.cell? ⟨g7, 2, none⟩ = some (.slice A7 (n + 1) c7) ∧ V.cell? ⟨w.heap.size + 1, 0, none⟩ = some (.slice A1 n1 c1) ∧ V.cell? ⟨w.heap.size + 1, 1, none⟩ = some (.slice A2 n2 c2) ∧ V.cell? ⟨w.heap.size + 1, 2, none⟩ = some (.int .i64 x.len) ∧ V.cell? ⟨w.heap.size + 1, 3, none⟩ = some (.int .u32 (x.chain.1 : Int)) ∧ V.cell? ⟨w.heap.size + 1, 4, none⟩ = some (.int .u64 (x.chain.2.1 : Int)) ∧ V.cell? ⟨w.heap.size + 1, 5, none⟩ = some (.int .u16 (x.chain.2.2 : Int)) ∧ V.cell? ⟨w.heap.size + 1, 6, none⟩ = some (.int .u32 (x.child.1 : Int)) ∧ V.cell? ⟨w.heap.size + 1, 7, none⟩ = some (.int .u64 (x.child.2.1 : Int)) ∧ V.cell? ⟨w.heap.size + 1, 8, none⟩ = some (.int .u16 (x.child.2.2 : Int)) ∧ Below wb.heap.size wb V) (by kernel_rfl) ?th1 (fun hHeld => ?tk1)
            case th1 => ((try dsimp only); exact TR.out _ (Below.refl _ _).drew)
            refine' takeV 0 (oi := _) (d := _) (v := _) ?ti2 ?td2 (by kernel_rfl) (by kernel_rfl) (by kernel_rfl) (by kernel_rfl) (by decide) (fun _ _ _ _ _ h => h) ?tg2 ?ty2 (by assumption) ?tr2
            case ti2 => (simp only [List.getElem?_toArray, List.getElem?_cons_succ, List.getElem?_cons_zero]; rfl)
            case td2 => exact rfl
            case tg2 => exact rfl
            case ty2 => (intro w hSw; (try dsimp only at hSw); go_split_ands; go_simp; try with_reducible rfl)
            simp only [List.setIfInBounds_toArray, List.set_cons_zero, List.set_cons_succ]
            refine' takeV 1 (oi := _) (d := _) (v := _) ?ti3 ?td3 (by kernel_rfl) (by kernel_rfl) (by kernel_rfl) (by kernel_rfl) (by decide) (fun _ _ _ _ _ h => h) ?tg3 ?ty3 (by assumption) ?tr3
            case ti3 => (simp only [List.getElem?_toArray, List.getElem?_cons_succ, List.getElem?_cons_zero]; rfl)
            case td3 => exact rfl
            case tg3 => exact rfl
            case ty3 => (intro w hSw; (try dsimp only at hSw); go_split_ands; go_simp; try with_reducible rfl)
            simp only [List.setIfInBounds_toArray, List.set_cons_zero, List.set_cons_succ]
            refine' takeVg 2 (oi := _) (d := _) (v := _) ?ti4 ?td4 (by kernel_rfl) (by kernel_rfl) (by kernel_rfl) (by kernel_rfl) (by decide) (fun _ _ _ _ _ h => h) ?tg4 ?ty4 (by assumption) ?tr4
            case ti4 => (simp only [List.getElem?_toArray, List.getElem?_cons_succ, List.getElem?_cons_zero]; rfl)
            case td4 => exact rfl
            case tg4 => exact rfl
            case ty4 => (intro w hSw; (try dsimp only at hSw); go_split_ands; go_simp; try with_reducible rfl)
            simp only [List.setIfInBounds_toArray, List.set_cons_zero, List.set_cons_succ]
            refine' takeVg 3 (oi := _) (d := _) (v := _) ?ti5 ?td5 (by kernel_rfl) (by kernel_rfl) (by kernel_rfl) (by kernel_rfl) (by decide) (fun _ _ _ _ _ h => h) ?tg5 ?ty5 (by assumption) ?tr5
            case ti5 => (simp only [List.getElem?_toArray, List.getElem?_cons_succ, List.getElem?_cons_zero]; rfl)
            case td5 => exact rfl
            case tg5 => exact rfl
            case ty5 => (intro w hSw; (try dsimp only at hSw); go_split_ands; go_simp; try with_reducible rfl)
            simp only [List.setIfInBounds_toArray, List.set_cons_zero, List.set_cons_succ]
            refine' takeVg 4 (oi := _) (d := _) (v := _) ?ti6 ?td6 (by kernel_rfl) (by kernel_rfl) (by kernel_rfl) (by kernel_rfl) (by decide) (fun _ _ _ _ _ h => h) ?tg6 ?ty6 (by assumption) ?tr6
            case ti6 => (simp only [List.getElem?_toArray, List.getElem?_cons_succ, List.getElem?_cons_zero]; rfl)
            case td6 => exact rfl
            case tg6 => exact rfl
            case ty6 => (intro w hSw; (try dsimp only at hSw); go_split_ands; go_simp; try with_reducible rfl)
            simp only [List.setIfInBounds_toArray, List.set_cons_zero, List.set_cons_succ]
            refine' takeV 5 (oi := _) (d := _) (v := _) ?ti7 ?td7 (by kernel_rfl) (by kernel_rfl) (by kernel_rfl) (by kernel_rfl) (by decide) (fun _ _ _ _ _ h => h) ?tg7 ?ty7 (by assumption) ?tr7
            case ti7 => (simp only [List.getElem?_toArray, List.getElem?_cons_succ, List.getElem?_cons_zero]; rfl)
            case td7 => exact rfl
            case tg7 => exact rfl
            case ty7 => (intro w hSw; (try dsimp only at hSw); go_split_ands; go_simp; try with_reducible rfl)
            simp only [List.setIfInBounds_toArray, List.set_cons_zero, List.set_cons_succ]
            refine' takeV 6 (oi := _) (d := _) (v := _) ?ti8 ?td8 (by kernel_rfl) (by kernel_rfl) (by kernel_rfl) (by kernel_rfl) (by decide) (fun _ _ _ _ _ h => h) ?tg8 ?ty8 (by assumption) ?tr8
            case ti8 => (simp only [List.getElem?_toArray, List.getElem?_cons_succ, List.getElem?_cons_zero]; rfl)
            case td8 => exact rfl
            case tg8 => exact rfl
            case ty8 => (intro w hSw; (try dsimp only at hSw); go_split_ands; go_simp; try with_reducible rfl)
            simp only [List.setIfInBounds_toArray, List.set_cons_zero, List.set_cons_succ]
            refine' takeVg 7 (oi := _) (d := _) (v := _) ?ti9 ?td9 (by kernel_rfl) (by kernel_rfl) (by kernel_rfl) (by kernel_rfl) (by decide) (fun _ _ _ _ _ h => h) ?tg9 ?ty9 (by assumption) ?tr9
            case ti9 => (simp only [List.getElem?_toArray, List.getElem?_cons_succ, List.getElem?_cons_zero]; rfl)
            case td9 => exact rfl
            case tg9 => exact rfl
            case ty9 => (intro w hSw; (try dsimp only at hSw); go_split_ands; go_simp; try with_reducible rfl)
            simp only [List.setIfInBounds_toArray, List.set_cons_zero, List.set_cons_succ]
            refine' takeVg 8 (oi := _) (d := _) (v := _) ?ti10 ?td10 (by kernel_rfl) (by kernel_rfl) (by kernel_rfl) (by kernel_rfl) (by decide) (fun _ _ _ _ _ h => h) ?tg10 ?ty10 (by assumption) ?tr10
            case ti10 => (simp only [List.getElem?_toArray, List.getElem?_cons_succ, List.getElem?_cons_zero]; rfl)
            case td10 => exact rfl
            case tg10 => exact rfl
            case ty10 => (intro w hSw; (try dsimp only at hSw); go_split_ands; go_simp; try with_reducible rfl)
            simp only [List.setIfInBounds_toArray, List.set_cons_zero, List.set_cons_succ]
            refine' takeV 9 (oi := _) (d := _) (v := _) ?ti11 ?td11 (by kernel_rfl) (by kernel_rfl) (by kernel_rfl) (by kernel_rfl) (by decide) (fun _ _ _ _ _ h => h) ?tg11 ?ty11 (by assumption) ?tr11
            case ti11 => (simp only [List.getElem?_toArray, List.getElem?_cons_succ, List.getElem?_cons_zero]; rfl)
            case td11 => exact rfl
            case tg11 => exact rfl
            case ty11 => (intro w hSw; (try dsimp only at hSw); go_split_ands; go_simp; try with_reducible rfl)
            simp only [List.setIfInBounds_toArray, List.set_cons_zero, List.set_cons_succ]
            refine' takeV 10 (oi := _) (d := _) (v := _) ?ti12 ?td12 (by kernel_rfl) (by kernel_rfl) (by kernel_rfl) (by kernel_rfl) (by decide) (fun _ _ _ _ _ h => h) ?tg12 ?ty12 (by assumption) ?tr12
            case ti12 => (simp only [List.getElem?_toArray, List.getElem?_cons_succ, List.getElem?_cons_zero]; rfl)
            case td12 => exact rfl
            case tg12 => exact rfl
            case ty12 => (intro w hSw; (try dsimp only at hSw); go_split_ands; go_simp; try with_reducible rfl)
            simp only [List.setIfInBounds_toArray, List.set_cons_zero, List.set_cons_succ]
            refine' takeVg 11 (oi := _) (d := _) (v := _) ?ti13 ?td13 (by kernel_rfl) (by kernel_rfl) (by kernel_rfl) (by kernel_rfl) (by decide) (fun _ _ _ _ _ h => h) ?tg13 ?ty13 (by assumption) ?tr13
            case ti13 => (simp only [List.getElem?_toArray, List.getElem?_cons_succ, List.getElem?_cons_zero]; rfl)
            case td13 => exact rfl
            case tg13 => exact rfl
            case ty13 => (intro w hSw; (try dsimp only at hSw); go_split_ands; go_simp; try with_reducible rfl)
            simp only [List.setIfInBounds_toArray, List.set_cons_zero, List.set_cons_succ]
            refine' takeVg 12 (oi := _) (d := _) (v := _) ?ti14 ?td14 (by kernel_rfl) (by kernel_rfl) (by kernel_rfl) (by kernel_rfl) (by decide) (fun _ _ _ _ _ h => h) ?tg14 ?ty14 (by assumption) ?tr14
            case ti14 => (simp only [List.getElem?_toArray, List.getElem?_cons_succ, List.getElem?_cons_zero]; rfl)
            case td14 => exact rfl
            case tg14 => exact rfl
            case ty14 => (intro w hSw; (try dsimp only at hSw); go_split_ands; go_simp; try with_reducible rfl)
            simp only [List.setIfInBounds_toArray, List.set_cons_zero, List.set_cons_succ]
            clear hHeld tok1
            obtain ⟨V0, hV0⟩ : ∃ V0, V0 = wb.drew := ⟨_, rfl⟩
            have B0 : Hid (Below wb.heap.size wb V0) := by rw [hV0]; exact (Below.refl _ _).drew
            rw [← hV0]
            clear hV0
            have z0 := B0.out.size
            have HS1 := slotsame_any 1 l A11 n c11 es 1 l A n c es V0 (N11.out.below B0.out).rd (NW.out.below B0.out).rd
            rw [sameN_refl] at HS1
            refine stepG 13 (by kernel_rfl) (by simp only [List.getElem?_toArray, List.getElem?_cons_succ, List.getElem?_cons_zero]; rfl) (fun K hK => ?_)
            go_simp
            refine (HS1).mono ?_
            rintro e v1 ⟨rfl, hb⟩
            refine hK.out _ _ ?ts15 (fun hHeld => ?_)
            case ts15 => ((try dsimp only); exact TR.out _ (B0.out.trans (hb.mono z0)))
            clear hK K
            have B1 : Hid (Below wb.heap.size wb v1) := B0.out.trans (hb.mono z0)
            have z1 := B1.out.size
            clear HS1 hb
            refine' takeV 14 (oi := _) (d := _) (v := _) ?ti16 ?td16 (by kernel_rfl) (by kernel_rfl) (by kernel_rfl) (by kernel_rfl) (by decide) (fun _ _ _ _ _ h => h) ?tg16 ?ty16 (by assumption) ?tr16
            case ti16 => (simp only [List.getElem?_toArray, List.getElem?_cons_succ, List.getElem?_cons_zero]; rfl)
            case td16 => exact rfl
            case tg16 => exact rfl
            case ty16 => (intro w hSw; (try dsimp only at hSw); go_split_ands; go_simp; try with_reducible rfl)
            simp only [List.setIfInBounds_toArray, List.set_cons_zero, List.set_cons_succ]
            refine' takeV 15 (oi := _) (d := _) (v := _) ?ti17 ?td17 (by kernel_rfl) (by kernel_rfl) (by kernel_rfl) (by kernel_rfl) (by decide) (fun _ _ _ _ _ h => h) ?tg17 ?ty17 (by assumption) ?tr17
            case ti17 => (simp only [List.getElem?_toArray, List.getElem?_cons_succ, List.getElem?_cons_zero]; rfl)
            case td17 => exact rfl
            case tg17 => exact rfl
            case ty17 => (intro w hSw; (try dsimp only at hSw); go_split_ands; go_simp; try with_reducible rfl)
            simp only [List.setIfInBounds_toArray, List.set_cons_zero, List.set_cons_succ]
            refine' takeVg 16 (oi := _) (d := _) (v := _) ?ti18 ?td18 (by kernel_rfl) (by kernel_rfl) (by kernel_rfl) (by kernel_rfl) (by decide) (fun _ _ _ _ _ h => h) ?tg18 ?ty18 (by assumption) ?tr18
            case ti18 => (simp only [List.getElem?_toArray, List.getElem?_cons_succ, List.getElem?_cons_zero]; rfl)
            case td18 => exact rfl
            case tg18 => exact rfl
            case ty18 => (intro w hSw; (try dsimp only at hSw); go_split_ands; go_simp; try with_reducible rfl)
            simp only [List.setIfInBounds_toArray, List.set_cons_zero, List.set_cons_succ]
            refine' takeVg 17 (oi := _) (d := _) (v := _) ?ti19 ?td19 (by kernel_rfl) (by kernel_rfl) (by kernel_rfl) (by kernel_rfl) (by decide) (fun _ _ _ _ _ h => h) ?tg19 ?ty19 (by assumption) ?tr19
            case ti19 => (simp only [List.getElem?_toArray, List.getElem?_cons_succ, List.getElem?_cons_zero]; rfl)
            case td19 => exact rfl
            case tg19 => exact rfl
            case ty19 => (intro w hSw; (try dsimp only at hSw); go_split_ands; go_simp; try with_reducible rfl)
            simp only [List.setIfInBounds_toArray, List.set_cons_zero, List.set_cons_succ]
            refine' takeVg 18 (oi := _) (d := _) (v := _) ?ti20 ?td20 (by kernel_rfl) (by kernel_rfl) (by kernel_rfl) (by kernel_rfl) (by decide) (fun _ _ _ _ _ h => h) ?tg20 ?ty20 (by assumption) ?tr20
            case ti20 => (simp only [List.getElem?_toArray, List.getElem?_cons_succ, List.getElem?_cons_zero]; rfl)
            case td20 => exact rfl
            case tg20 => exact rfl
            case ty20 => (intro w hSw; (try dsimp only at hSw); go_split_ands; go_simp; try with_reducible rfl)
            simp only [List.setIfInBounds_toArray, List.set_cons_zero, List.set_cons_succ]
            refine' takeVg 19 (oi := _) (d := _) (v := _) ?ti21 ?td21 (by kernel_rfl) (by kernel_rfl) (by kernel_rfl) (by kernel_rfl) (by decide) (fun _ _ _ _ _ h => h) ?tg21 ?ty21 (by assumption) ?tr21
            case ti21 => (simp only [List.getElem?_toArray, List.getElem?_cons_succ, List.getElem?_cons_zero]; rfl)
            case td21 => exact rfl
            case tg21 => exact rfl
            case ty21 => (intro w hSw; (try dsimp only at hSw); go_split_ands; go_simp; try with_reducible rfl)
            simp only [List.setIfInBounds_toArray, List.set_cons_zero, List.set_cons_succ]
            refine' takeVg 20 (oi := _) (d := _) (v := _) ?ti22 ?td22 (by kernel_rfl) (by kernel_rfl) (by kernel_rfl) (by kernel_rfl) (by decide) (fun _ _ _ _ _ h => h) ?tg22 ?ty22 (by assumption) ?tr22
            case ti22 => (simp only [List.getElem?_toArray, List.getElem?_cons_succ, List.getElem?_cons_zero]; rfl)
            case td22 => exact rfl
            case tg22 => exact rfl
            case ty22 => (intro w hSw; (try dsimp only at hSw); go_split_ands; go_simp; try with_reducible rfl)
            simp only [List.setIfInBounds_toArray, List.set_cons_zero, List.set_cons_succ]
            refine' takeVg 21 (oi := _) (d := _) (v := _) ?ti23 ?td23 (by kernel_rfl) (by kernel_rfl) (by kernel_rfl) (by kernel_rfl) (by decide) (fun _ _ _ _ _ h => h) ?tg23 ?ty23 (by assumption) ?tr23
            case ti23 => (simp only [List.getElem?_toArray, List.getElem?_cons_succ, List.getElem?_cons_zero]; rfl)
            case td23 => exact rfl
            case tg23 => exact rfl
            case ty23 => (intro w hSw; (try dsimp only at hSw); rw [exec_slice_1 (.tmp 91) (.tmp 92) (.tmp 94) rfl (A := A7) (n := n + 1) (c := c7) (i := i) rfl rfl rfl (by omega) w])
            simp only [List.setIfInBounds_toArray, List.set_cons_zero, List.set_cons_succ]
            refine' takeVg 22 (oi := _) (d := _) (v := _) ?ti24 ?td24 (by kernel_rfl) (by kernel_rfl) (by kernel_rfl) (by kernel_rfl) (by decide) (fun _ _ _ _ _ h => h) ?tg24 ?ty24 (by assumption) ?tr24
            case ti24 => (simp only [List.getElem?_toArray, List.getElem?_cons_succ, List.getElem?_cons_zero]; rfl)
            case td24 => exact rfl
            case tg24 => exact rfl
            case ty24 => (intro w hSw; (try dsimp only at hSw); go_split_ands; go_simp; try with_reducible rfl)
            simp only [List.setIfInBounds_toArray, List.set_cons_zero, List.set_cons_succ]
            refine' takeVg 23 (oi := _) (d := _) (v := _) ?ti25 ?td25 (by kernel_rfl) (by kernel_rfl) (by kernel_rfl) (by kernel_rfl) (by decide) (fun _ _ _ _ _ h => h) ?tg25 ?ty25 (by assumption) ?tr25
            case ti25 => (simp only [List.getElem?_toArray, List.getElem?_cons_succ, List.getElem?_cons_zero]; rfl)
            case td25 => exact rfl
            case tg25 => exact rfl
            case ty25 => (intro w hSw; (try dsimp only at hSw); go_split_ands; go_simp; try with_reducible rfl)
            simp only [List.setIfInBounds_toArray, List.set_cons_zero, List.set_cons_succ]
            clear hHeld hw1
            refine stepG 24 (by kernel_rfl) (by simp only [List.getElem?_toArray, List.getElem?_cons_succ, List.getElem?_cons_zero]; rfl) (fun K hK => ?_)
            go_simp
            refine hK.out _ _ ?ts26 (fun hHeld => ?_)
            case ts26 => ((try dsimp only); exact TR.out _ (B1.out.alloc z1 _))
            clear hK K
            obtain ⟨v2, hv2⟩ : ∃ v2, v2 = v1.alloc (.cells #[.slice A1 n1 c1, .slice A2 n2 c2, .int .i64 x.len, .int .u32 (x.chain.1 : Int), .int .u64 (x.chain.2.1 : Int), .int .u16 (x.chain.2.2 : Int), .int .u32 (x.child.1 : Int), .int .u64 (x.child.2.1 : Int), .int .u16 (x.child.2.2 : Int)] 46) := ⟨_, rfl⟩
            have hkv : Blk v2 v1.heap.size 46 (enC A1 n1 c1 A2 n2 c2 x.len x.chain x.child).toArray := by rw [hv2]; exact Blk.new _ _ _
            have B2 : Hid (Below wb.heap.size wb v2) := by rw [hv2]; exact B1.out.alloc z1 _
            have z2 := B2.out.size
            rw [← hv2] at hHeld ⊢
            clear hv2
            have hL1 : (L.take (i + 1)).drop i = [x] := by rw [← HL.out]; exact ins_one (by rw [← HLn.out]; exact hin) x
            have hsub : RdL v2 (cutA A7 c7 i) 1 (c7 - i) [x] := by
              have := ((N7.out.below B2.out).rd.take (i + 1) (by omega)).cutA i (by omega)
              rw [hL1, Nat.add_sub_cancel_left] at this
              exact this
            have HS2 := slotsame_any 0 0 (cutA A7 c7 i) 1 (c7 - i) [x] 0 0 (some ⟨v1.heap.size, 0, none⟩) 1 1 [x] v2 hsub (RdL.single hkv (EW.out.below B2.out).key (EW.out.below B2.out).val)
            rw [sameN_refl] at HS2
            clear hL1 hsub hkv
            refine' takeVg 25 (oi := _) (d := _) (v := _) ?ti27 ?td27 (by kernel_rfl) (by kernel_rfl) (by kernel_rfl) (by kernel_rfl) (by decide) (fun _ _ _ _ _ h => h) ?tg27 ?ty27 (by assumption) ?tr27
            case ti27 => (simp only [List.getElem?_toArray, List.getElem?_cons_succ, List.getElem?_cons_zero]; rfl)
            case td27 => exact rfl
            case tg27 => exact rfl
            case ty27 => (intro w hSw; (try dsimp only at hSw); go_split_ands; go_simp; try with_reducible rfl)
            simp only [List.setIfInBounds_toArray, List.set_cons_zero, List.set_cons_succ]
            clear hHeld
            refine stepG 26 (by kernel_rfl) (by simp only [List.getElem?_toArray, List.getElem?_cons_succ, List.getElem?_cons_zero]; rfl) (fun K hK => ?_)
            go_simp
            refine (HS2).mono ?_
            rintro e v3 ⟨rfl, hb⟩
            refine hK.out _ _ ?ts28 (fun hHeld => ?_)
            case ts28 => ((try dsimp only); exact TR.out _ (B2.out.trans (hb.mono z2)))
            clear hK K
            have B3 : Hid (Below wb.heap.size wb v3) := B2.out.trans (hb.mono z2)
            have z3 := B3.out.size
            clear HS2 hb
            refine' takeV 27 (oi := _) (d := _) (v := _) ?ti29 ?td29 (by kernel_rfl) (by kernel_rfl) (by kernel_rfl) (by kernel_rfl) (by decide) (fun _ _ _ _ _ h => h) ?tg29 ?ty29 (by assumption) ?tr29
            case ti29 => (simp only [List.getElem?_toArray, List.getElem?_cons_succ, List.getElem?_cons_zero]; rfl)
            case td29 => exact rfl
            case tg29 => exact rfl
            case ty29 => (intro w hSw; (try dsimp only at hSw); go_split_ands; go_simp; try with_reducible rfl)
            simp only [List.setIfInBounds_toArray, List.set_cons_zero, List.set_cons_succ]
            refine' takeV 28 (oi := _) (d := _) (v := _) ?ti30 ?td30 (by kernel_rfl) (by kernel_rfl) (by kernel_rfl) (by kernel_rfl) (by decide) (fun _ _ _ _ _ h => h) ?tg30 ?ty30 (by assumption) ?tr30
            case ti30 => (simp only [List.getElem?_toArray, List.getElem?_cons_succ, List.getElem?_cons_zero]; rfl)
            case td30 => exact rfl
            case tg30 => exact rfl
            case ty30 => (intro w hSw; (try dsimp only at hSw); go_split_ands; go_simp; try with_reducible rfl)
            simp only [List.setIfInBounds_toArray, List.set_cons_zero, List.set_cons_succ]
            clear hHeld
            refine stepG 29 (by kernel_rfl) (by simp only [List.getElem?_toArray, List.getElem?_cons_succ, List.getElem?_cons_zero]; rfl) (fun K hK => ?_)
            go_simp
            refine (known_any v3).mono ?_
            rintro e v4 ⟨rfl, hb⟩
            refine hK.out _ _ ?ts31 (fun hHeld => ?_)
            case ts31 => ((try dsimp only); exact TR.out _ (B3.out.trans (hb.mono z3)))
            clear hK K
            have B4 : Hid (Below wb.heap.size wb v4) := B3.out.trans (hb.mono z3)
            clear hb
            refine' takeV 30 (oi := _) (d := _) (v := _) ?ti32 ?td32 (by kernel_rfl) (by kernel_rfl) (by kernel_rfl) (by kernel_rfl) (by decide) (fun _ _ _ _ _ h => h) ?tg32 ?ty32 (by assumption) ?tr32
            case ti32 => (simp only [List.getElem?_toArray, List.getElem?_cons_succ, List.getElem?_cons_zero]; rfl)
            case td32 => exact rfl
            case tg32 => exact rfl
            case ty32 => (intro w hSw; (try dsimp only at hSw); go_split_ands; go_simp; try with_reducible rfl)
            simp only [List.setIfInBounds_toArray, List.set_cons_zero, List.set_cons_succ]
            refine stepG 31 (by kernel_rfl) (by simp only [List.getElem?_toArray, List.getElem?_cons_succ, List.getElem?_cons_zero]; rfl) (fun K hK => ?_)
            go_simp
            refine hK.out _ _ ?ts33 (fun hHeld => ?_)
            case ts33 => ((try dsimp only); exact hHeld)
            clear hK K
            refine doneG (by kernel_rfl) ?_ _
            clear hHeld
            go_wp2_with fail
            go_ret
            exact ⟨rfl, HB0.out.trans ((HX5.out.trans (B4.out.mono HX5.out.size)).mono s0)⟩
          · clear ho hb
            obtain ⟨w5, hw5⟩ : ∃ w5, w5 = w4.alloc (.cells #[.int .u8 (sN 2 1 : Int), .int .u8 (sN 2 l : Int), .slice A7 (sE 2 L).length c7] 24) := ⟨_, rfl⟩
            have HX5 : Hid (Below W.heap.size W w5) := by rw [hw5]; exact HX4.out.alloc HX4.out.size _
            go_upto_region 5 with fail
            rw [← hw5]
            clear hw5
            go_wp2_with (go_at_call 13; refine (known_any _).mono ?_; rintro e w9 ⟨rfl, hb9⟩)
            go_ret
            exact ⟨rfl, HB0.out.trans ((HX5.out.trans (hb9.mono HX5.out.size)).mono s0)⟩
      · obtain ⟨E, HE⟩ : ∃ E, Hid (rE 1 l es = E) := ⟨_, rfl⟩
        rw [HE.out] at HC
        have HCC := Lib.hid HC
        have hEn : (E != 0) = true := by rw [bne_iff_ne, ← HE.out]; exact hr
        clear hr HC
        go_wp2_with fail
        refine HCC.out.mono ?_
        rintro e w2 ⟨rfl, hb⟩
        have HX : Hid (Below W.heap.size W w2) := HB1.out.trans (hb.mono s2)
        clear hb d0 d1 d2 x0 x1 x2 x3 x4 x5 x6 x7 x8 HCC N1 E1 HB1
        go_wp2_with (go_at_call 13; refine (known_any _).mono ?_; rintro e w9 ⟨rfl, hb9⟩)
        go_ret
        exact ⟨rfl, HB0.out.trans ((HX.out.trans (hb9.mono HX.out.size)).mono s0)⟩
    · have hkn : ((k : Int) != 1) = true := by rw [bne_iff_ne]; omega
      clear hk1
      go_wp2_with (go_at_call 13; refine (known_any _).mono ?_; rintro e w9 ⟨rfl, hb9⟩)
      go_ret
      exact ⟨rfl, HX1.out.trans (hb9.mono sx)⟩
end Go.Proofs.Ytgihcjmcefdkiaa
