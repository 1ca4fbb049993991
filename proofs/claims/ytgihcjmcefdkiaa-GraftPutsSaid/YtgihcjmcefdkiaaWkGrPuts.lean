/- The walk of GraftPuts. -/
import Derived.Test.YtgihcjmcefdkiaaGrWithR
set_option linter.unusedVariables false
set_option linter.unusedSimpArgs false
namespace Go.Proofs.Ytgihcjmcefdkiaa
open Go.RowKit

/-- An entry in a variable of its own. -/
structure Ein (w : World) (g : Nat) (A1 : Option Addr) (n1 c1 : Nat) (A2 : Option Addr) (n2 c2 : Nat) (x : Ent) : Prop where
  blk : Blk w g 46 (enC A1 n1 c1 A2 n2 c2 x.len x.chain x.child).toArray
  key : Rd w A1 n1 c1 x.key
  val : Rd w A2 n2 c2 x.val
theorem Ein.below {w w' : World} {g : Nat} {A1 : Option Addr} {n1 c1 : Nat} {A2 : Option Addr} {n2 c2 : Nat} {x : Ent} (h : Ein w g A1 n1 c1 A2 n2 c2 x) (hb : Below w.heap.size w w') : Ein w' g A1 n1 c1 A2 n2 c2 x :=
  ⟨h.blk.below hb h.blk.lt, h.key.below hb, h.val.below hb⟩
theorem Ein.cells {w : World} {g : Nat} {A1 : Option Addr} {n1 c1 : Nat} {A2 : Option Addr} {n2 c2 : Nat} {x : Ent} (h : Ein w g A1 n1 c1 A2 n2 c2 x) :
    w.cell? ⟨g, 0, none⟩ = some (.slice A1 n1 c1) ∧ w.cell? ⟨g, 1, none⟩ = some (.slice A2 n2 c2) ∧ w.cell? ⟨g, 2, none⟩ = some (.int .i64 x.len) ∧ w.cell? ⟨g, 3, none⟩ = some (.int .u32 (x.chain.1 : Int)) ∧ w.cell? ⟨g, 4, none⟩ = some (.int .u64 (x.chain.2.1 : Int)) ∧
      w.cell? ⟨g, 5, none⟩ = some (.int .u16 (x.chain.2.2 : Int)) ∧ w.cell? ⟨g, 6, none⟩ = some (.int .u32 (x.child.1 : Int)) ∧ w.cell? ⟨g, 7, none⟩ = some (.int .u64 (x.child.2.1 : Int)) ∧ w.cell? ⟨g, 8, none⟩ = some (.int .u16 (x.child.2.2 : Int)) :=
  ⟨h.blk.cell 0, h.blk.cell 1, h.blk.cell 2, h.blk.cell 3, h.blk.cell 4, h.blk.cell 5, h.blk.cell 6, h.blk.cell 7, h.blk.cell 8⟩
theorem sN_lt {E : Int} {k : Nat} (h : k < 256) : sN E k < 256 := by unfold sN; split <;> omega
theorem EC.own {w : World} {H : Nat} {B1 : Option Addr} {n1 d1 : Nat} {B2 : Option Addr} {n2 d2 : Nat} {x : Ent} (h : EC w H (enC B1 n1 d1 B2 n2 d2 x.len x.chain x.child) x) : Own w H B1 n1 d1 x.key ∧ Own w H B2 n2 d2 x.val := by
  obtain ⟨C1, m1, f1, C2, m2, f2, e2, o1, o2⟩ := h
  simp only [enC, List.cons.injEq, Value.slice.injEq] at e2
  obtain ⟨⟨rfl, rfl, rfl⟩, ⟨rfl, rfl, rfl⟩, _⟩ := e2
  exact ⟨o1, o2⟩
/-- An entry in a variable is written. -/
theorem OwnN.keptX {w w' : World} {H X n c : Nat} {A : Option Addr} {es : List Ent} {bs : Array Value} (h : OwnN w H A n c es) (hX : Blk w X 46 bs) (hne : ∀ a, A = some a → a.block ≠ X) (hg : w.grownBy w' (some X)) : OwnN w' H A n c es := by
  obtain ⟨css, h1, h2⟩ := h
  refine ⟨css, ⟨World.ownsRow.kept h1.1 hg ?_, h1.2⟩, fun j hj => (h2 j hj).keptE hX (by decide) hg⟩
  cases A with
  | none => exact .inl rfl
  | some a => exact .inr (by have := hne a rfl; simpa [Value.ownBlock] using this)
set_option maxRecDepth 100000 in
set_option maxHeartbeats 6400000 in
theorem graftPuts_walk (k l : Nat) (A : Option Addr) (n c : Nat) (es : List Ent) (i : Int) (A1 : Option Addr) (n1 c1 : Nat) (A2 : Option Addr) (n2 c2 : Nat) (x : Ent) (w : World) (hk : k < 256) (hl : l < 256) (h : RdL w A n c es) (hin : esIn es) (hi : i64In i)
    (h1 : Rd w A1 n1 c1 x.key) (h2 : Rd w A2 n2 c2 x.val) (hxin : entIn x) :
    Calls Try.prog 6 #[NdV k l A n c, .int .i64 i, EnV A1 n1 c1 A2 n2 c2 x.len x.chain x.child] w fun e w' => e = .returned (.bool true) ∧ Below w.heap.size w w' := by
  have HIW := Lib.hid hi
  obtain ⟨hi1, hi2⟩ := hi
  obtain ⟨W, hW⟩ : ∃ W, W = (w.alloc (.cells #[.int .u8 (k : Int), .int .u8 (l : Int), .slice A n c] 24)).alloc (.cells (enA A1 n1 c1 A2 n2 c2 x.len x.chain x.child) 46) := ⟨_, rfl⟩
  have HB0 : Hid (Below w.heap.size w W) := by rw [hW]; exact (below_new1 _ _).alloc (by simp) _
  have N0 : Hid (Nin W w.heap.size k l A n c es) := by rw [hW]; exact ⟨(Blk.new _ _ _).alloc _, h.below ((below_new1 _ _).alloc (by simp) _)⟩
  have E0 : Hid (Ein W (w.heap.size + 1) A1 n1 c1 A2 n2 c2 x) := ⟨by rw [hW]; exact Blk.new' _ _ _ _ (by simp), h1.below HB0.out, h2.below HB0.out⟩
  have HWs : Hid (W.heap.size = w.heap.size + 1 + 1) := by rw [hW, size_new, size_new]; rfl
  have HLn := Lib.hid h.len
  have HW := Lib.hid hW
  have HIN := Lib.hid hin
  have HXI := Lib.hid hxin
  have HXL : Hid (n1 = x.key.length ∧ n2 = x.val.length) := ⟨h1.len, h2.len⟩
  clear h h1 h2 hW hin hxin
  have d0 := N0.out.c0
  have d1 := N0.out.c1
  have d2 := N0.out.c2
  obtain ⟨x0, x1, x2, x3, x4, x5, x6, x7, x8⟩ := E0.out.cells
  go_enter Try.func6, Try.ntmps6
  go_wp2_with fail
  rw [← HW.out]
  obtain ⟨Va, hVa⟩ : ∃ Va, Va = W.alloc (.cells #[.slice A1 n1 c1, .slice A2 n2 c2, .int .i64 x.len, .int .u32 (x.chain.1 : Int), .int .u64 (x.chain.2.1 : Int), .int .u16 (x.chain.2.2 : Int), .int .u32 (x.child.1 : Int), .int .u64 (x.child.2.1 : Int), .int .u16 (x.child.2.2 : Int)] 46) := ⟨_, rfl⟩
  have hba : Below W.heap.size W Va := by rw [hVa]; exact below_new1 _ _
  have hka : Blk Va (w.heap.size + 1 + 1) 46 (enC A1 n1 c1 A2 n2 c2 x.len x.chain x.child).toArray := by rw [hVa]; exact Blk.new' _ _ _ _ HWs.out
  have hsa : Va.heap.size = w.heap.size + 1 + 1 + 1 := by rw [hVa, size_new, HWs.out]
  rw [← hVa]
  clear hVa
  obtain ⟨W1, hW1⟩ : ∃ W1, W1 = Va.alloc (.cells #[.int .u8 (k : Int), .int .u8 (l : Int), .slice A n c, .int .u8 0, .int .u8 0, .slice (some ⟨w.heap.size + 1 + 1, 0, none⟩) 1 1] 24) := ⟨_, rfl⟩
  have hb1 : Below W.heap.size W W1 := by rw [hW1]; exact hba.alloc hba.size _
  have hk1 : Blk W1 (w.heap.size + 1 + 1 + 1) 24 [Value.int .u8 (k : Int), .int .u8 (l : Int), .slice A n c, .int .u8 ((0 : Nat) : Int), .int .u8 ((0 : Nat) : Int), .slice (some ⟨w.heap.size + 1 + 1, 0, none⟩) 1 1].toArray := by rw [hW1]; exact Blk.new' _ _ _ _ hsa
  have hka1 : Blk W1 (w.heap.size + 1 + 1) 46 (enC A1 n1 c1 A2 n2 c2 x.len x.chain x.child).toArray := by rw [hW1]; exact hka.alloc _
  rw [← hW1]
  have HM := Lib.hid (lheavy_any (some ⟨w.heap.size + 1 + 1 + 1, 0, none⟩) 2 2 [es, [x]] W1 (RdNs.two hk1 hk hl (by omega) (by omega) (N0.out.below hb1).rd (RdL.single hka1 (E0.out.below hb1).key (E0.out.below hb1).val)))
  have HBa := Lib.hid hb1
  have s1 := hb1.size
  clear hW1 hb1 hk1 hka1 hka hba hsa
  refine HM.out.mono ?_
  rintro e w1 ⟨b, rfl, hbb, hb⟩
  have HB1 : Hid (Below W.heap.size W w1) := HBa.out.trans (hb.mono s1)
  have N1 := Lib.hid (N0.out.below HB1.out)
  have E1 := Lib.hid (E0.out.below HB1.out)
  have HBB := Lib.hid hbb
  have s0 := HB0.out.size
  have s2 := HB1.out.size
  have HX1 : Hid (Below w.heap.size w w1) := HB0.out.trans (HB1.out.mono s0)
  have sx := HX1.out.size
  clear hb hbb d0 d1 d2 x0 x1 x2 x3 x4 x5 x6 x7 x8 HM HBa s1
  cases b with
  | true =>
    go_wp2_with (go_at_call 13; refine (known_any _).mono ?_; rintro e w3 ⟨rfl, hb3⟩)
    go_ret
    exact ⟨rfl, HX1.out.trans (hb3.mono sx)⟩
  | false =>
    have HO := Lib.hid (HBB.out rfl 0 (by simp))
    have HOx := Lib.hid (HBB.out rfl 1 (by simp))
    have HN3 : Hid (n ≤ 300) := by show _ ≤ _; rw [HLn.out]; exact HO.out.2
    have HXk : Hid (x.key.length ≤ 4096 ∧ x.val.length ≤ 4096) := HOx.out.1.2 0 (by simp)
    clear HBB HOx
    have TR : Hid (∀ V, Below W.heap.size W V → (fun V => V.cell? ⟨w.heap.size, 0, none⟩ = some (.int .u8 (k : Int)) ∧ V.cell? ⟨w.heap.size, 1, none⟩ = some (.int .u8 (l : Int)) ∧ V.cell? ⟨w.heap.size, 2, none⟩ = some (.slice A n c) ∧ V.cell? ⟨w.heap.size + 1, 0, none⟩ = some (.slice A1 n1 c1) ∧ V.cell? ⟨w.heap.size + 1, 1, none⟩ = some (.slice A2 n2 c2) ∧ V.cell? ⟨w.heap.size + 1, 2, none⟩ = some (.int .i64 x.len) ∧ V.cell? ⟨w.heap.size + 1, 3, none⟩ = some (.int .u32 (x.chain.1 : Int)) ∧ V.cell? ⟨w.heap.size + 1, 4, none⟩ = some (.int .u64 (x.chain.2.1 : Int)) ∧ V.cell? ⟨w.heap.size + 1, 5, none⟩ = some (.int .u16 (x.chain.2.2 : Int)) ∧ V.cell? ⟨w.heap.size + 1, 6, none⟩ = some (.int .u32 (x.child.1 : Int)) ∧ V.cell? ⟨w.heap.size + 1, 7, none⟩ = some (.int .u64 (x.child.2.1 : Int)) ∧ V.cell? ⟨w.heap.size + 1, 8, none⟩ = some (.int .u16 (x.child.2.2 : Int)) ∧ Below W.heap.size W V) V) := fun V hb => by
      have n1 := N0.out.below hb
      obtain ⟨x0, x1, x2, x3, x4, x5, x6, x7, x8⟩ := (E0.out.below hb).cells
      exact ⟨n1.c0, n1.c1, n1.c2, x0, x1, x2, x3, x4, x5, x6, x7, x8, hb⟩
    go_upto_region 3 with fail
    go_cut [7, 8] (fun s7 s8 wx => ∃ g7 g8 A' c' B1 m1 d1 B2 m2 d2, s7 = .pointer (some ⟨g7, 0, none⟩) ∧ s8 = .pointer (some ⟨g8, 0, none⟩) ∧ Nin wx g7 k l A' n c' es ∧ Ein wx g8 B1 m1 d1 B2 m2 d2 x ∧ Below W.heap.size W wx)
    case first =>
      refine region_gate 8 (fun V => V.cell? ⟨w.heap.size, 0, none⟩ = some (.int .u8 (k : Int)) ∧ V.cell? ⟨w.heap.size, 1, none⟩ = some (.int .u8 (l : Int)) ∧ V.cell? ⟨w.heap.size, 2, none⟩ = some (.slice A n c) ∧ V.cell? ⟨w.heap.size + 1, 0, none⟩ = some (.slice A1 n1 c1) ∧ V.cell? ⟨w.heap.size + 1, 1, none⟩ = some (.slice A2 n2 c2) ∧ V.cell? ⟨w.heap.size + 1, 2, none⟩ = some (.int .i64 x.len) ∧ V.cell? ⟨w.heap.size + 1, 3, none⟩ = some (.int .u32 (x.chain.1 : Int)) ∧ V.cell? ⟨w.heap.size + 1, 4, none⟩ = some (.int .u64 (x.chain.2.1 : Int)) ∧ V.cell? ⟨w.heap.size + 1, 5, none⟩ = some (.int .u16 (x.chain.2.2 : Int)) ∧ V.cell? ⟨w.heap.size + 1, 6, none⟩ = some (.int .u32 (x.child.1 : Int)) ∧ V.cell? ⟨w.heap.size + 1, 7, none⟩ = some (.int .u64 (x.child.2.1 : Int)) ∧ V.cell? ⟨w.heap.size + 1, 8, none⟩ = some (.int .u16 (x.child.2.2 : Int)) ∧ Below W.heap.size W V) (by kernel_rfl) ?th1 (fun hHeld => ?tk1)
      case th1 => ((try dsimp only); exact TR.out _ HB1.out.drew)
      refine' takeV 0 (oi := _) (d := _) (v := _) ?ti2 ?td2 (by kernel_rfl) (by kernel_rfl) (by kernel_rfl) (by kernel_rfl) (by decide) (fun _ _ _ _ _ h => h) ?tg2 ?ty2 (by assumption) ?tr2
      case ti2 => (simp only [List.getElem?_toArray, List.getElem?_cons_succ, List.getElem?_cons_zero]; rfl)
      case td2 => exact rfl
      case tg2 => exact rfl
      case ty2 => (intro w hSw; (try dsimp only at hSw); go_split_ands; go_simp; try with_reducible rfl)
      simp only [List.setIfInBounds_toArray, List.set_cons_zero, List.set_cons_succ]
      refine' takeV 2 (oi := _) (d := _) (v := _) ?ti3 ?td3 (by kernel_rfl) (by kernel_rfl) (by kernel_rfl) (by kernel_rfl) (by decide) (fun _ _ _ _ _ h => h) ?tg3 ?ty3 (by assumption) ?tr3
      case ti3 => (simp only [List.getElem?_toArray, List.getElem?_cons_succ, List.getElem?_cons_zero]; rfl)
      case td3 => exact rfl
      case tg3 => exact rfl
      case ty3 => (intro w hSw; (try dsimp only at hSw); go_split_ands; go_simp; try with_reducible rfl)
      simp only [List.setIfInBounds_toArray, List.set_cons_zero, List.set_cons_succ]
      obtain ⟨V0, hV0⟩ : ∃ V0, V0 = w1.drew := ⟨_, rfl⟩
      have B0 : Hid (Below W.heap.size W V0) := by rw [hV0]; exact HB1.out.drew
      rw [← hV0] at hHeld ⊢
      clear hV0
      have keepS : ∀ wa wb : World, (fun V => V.cell? ⟨w.heap.size, 0, none⟩ = some (.int .u8 (k : Int)) ∧ V.cell? ⟨w.heap.size, 1, none⟩ = some (.int .u8 (l : Int)) ∧ V.cell? ⟨w.heap.size, 2, none⟩ = some (.slice A n c) ∧ V.cell? ⟨w.heap.size + 1, 0, none⟩ = some (.slice A1 n1 c1) ∧ V.cell? ⟨w.heap.size + 1, 1, none⟩ = some (.slice A2 n2 c2) ∧ V.cell? ⟨w.heap.size + 1, 2, none⟩ = some (.int .i64 x.len) ∧ V.cell? ⟨w.heap.size + 1, 3, none⟩ = some (.int .u32 (x.chain.1 : Int)) ∧ V.cell? ⟨w.heap.size + 1, 4, none⟩ = some (.int .u64 (x.chain.2.1 : Int)) ∧ V.cell? ⟨w.heap.size + 1, 5, none⟩ = some (.int .u16 (x.chain.2.2 : Int)) ∧ V.cell? ⟨w.heap.size + 1, 6, none⟩ = some (.int .u32 (x.child.1 : Int)) ∧ V.cell? ⟨w.heap.size + 1, 7, none⟩ = some (.int .u64 (x.child.2.1 : Int)) ∧ V.cell? ⟨w.heap.size + 1, 8, none⟩ = some (.int .u16 (x.child.2.2 : Int)) ∧ Below W.heap.size W V) wa → Below wa.heap.size wa wb → (fun V => V.cell? ⟨w.heap.size, 0, none⟩ = some (.int .u8 (k : Int)) ∧ V.cell? ⟨w.heap.size, 1, none⟩ = some (.int .u8 (l : Int)) ∧ V.cell? ⟨w.heap.size, 2, none⟩ = some (.slice A n c) ∧ V.cell? ⟨w.heap.size + 1, 0, none⟩ = some (.slice A1 n1 c1) ∧ V.cell? ⟨w.heap.size + 1, 1, none⟩ = some (.slice A2 n2 c2) ∧ V.cell? ⟨w.heap.size + 1, 2, none⟩ = some (.int .i64 x.len) ∧ V.cell? ⟨w.heap.size + 1, 3, none⟩ = some (.int .u32 (x.chain.1 : Int)) ∧ V.cell? ⟨w.heap.size + 1, 4, none⟩ = some (.int .u64 (x.chain.2.1 : Int)) ∧ V.cell? ⟨w.heap.size + 1, 5, none⟩ = some (.int .u16 (x.chain.2.2 : Int)) ∧ V.cell? ⟨w.heap.size + 1, 6, none⟩ = some (.int .u32 (x.child.1 : Int)) ∧ V.cell? ⟨w.heap.size + 1, 7, none⟩ = some (.int .u64 (x.child.2.1 : Int)) ∧ V.cell? ⟨w.heap.size + 1, 8, none⟩ = some (.int .u16 (x.child.2.2 : Int)) ∧ Below W.heap.size W V) wb := fun wa wb h hb => TR.out wb (h.2.2.2.2.2.2.2.2.2.2.2.2.trans (hb.mono (by have := h.2.2.2.2.2.2.2.2.2.2.2.2.size; omega)))
      have hr1 : ∀ V : World, Below W.heap.size W V → _ := fun V hb => copynode_any k l A n c es V (N0.out.below hb).rd (by have := HN3.out; omega) HO.out.1.2
      have hr3 : ∀ V : World, Below W.heap.size W V → Calls Try.prog 26 #[EnV A1 n1 c1 A2 n2 c2 x.len x.chain x.child] V fun e w' => ∃ B1 d1 B2 d2, e = .returned (EnV B1 n1 d1 B2 n2 d2 x.len x.chain x.child) ∧ EC w' V.heap.size (enC B1 n1 d1 B2 n2 d2 x.len x.chain x.child) x ∧ Below V.heap.size V w' := fun V hb =>
        (copyent_any A1 n1 c1 A2 n2 c2 x.len x.chain x.child x.key x.val V (E0.out.below hb).key (E0.out.below hb).val (by have := HXL.out.1; have := HXk.out.1; omega) (by have := HXL.out.2; have := HXk.out.2; omega)).mono fun e w' ⟨B1, d1, B2, d2, he, o1, o2, hb⟩ => ⟨B1, d1, B2, d2, he, ⟨B1, n1, d1, B2, n2, d2, rfl, o1, o2⟩, hb⟩
      have s3 := B0.out.size
      refine stepG3 1 4 5 (by kernel_rfl) ?_ ?_ ?_
      · refine StepOf.mk 1 (by simp only [List.getElem?_toArray, List.getElem?_cons_succ, List.getElem?_cons_zero]; rfl) (fun K hK => ?_)
        go_simp
        refine (hr1 _ (hHeld).2.2.2.2.2.2.2.2.2.2.2.2).mono ?_
        rintro e ws1 ⟨A9, c9, rfl, fx1, hbs1⟩
        have szs1 := hbs1.size
        refine hK.out _ _ ?tu1 (fun hs1 => ?_)
        case tu1 => exact keepS _ _ hHeld hbs1
        clear hK K
        refine stepG3 3 4 5 (by kernel_rfl) ?_ ?_ ?_
        · refine StepOf.mk 3 (by simp only [List.getElem?_toArray, List.getElem?_cons_succ, List.getElem?_cons_zero]; rfl) (fun K hK => ?_)
          go_simp
          refine (hr3 _ (hs1).2.2.2.2.2.2.2.2.2.2.2.2).mono ?_
          rintro e ws2 ⟨B1, f1, B2, f2, rfl, fx2, hbs2⟩
          have szs2 := hbs2.size
          refine hK.out _ _ ?tu2 (fun hs2 => ?_)
          case tu2 => exact keepS _ _ hs1 hbs2
          clear hK K
          have fy1_2 := fx1.below hbs2
          refine stepG2 4 5 (by kernel_rfl) ?_ ?_
          · refine StepOf.mk 4 (by simp only [List.getElem?_toArray, List.getElem?_cons_succ, List.getElem?_cons_zero]; rfl) (fun K hK => ?_)
            go_simp
            obtain ⟨ws3, hw3⟩ : ∃ wx : World, wx = ws2.alloc (.cells [Value.int .u8 0, .int .u8 0, .slice none 0 0].toArray 24) := ⟨_, rfl⟩
            rw [← hw3]
            have hbs3 : Below ws2.heap.size ws2 ws3 := by rw [hw3]; exact below_new _ _
            have nbs3 : Blk ws3 ws2.heap.size 24 [Value.int .u8 0, .int .u8 0, .slice none 0 0].toArray := by rw [hw3]; exact Blk.new _ _ _
            have szs3 : ws2.heap.size < ws3.heap.size := by rw [hw3]; simp
            clear hw3
            have ges3 : W.heap.size ≤ ws2.heap.size := (hs2).2.2.2.2.2.2.2.2.2.2.2.2.size
            refine hK.out _ _ ?tu3 (fun hs3 => ?_)
            case tu3 => exact keepS _ _ hs2 hbs3
            clear hK K
            have fy1_3 := fy1_2.below hbs3
            have fy3_3 := fx2.below hbs3
            refine stepG 5 (by kernel_rfl) (by simp only [List.getElem?_toArray, List.getElem?_cons_succ, List.getElem?_cons_zero]; rfl) (fun K hK => ?_)
            go_simp
            obtain ⟨ws4, hw4⟩ : ∃ wx : World, wx = ws3.alloc (.cells [Value.slice none 0 0, .slice none 0 0, .int .i64 0, .int .u32 0, .int .u64 0, .int .u16 0, .int .u32 0, .int .u64 0, .int .u16 0].toArray 46) := ⟨_, rfl⟩
            rw [← hw4]
            have hbs4 : Below ws3.heap.size ws3 ws4 := by rw [hw4]; exact below_new _ _
            have nbs4 : Blk ws4 ws3.heap.size 46 [Value.slice none 0 0, .slice none 0 0, .int .i64 0, .int .u32 0, .int .u64 0, .int .u16 0, .int .u32 0, .int .u64 0, .int .u16 0].toArray := by rw [hw4]; exact Blk.new _ _ _
            have szs4 : ws3.heap.size < ws4.heap.size := by rw [hw4]; simp
            clear hw4
            have ges4 : W.heap.size ≤ ws3.heap.size := (hs3).2.2.2.2.2.2.2.2.2.2.2.2.size
            refine hK.out _ _ ?tu4 (fun hs4 => ?_)
            case tu4 => exact keepS _ _ hs3 hbs4
            clear hK K
            have nb4_4 := nbs3.below hbs4 nbs3.lt
            have fy1_4 := fy1_3.below hbs4
            have fy3_4 := fy3_3.below hbs4
            have hSB := (hs4).2.2.2.2.2.2.2.2.2.2.2.2
            have hz4 := nb4_4
            have hz5 := nbs4
            have hO := fy1_4
            have hEC := fy3_4
            have hs5 := hSB.size
            have hne : ∀ a, A9 = some a → a.block ≠ ws3.heap.size := fun a ha => by have := (fy1_3).lt a ha; omega
            clear hHeld
            refine stepG 6 (by kernel_rfl) (by simp only [List.getElem?_toArray, List.getElem?_cons_succ, List.getElem?_cons_zero]; rfl) (fun K hK => ?_)
            refine step_store_blk rfl 24 (.tmp 7) (.tmp 22) rfl rfl (cs := [.int .u8 (k : Int), .int .u8 (l : Int), .slice A9 n c9]) rfl hz4 rfl infoNd (nd_one _ _ _ _ _) ?_
            intro wa hka hga
            refine hK.out _ _ ?ts4 (fun hHeld => ?_)
            case ts4 => ((try dsimp only); exact TR.out _ (hSB.grown hga (by omega) (by intro q hq; simp at hq; omega)))
            clear hK K
            have hz5a := hz5.keep_grown hga (by simp; omega)
            have hOa := hO.keptE hz4 (by decide) (by decide) hga
            have hECa := hEC.keptE hz4 (by decide) hga
            have hSa := hSB.grown hga (by omega) (by intro q hq; simp at hq; omega)
            have hsa := hSa.size
            clear hHeld
            refine stepG 7 (by kernel_rfl) (by simp only [List.getElem?_toArray, List.getElem?_cons_succ, List.getElem?_cons_zero]; rfl) (fun K hK => ?_)
            refine step_store_blk rfl 46 (.tmp 8) (.tmp 24) rfl rfl (cs := enC B1 n1 f1 B2 n2 f2 x.len x.chain x.child) rfl hz5a rfl infoE (enC_one _ _ _ _ _ _ _ _ _) ?_
            intro wb hkb hgb
            refine hK.out _ _ ?ts5 (fun hHeld => ?_)
            case ts5 => ((try dsimp only); exact TR.out _ (hSa.grown hgb (by omega) (by intro q hq; simp at hq; omega)))
            clear hK K
            refine doneG (by kernel_rfl) ?_ _
            go_wp2_with fail
            go_meet
            have hOb := hOa.keptX hz5a hne hgb
            have hECb := EC.own (hECa.keptE hz5a (by decide) hgb)
            exact ⟨_, _, A9, c9, B1, n1, f1, B2, n2, f2, rfl, rfl, ⟨hka.keep_grown hgb (by simp; omega), hOb.rdl HLn.out⟩, ⟨hkb, hECb.1.rd, hECb.2.rd⟩, hSa.grown hgb (by omega) (by intro q hq; simp at hq; omega)⟩
          · refine StepOf.mk 5 (by simp only [List.getElem?_toArray, List.getElem?_cons_succ, List.getElem?_cons_zero]; rfl) (fun K hK => ?_)
            go_simp
            obtain ⟨ws5, hw5⟩ : ∃ wx : World, wx = ws2.alloc (.cells [Value.slice none 0 0, .slice none 0 0, .int .i64 0, .int .u32 0, .int .u64 0, .int .u16 0, .int .u32 0, .int .u64 0, .int .u16 0].toArray 46) := ⟨_, rfl⟩
            rw [← hw5]
            have hbs5 : Below ws2.heap.size ws2 ws5 := by rw [hw5]; exact below_new _ _
            have nbs5 : Blk ws5 ws2.heap.size 46 [Value.slice none 0 0, .slice none 0 0, .int .i64 0, .int .u32 0, .int .u64 0, .int .u16 0, .int .u32 0, .int .u64 0, .int .u16 0].toArray := by rw [hw5]; exact Blk.new _ _ _
            have szs5 : ws2.heap.size < ws5.heap.size := by rw [hw5]; simp
            clear hw5
            have ges5 : W.heap.size ≤ ws2.heap.size := (hs2).2.2.2.2.2.2.2.2.2.2.2.2.size
            refine hK.out _ _ ?tu5 (fun hs5 => ?_)
            case tu5 => exact keepS _ _ hs2 hbs5
            clear hK K
            have fy1_5 := fy1_2.below hbs5
            have fy3_5 := fx2.below hbs5
            refine stepG 4 (by kernel_rfl) (by simp only [List.getElem?_toArray, List.getElem?_cons_succ, List.getElem?_cons_zero]; rfl) (fun K hK => ?_)
            go_simp
            obtain ⟨ws6, hw6⟩ : ∃ wx : World, wx = ws5.alloc (.cells [Value.int .u8 0, .int .u8 0, .slice none 0 0].toArray 24) := ⟨_, rfl⟩
            rw [← hw6]
            have hbs6 : Below ws5.heap.size ws5 ws6 := by rw [hw6]; exact below_new _ _
            have nbs6 : Blk ws6 ws5.heap.size 24 [Value.int .u8 0, .int .u8 0, .slice none 0 0].toArray := by rw [hw6]; exact Blk.new _ _ _
            have szs6 : ws5.heap.size < ws6.heap.size := by rw [hw6]; simp
            clear hw6
            have ges6 : W.heap.size ≤ ws5.heap.size := (hs5).2.2.2.2.2.2.2.2.2.2.2.2.size
            refine hK.out _ _ ?tu6 (fun hs6 => ?_)
            case tu6 => exact keepS _ _ hs5 hbs6
            clear hK K
            have nb5_6 := nbs5.below hbs6 nbs5.lt
            have fy1_6 := fy1_5.below hbs6
            have fy3_6 := fy3_5.below hbs6
            have hSB := (hs6).2.2.2.2.2.2.2.2.2.2.2.2
            have hz4 := nbs6
            have hz5 := nb5_6
            have hO := fy1_6
            have hEC := fy3_6
            have hs5 := hSB.size
            have hne : ∀ a, A9 = some a → a.block ≠ ws2.heap.size := fun a ha => by have := (fy1_2).lt a ha; omega
            clear hHeld
            refine stepG 6 (by kernel_rfl) (by simp only [List.getElem?_toArray, List.getElem?_cons_succ, List.getElem?_cons_zero]; rfl) (fun K hK => ?_)
            refine step_store_blk rfl 24 (.tmp 7) (.tmp 22) rfl rfl (cs := [.int .u8 (k : Int), .int .u8 (l : Int), .slice A9 n c9]) rfl hz4 rfl infoNd (nd_one _ _ _ _ _) ?_
            intro wa hka hga
            refine hK.out _ _ ?ts6 (fun hHeld => ?_)
            case ts6 => ((try dsimp only); exact TR.out _ (hSB.grown hga (by omega) (by intro q hq; simp at hq; omega)))
            clear hK K
            have hz5a := hz5.keep_grown hga (by simp; omega)
            have hOa := hO.keptE hz4 (by decide) (by decide) hga
            have hECa := hEC.keptE hz4 (by decide) hga
            have hSa := hSB.grown hga (by omega) (by intro q hq; simp at hq; omega)
            have hsa := hSa.size
            clear hHeld
            refine stepG 7 (by kernel_rfl) (by simp only [List.getElem?_toArray, List.getElem?_cons_succ, List.getElem?_cons_zero]; rfl) (fun K hK => ?_)
            refine step_store_blk rfl 46 (.tmp 8) (.tmp 24) rfl rfl (cs := enC B1 n1 f1 B2 n2 f2 x.len x.chain x.child) rfl hz5a rfl infoE (enC_one _ _ _ _ _ _ _ _ _) ?_
            intro wb hkb hgb
            refine hK.out _ _ ?ts7 (fun hHeld => ?_)
            case ts7 => ((try dsimp only); exact TR.out _ (hSa.grown hgb (by omega) (by intro q hq; simp at hq; omega)))
            clear hK K
            refine doneG (by kernel_rfl) ?_ _
            go_wp2_with fail
            go_meet
            have hOb := hOa.keptX hz5a hne hgb
            have hECb := EC.own (hECa.keptE hz5a (by decide) hgb)
            exact ⟨_, _, A9, c9, B1, n1, f1, B2, n2, f2, rfl, rfl, ⟨hka.keep_grown hgb (by simp; omega), hOb.rdl HLn.out⟩, ⟨hkb, hECb.1.rd, hECb.2.rd⟩, hSa.grown hgb (by omega) (by intro q hq; simp at hq; omega)⟩
        · refine StepOf.mk 4 (by simp only [List.getElem?_toArray, List.getElem?_cons_succ, List.getElem?_cons_zero]; rfl) (fun K hK => ?_)
          go_simp
          obtain ⟨ws7, hw7⟩ : ∃ wx : World, wx = ws1.alloc (.cells [Value.int .u8 0, .int .u8 0, .slice none 0 0].toArray 24) := ⟨_, rfl⟩
          rw [← hw7]
          have hbs7 : Below ws1.heap.size ws1 ws7 := by rw [hw7]; exact below_new _ _
          have nbs7 : Blk ws7 ws1.heap.size 24 [Value.int .u8 0, .int .u8 0, .slice none 0 0].toArray := by rw [hw7]; exact Blk.new _ _ _
          have szs7 : ws1.heap.size < ws7.heap.size := by rw [hw7]; simp
          clear hw7
          have ges7 : W.heap.size ≤ ws1.heap.size := (hs1).2.2.2.2.2.2.2.2.2.2.2.2.size
          refine hK.out _ _ ?tu7 (fun hs7 => ?_)
          case tu7 => exact keepS _ _ hs1 hbs7
          clear hK K
          have fy1_7 := fx1.below hbs7
          refine stepG2 3 5 (by kernel_rfl) ?_ ?_
          · refine StepOf.mk 3 (by simp only [List.getElem?_toArray, List.getElem?_cons_succ, List.getElem?_cons_zero]; rfl) (fun K hK => ?_)
            go_simp
            refine (hr3 _ (hs7).2.2.2.2.2.2.2.2.2.2.2.2).mono ?_
            rintro e ws8 ⟨B1, f1, B2, f2, rfl, fx8, hbs8⟩
            have szs8 := hbs8.size
            refine hK.out _ _ ?tu8 (fun hs8 => ?_)
            case tu8 => exact keepS _ _ hs7 hbs8
            clear hK K
            have nb4_8 := nbs7.below hbs8 nbs7.lt
            have fy1_8 := fy1_7.below hbs8
            refine stepG 5 (by kernel_rfl) (by simp only [List.getElem?_toArray, List.getElem?_cons_succ, List.getElem?_cons_zero]; rfl) (fun K hK => ?_)
            go_simp
            obtain ⟨ws9, hw9⟩ : ∃ wx : World, wx = ws8.alloc (.cells [Value.slice none 0 0, .slice none 0 0, .int .i64 0, .int .u32 0, .int .u64 0, .int .u16 0, .int .u32 0, .int .u64 0, .int .u16 0].toArray 46) := ⟨_, rfl⟩
            rw [← hw9]
            have hbs9 : Below ws8.heap.size ws8 ws9 := by rw [hw9]; exact below_new _ _
            have nbs9 : Blk ws9 ws8.heap.size 46 [Value.slice none 0 0, .slice none 0 0, .int .i64 0, .int .u32 0, .int .u64 0, .int .u16 0, .int .u32 0, .int .u64 0, .int .u16 0].toArray := by rw [hw9]; exact Blk.new _ _ _
            have szs9 : ws8.heap.size < ws9.heap.size := by rw [hw9]; simp
            clear hw9
            have ges9 : W.heap.size ≤ ws8.heap.size := (hs8).2.2.2.2.2.2.2.2.2.2.2.2.size
            refine hK.out _ _ ?tu9 (fun hs9 => ?_)
            case tu9 => exact keepS _ _ hs8 hbs9
            clear hK K
            have nb4_9 := nb4_8.below hbs9 nb4_8.lt
            have fy1_9 := fy1_8.below hbs9
            have fy3_9 := fx8.below hbs9
            have hSB := (hs9).2.2.2.2.2.2.2.2.2.2.2.2
            have hz4 := nb4_9
            have hz5 := nbs9
            have hO := fy1_9
            have hEC := fy3_9
            have hs5 := hSB.size
            have hne : ∀ a, A9 = some a → a.block ≠ ws8.heap.size := fun a ha => by have := (fy1_8).lt a ha; omega
            clear hHeld
            refine stepG 6 (by kernel_rfl) (by simp only [List.getElem?_toArray, List.getElem?_cons_succ, List.getElem?_cons_zero]; rfl) (fun K hK => ?_)
            refine step_store_blk rfl 24 (.tmp 7) (.tmp 22) rfl rfl (cs := [.int .u8 (k : Int), .int .u8 (l : Int), .slice A9 n c9]) rfl hz4 rfl infoNd (nd_one _ _ _ _ _) ?_
            intro wa hka hga
            refine hK.out _ _ ?ts8 (fun hHeld => ?_)
            case ts8 => ((try dsimp only); exact TR.out _ (hSB.grown hga (by omega) (by intro q hq; simp at hq; omega)))
            clear hK K
            have hz5a := hz5.keep_grown hga (by simp; omega)
            have hOa := hO.keptE hz4 (by decide) (by decide) hga
            have hECa := hEC.keptE hz4 (by decide) hga
            have hSa := hSB.grown hga (by omega) (by intro q hq; simp at hq; omega)
            have hsa := hSa.size
            clear hHeld
            refine stepG 7 (by kernel_rfl) (by simp only [List.getElem?_toArray, List.getElem?_cons_succ, List.getElem?_cons_zero]; rfl) (fun K hK => ?_)
            refine step_store_blk rfl 46 (.tmp 8) (.tmp 24) rfl rfl (cs := enC B1 n1 f1 B2 n2 f2 x.len x.chain x.child) rfl hz5a rfl infoE (enC_one _ _ _ _ _ _ _ _ _) ?_
            intro wb hkb hgb
            refine hK.out _ _ ?ts9 (fun hHeld => ?_)
            case ts9 => ((try dsimp only); exact TR.out _ (hSa.grown hgb (by omega) (by intro q hq; simp at hq; omega)))
            clear hK K
            refine doneG (by kernel_rfl) ?_ _
            go_wp2_with fail
            go_meet
            have hOb := hOa.keptX hz5a hne hgb
            have hECb := EC.own (hECa.keptE hz5a (by decide) hgb)
            exact ⟨_, _, A9, c9, B1, n1, f1, B2, n2, f2, rfl, rfl, ⟨hka.keep_grown hgb (by simp; omega), hOb.rdl HLn.out⟩, ⟨hkb, hECb.1.rd, hECb.2.rd⟩, hSa.grown hgb (by omega) (by intro q hq; simp at hq; omega)⟩
          · refine StepOf.mk 5 (by simp only [List.getElem?_toArray, List.getElem?_cons_succ, List.getElem?_cons_zero]; rfl) (fun K hK => ?_)
            go_simp
            obtain ⟨ws10, hw10⟩ : ∃ wx : World, wx = ws7.alloc (.cells [Value.slice none 0 0, .slice none 0 0, .int .i64 0, .int .u32 0, .int .u64 0, .int .u16 0, .int .u32 0, .int .u64 0, .int .u16 0].toArray 46) := ⟨_, rfl⟩
            rw [← hw10]
            have hbs10 : Below ws7.heap.size ws7 ws10 := by rw [hw10]; exact below_new _ _
            have nbs10 : Blk ws10 ws7.heap.size 46 [Value.slice none 0 0, .slice none 0 0, .int .i64 0, .int .u32 0, .int .u64 0, .int .u16 0, .int .u32 0, .int .u64 0, .int .u16 0].toArray := by rw [hw10]; exact Blk.new _ _ _
            have szs10 : ws7.heap.size < ws10.heap.size := by rw [hw10]; simp
            clear hw10
            have ges10 : W.heap.size ≤ ws7.heap.size := (hs7).2.2.2.2.2.2.2.2.2.2.2.2.size
            refine hK.out _ _ ?tu10 (fun hs10 => ?_)
            case tu10 => exact keepS _ _ hs7 hbs10
            clear hK K
            have nb4_10 := nbs7.below hbs10 nbs7.lt
            have fy1_10 := fy1_7.below hbs10
            refine stepG 3 (by kernel_rfl) (by simp only [List.getElem?_toArray, List.getElem?_cons_succ, List.getElem?_cons_zero]; rfl) (fun K hK => ?_)
            go_simp
            refine (hr3 _ (hs10).2.2.2.2.2.2.2.2.2.2.2.2).mono ?_
            rintro e ws11 ⟨B1, f1, B2, f2, rfl, fx11, hbs11⟩
            have szs11 := hbs11.size
            refine hK.out _ _ ?tu11 (fun hs11 => ?_)
            case tu11 => exact keepS _ _ hs10 hbs11
            clear hK K
            have nb4_11 := nb4_10.below hbs11 nb4_10.lt
            have nb5_11 := nbs10.below hbs11 nbs10.lt
            have fy1_11 := fy1_10.below hbs11
            have hSB := (hs11).2.2.2.2.2.2.2.2.2.2.2.2
            have hz4 := nb4_11
            have hz5 := nb5_11
            have hO := fy1_11
            have hEC := fx11
            have hs5 := hSB.size
            have hne : ∀ a, A9 = some a → a.block ≠ ws7.heap.size := fun a ha => by have := (fy1_7).lt a ha; omega
            clear hHeld
            refine stepG 6 (by kernel_rfl) (by simp only [List.getElem?_toArray, List.getElem?_cons_succ, List.getElem?_cons_zero]; rfl) (fun K hK => ?_)
            refine step_store_blk rfl 24 (.tmp 7) (.tmp 22) rfl rfl (cs := [.int .u8 (k : Int), .int .u8 (l : Int), .slice A9 n c9]) rfl hz4 rfl infoNd (nd_one _ _ _ _ _) ?_
            intro wa hka hga
            refine hK.out _ _ ?ts10 (fun hHeld => ?_)
            case ts10 => ((try dsimp only); exact TR.out _ (hSB.grown hga (by omega) (by intro q hq; simp at hq; omega)))
            clear hK K
            have hz5a := hz5.keep_grown hga (by simp; omega)
            have hOa := hO.keptE hz4 (by decide) (by decide) hga
            have hECa := hEC.keptE hz4 (by decide) hga
            have hSa := hSB.grown hga (by omega) (by intro q hq; simp at hq; omega)
            have hsa := hSa.size
            clear hHeld
            refine stepG 7 (by kernel_rfl) (by simp only [List.getElem?_toArray, List.getElem?_cons_succ, List.getElem?_cons_zero]; rfl) (fun K hK => ?_)
            refine step_store_blk rfl 46 (.tmp 8) (.tmp 24) rfl rfl (cs := enC B1 n1 f1 B2 n2 f2 x.len x.chain x.child) rfl hz5a rfl infoE (enC_one _ _ _ _ _ _ _ _ _) ?_
            intro wb hkb hgb
            refine hK.out _ _ ?ts11 (fun hHeld => ?_)
            case ts11 => ((try dsimp only); exact TR.out _ (hSa.grown hgb (by omega) (by intro q hq; simp at hq; omega)))
            clear hK K
            refine doneG (by kernel_rfl) ?_ _
            go_wp2_with fail
            go_meet
            have hOb := hOa.keptX hz5a hne hgb
            have hECb := EC.own (hECa.keptE hz5a (by decide) hgb)
            exact ⟨_, _, A9, c9, B1, n1, f1, B2, n2, f2, rfl, rfl, ⟨hka.keep_grown hgb (by simp; omega), hOb.rdl HLn.out⟩, ⟨hkb, hECb.1.rd, hECb.2.rd⟩, hSa.grown hgb (by omega) (by intro q hq; simp at hq; omega)⟩
        · refine StepOf.mk 5 (by simp only [List.getElem?_toArray, List.getElem?_cons_succ, List.getElem?_cons_zero]; rfl) (fun K hK => ?_)
          go_simp
          obtain ⟨ws12, hw12⟩ : ∃ wx : World, wx = ws1.alloc (.cells [Value.slice none 0 0, .slice none 0 0, .int .i64 0, .int .u32 0, .int .u64 0, .int .u16 0, .int .u32 0, .int .u64 0, .int .u16 0].toArray 46) := ⟨_, rfl⟩
          rw [← hw12]
          have hbs12 : Below ws1.heap.size ws1 ws12 := by rw [hw12]; exact below_new _ _
          have nbs12 : Blk ws12 ws1.heap.size 46 [Value.slice none 0 0, .slice none 0 0, .int .i64 0, .int .u32 0, .int .u64 0, .int .u16 0, .int .u32 0, .int .u64 0, .int .u16 0].toArray := by rw [hw12]; exact Blk.new _ _ _
          have szs12 : ws1.heap.size < ws12.heap.size := by rw [hw12]; simp
          clear hw12
          have ges12 : W.heap.size ≤ ws1.heap.size := (hs1).2.2.2.2.2.2.2.2.2.2.2.2.size
          refine hK.out _ _ ?tu12 (fun hs12 => ?_)
          case tu12 => exact keepS _ _ hs1 hbs12
          clear hK K
          have fy1_12 := fx1.below hbs12
          refine stepG2 3 4 (by kernel_rfl) ?_ ?_
          · refine StepOf.mk 3 (by simp only [List.getElem?_toArray, List.getElem?_cons_succ, List.getElem?_cons_zero]; rfl) (fun K hK => ?_)
            go_simp
            refine (hr3 _ (hs12).2.2.2.2.2.2.2.2.2.2.2.2).mono ?_
            rintro e ws13 ⟨B1, f1, B2, f2, rfl, fx13, hbs13⟩
            have szs13 := hbs13.size
            refine hK.out _ _ ?tu13 (fun hs13 => ?_)
            case tu13 => exact keepS _ _ hs12 hbs13
            clear hK K
            have nb5_13 := nbs12.below hbs13 nbs12.lt
            have fy1_13 := fy1_12.below hbs13
            refine stepG 4 (by kernel_rfl) (by simp only [List.getElem?_toArray, List.getElem?_cons_succ, List.getElem?_cons_zero]; rfl) (fun K hK => ?_)
            go_simp
            obtain ⟨ws14, hw14⟩ : ∃ wx : World, wx = ws13.alloc (.cells [Value.int .u8 0, .int .u8 0, .slice none 0 0].toArray 24) := ⟨_, rfl⟩
            rw [← hw14]
            have hbs14 : Below ws13.heap.size ws13 ws14 := by rw [hw14]; exact below_new _ _
            have nbs14 : Blk ws14 ws13.heap.size 24 [Value.int .u8 0, .int .u8 0, .slice none 0 0].toArray := by rw [hw14]; exact Blk.new _ _ _
            have szs14 : ws13.heap.size < ws14.heap.size := by rw [hw14]; simp
            clear hw14
            have ges14 : W.heap.size ≤ ws13.heap.size := (hs13).2.2.2.2.2.2.2.2.2.2.2.2.size
            refine hK.out _ _ ?tu14 (fun hs14 => ?_)
            case tu14 => exact keepS _ _ hs13 hbs14
            clear hK K
            have nb5_14 := nb5_13.below hbs14 nb5_13.lt
            have fy1_14 := fy1_13.below hbs14
            have fy3_14 := fx13.below hbs14
            have hSB := (hs14).2.2.2.2.2.2.2.2.2.2.2.2
            have hz4 := nbs14
            have hz5 := nb5_14
            have hO := fy1_14
            have hEC := fy3_14
            have hs5 := hSB.size
            have hne : ∀ a, A9 = some a → a.block ≠ ws1.heap.size := fun a ha => by have := (fx1).lt a ha; omega
            clear hHeld
            refine stepG 6 (by kernel_rfl) (by simp only [List.getElem?_toArray, List.getElem?_cons_succ, List.getElem?_cons_zero]; rfl) (fun K hK => ?_)
            refine step_store_blk rfl 24 (.tmp 7) (.tmp 22) rfl rfl (cs := [.int .u8 (k : Int), .int .u8 (l : Int), .slice A9 n c9]) rfl hz4 rfl infoNd (nd_one _ _ _ _ _) ?_
            intro wa hka hga
            refine hK.out _ _ ?ts12 (fun hHeld => ?_)
            case ts12 => ((try dsimp only); exact TR.out _ (hSB.grown hga (by omega) (by intro q hq; simp at hq; omega)))
            clear hK K
            have hz5a := hz5.keep_grown hga (by simp; omega)
            have hOa := hO.keptE hz4 (by decide) (by decide) hga
            have hECa := hEC.keptE hz4 (by decide) hga
            have hSa := hSB.grown hga (by omega) (by intro q hq; simp at hq; omega)
            have hsa := hSa.size
            clear hHeld
            refine stepG 7 (by kernel_rfl) (by simp only [List.getElem?_toArray, List.getElem?_cons_succ, List.getElem?_cons_zero]; rfl) (fun K hK => ?_)
            refine step_store_blk rfl 46 (.tmp 8) (.tmp 24) rfl rfl (cs := enC B1 n1 f1 B2 n2 f2 x.len x.chain x.child) rfl hz5a rfl infoE (enC_one _ _ _ _ _ _ _ _ _) ?_
            intro wb hkb hgb
            refine hK.out _ _ ?ts13 (fun hHeld => ?_)
            case ts13 => ((try dsimp only); exact TR.out _ (hSa.grown hgb (by omega) (by intro q hq; simp at hq; omega)))
            clear hK K
            refine doneG (by kernel_rfl) ?_ _
            go_wp2_with fail
            go_meet
            have hOb := hOa.keptX hz5a hne hgb
            have hECb := EC.own (hECa.keptE hz5a (by decide) hgb)
            exact ⟨_, _, A9, c9, B1, n1, f1, B2, n2, f2, rfl, rfl, ⟨hka.keep_grown hgb (by simp; omega), hOb.rdl HLn.out⟩, ⟨hkb, hECb.1.rd, hECb.2.rd⟩, hSa.grown hgb (by omega) (by intro q hq; simp at hq; omega)⟩
          · refine StepOf.mk 4 (by simp only [List.getElem?_toArray, List.getElem?_cons_succ, List.getElem?_cons_zero]; rfl) (fun K hK => ?_)
            go_simp
            obtain ⟨ws15, hw15⟩ : ∃ wx : World, wx = ws12.alloc (.cells [Value.int .u8 0, .int .u8 0, .slice none 0 0].toArray 24) := ⟨_, rfl⟩
            rw [← hw15]
            have hbs15 : Below ws12.heap.size ws12 ws15 := by rw [hw15]; exact below_new _ _
            have nbs15 : Blk ws15 ws12.heap.size 24 [Value.int .u8 0, .int .u8 0, .slice none 0 0].toArray := by rw [hw15]; exact Blk.new _ _ _
            have szs15 : ws12.heap.size < ws15.heap.size := by rw [hw15]; simp
            clear hw15
            have ges15 : W.heap.size ≤ ws12.heap.size := (hs12).2.2.2.2.2.2.2.2.2.2.2.2.size
            refine hK.out _ _ ?tu15 (fun hs15 => ?_)
            case tu15 => exact keepS _ _ hs12 hbs15
            clear hK K
            have nb5_15 := nbs12.below hbs15 nbs12.lt
            have fy1_15 := fy1_12.below hbs15
            refine stepG 3 (by kernel_rfl) (by simp only [List.getElem?_toArray, List.getElem?_cons_succ, List.getElem?_cons_zero]; rfl) (fun K hK => ?_)
            go_simp
            refine (hr3 _ (hs15).2.2.2.2.2.2.2.2.2.2.2.2).mono ?_
            rintro e ws16 ⟨B1, f1, B2, f2, rfl, fx16, hbs16⟩
            have szs16 := hbs16.size
            refine hK.out _ _ ?tu16 (fun hs16 => ?_)
            case tu16 => exact keepS _ _ hs15 hbs16
            clear hK K
            have nb5_16 := nb5_15.below hbs16 nb5_15.lt
            have nb4_16 := nbs15.below hbs16 nbs15.lt
            have fy1_16 := fy1_15.below hbs16
            have hSB := (hs16).2.2.2.2.2.2.2.2.2.2.2.2
            have hz4 := nb4_16
            have hz5 := nb5_16
            have hO := fy1_16
            have hEC := fx16
            have hs5 := hSB.size
            have hne : ∀ a, A9 = some a → a.block ≠ ws1.heap.size := fun a ha => by have := (fx1).lt a ha; omega
            clear hHeld
            refine stepG 6 (by kernel_rfl) (by simp only [List.getElem?_toArray, List.getElem?_cons_succ, List.getElem?_cons_zero]; rfl) (fun K hK => ?_)
            refine step_store_blk rfl 24 (.tmp 7) (.tmp 22) rfl rfl (cs := [.int .u8 (k : Int), .int .u8 (l : Int), .slice A9 n c9]) rfl hz4 rfl infoNd (nd_one _ _ _ _ _) ?_
            intro wa hka hga
            refine hK.out _ _ ?ts14 (fun hHeld => ?_)
            case ts14 => ((try dsimp only); exact TR.out _ (hSB.grown hga (by omega) (by intro q hq; simp at hq; omega)))
            clear hK K
            have hz5a := hz5.keep_grown hga (by simp; omega)
            have hOa := hO.keptE hz4 (by decide) (by decide) hga
            have hECa := hEC.keptE hz4 (by decide) hga
            have hSa := hSB.grown hga (by omega) (by intro q hq; simp at hq; omega)
            have hsa := hSa.size
            clear hHeld
            refine stepG 7 (by kernel_rfl) (by simp only [List.getElem?_toArray, List.getElem?_cons_succ, List.getElem?_cons_zero]; rfl) (fun K hK => ?_)
            refine step_store_blk rfl 46 (.tmp 8) (.tmp 24) rfl rfl (cs := enC B1 n1 f1 B2 n2 f2 x.len x.chain x.child) rfl hz5a rfl infoE (enC_one _ _ _ _ _ _ _ _ _) ?_
            intro wb hkb hgb
            refine hK.out _ _ ?ts15 (fun hHeld => ?_)
            case ts15 => ((try dsimp only); exact TR.out _ (hSa.grown hgb (by omega) (by intro q hq; simp at hq; omega)))
            clear hK K
            refine doneG (by kernel_rfl) ?_ _
            go_wp2_with fail
            go_meet
            have hOb := hOa.keptX hz5a hne hgb
            have hECb := EC.own (hECa.keptE hz5a (by decide) hgb)
            exact ⟨_, _, A9, c9, B1, n1, f1, B2, n2, f2, rfl, rfl, ⟨hka.keep_grown hgb (by simp; omega), hOb.rdl HLn.out⟩, ⟨hkb, hECb.1.rd, hECb.2.rd⟩, hSa.grown hgb (by omega) (by intro q hq; simp at hq; omega)⟩
      · refine StepOf.mk 4 (by simp only [List.getElem?_toArray, List.getElem?_cons_succ, List.getElem?_cons_zero]; rfl) (fun K hK => ?_)
        go_simp
        obtain ⟨ws17, hw17⟩ : ∃ wx : World, wx = V0.alloc (.cells [Value.int .u8 0, .int .u8 0, .slice none 0 0].toArray 24) := ⟨_, rfl⟩
        rw [← hw17]
        have hbs17 : Below V0.heap.size V0 ws17 := by rw [hw17]; exact below_new _ _
        have nbs17 : Blk ws17 V0.heap.size 24 [Value.int .u8 0, .int .u8 0, .slice none 0 0].toArray := by rw [hw17]; exact Blk.new _ _ _
        have szs17 : V0.heap.size < ws17.heap.size := by rw [hw17]; simp
        clear hw17
        have ges17 : W.heap.size ≤ V0.heap.size := (hHeld).2.2.2.2.2.2.2.2.2.2.2.2.size
        refine hK.out _ _ ?tu17 (fun hs17 => ?_)
        case tu17 => exact keepS _ _ hHeld hbs17
        clear hK K
        refine stepG2 1 5 (by kernel_rfl) ?_ ?_
        · refine StepOf.mk 1 (by simp only [List.getElem?_toArray, List.getElem?_cons_succ, List.getElem?_cons_zero]; rfl) (fun K hK => ?_)
          go_simp
          refine (hr1 _ (hs17).2.2.2.2.2.2.2.2.2.2.2.2).mono ?_
          rintro e ws18 ⟨A9, c9, rfl, fx18, hbs18⟩
          have szs18 := hbs18.size
          refine hK.out _ _ ?tu18 (fun hs18 => ?_)
          case tu18 => exact keepS _ _ hs17 hbs18
          clear hK K
          have nb4_18 := nbs17.below hbs18 nbs17.lt
          refine stepG2 3 5 (by kernel_rfl) ?_ ?_
          · refine StepOf.mk 3 (by simp only [List.getElem?_toArray, List.getElem?_cons_succ, List.getElem?_cons_zero]; rfl) (fun K hK => ?_)
            go_simp
            refine (hr3 _ (hs18).2.2.2.2.2.2.2.2.2.2.2.2).mono ?_
            rintro e ws19 ⟨B1, f1, B2, f2, rfl, fx19, hbs19⟩
            have szs19 := hbs19.size
            refine hK.out _ _ ?tu19 (fun hs19 => ?_)
            case tu19 => exact keepS _ _ hs18 hbs19
            clear hK K
            have nb4_19 := nb4_18.below hbs19 nb4_18.lt
            have fy1_19 := fx18.below hbs19
            refine stepG 5 (by kernel_rfl) (by simp only [List.getElem?_toArray, List.getElem?_cons_succ, List.getElem?_cons_zero]; rfl) (fun K hK => ?_)
            go_simp
            obtain ⟨ws20, hw20⟩ : ∃ wx : World, wx = ws19.alloc (.cells [Value.slice none 0 0, .slice none 0 0, .int .i64 0, .int .u32 0, .int .u64 0, .int .u16 0, .int .u32 0, .int .u64 0, .int .u16 0].toArray 46) := ⟨_, rfl⟩
            rw [← hw20]
            have hbs20 : Below ws19.heap.size ws19 ws20 := by rw [hw20]; exact below_new _ _
            have nbs20 : Blk ws20 ws19.heap.size 46 [Value.slice none 0 0, .slice none 0 0, .int .i64 0, .int .u32 0, .int .u64 0, .int .u16 0, .int .u32 0, .int .u64 0, .int .u16 0].toArray := by rw [hw20]; exact Blk.new _ _ _
            have szs20 : ws19.heap.size < ws20.heap.size := by rw [hw20]; simp
            clear hw20
            have ges20 : W.heap.size ≤ ws19.heap.size := (hs19).2.2.2.2.2.2.2.2.2.2.2.2.size
            refine hK.out _ _ ?tu20 (fun hs20 => ?_)
            case tu20 => exact keepS _ _ hs19 hbs20
            clear hK K
            have nb4_20 := nb4_19.below hbs20 nb4_19.lt
            have fy1_20 := fy1_19.below hbs20
            have fy3_20 := fx19.below hbs20
            have hSB := (hs20).2.2.2.2.2.2.2.2.2.2.2.2
            have hz4 := nb4_20
            have hz5 := nbs20
            have hO := fy1_20
            have hEC := fy3_20
            have hs5 := hSB.size
            have hne : ∀ a, A9 = some a → a.block ≠ ws19.heap.size := fun a ha => by have := (fy1_19).lt a ha; omega
            clear hHeld
            refine stepG 6 (by kernel_rfl) (by simp only [List.getElem?_toArray, List.getElem?_cons_succ, List.getElem?_cons_zero]; rfl) (fun K hK => ?_)
            refine step_store_blk rfl 24 (.tmp 7) (.tmp 22) rfl rfl (cs := [.int .u8 (k : Int), .int .u8 (l : Int), .slice A9 n c9]) rfl hz4 rfl infoNd (nd_one _ _ _ _ _) ?_
            intro wa hka hga
            refine hK.out _ _ ?ts16 (fun hHeld => ?_)
            case ts16 => ((try dsimp only); exact TR.out _ (hSB.grown hga (by omega) (by intro q hq; simp at hq; omega)))
            clear hK K
            have hz5a := hz5.keep_grown hga (by simp; omega)
            have hOa := hO.keptE hz4 (by decide) (by decide) hga
            have hECa := hEC.keptE hz4 (by decide) hga
            have hSa := hSB.grown hga (by omega) (by intro q hq; simp at hq; omega)
            have hsa := hSa.size
            clear hHeld
            refine stepG 7 (by kernel_rfl) (by simp only [List.getElem?_toArray, List.getElem?_cons_succ, List.getElem?_cons_zero]; rfl) (fun K hK => ?_)
            refine step_store_blk rfl 46 (.tmp 8) (.tmp 24) rfl rfl (cs := enC B1 n1 f1 B2 n2 f2 x.len x.chain x.child) rfl hz5a rfl infoE (enC_one _ _ _ _ _ _ _ _ _) ?_
            intro wb hkb hgb
            refine hK.out _ _ ?ts17 (fun hHeld => ?_)
            case ts17 => ((try dsimp only); exact TR.out _ (hSa.grown hgb (by omega) (by intro q hq; simp at hq; omega)))
            clear hK K
            refine doneG (by kernel_rfl) ?_ _
            go_wp2_with fail
            go_meet
            have hOb := hOa.keptX hz5a hne hgb
            have hECb := EC.own (hECa.keptE hz5a (by decide) hgb)
            exact ⟨_, _, A9, c9, B1, n1, f1, B2, n2, f2, rfl, rfl, ⟨hka.keep_grown hgb (by simp; omega), hOb.rdl HLn.out⟩, ⟨hkb, hECb.1.rd, hECb.2.rd⟩, hSa.grown hgb (by omega) (by intro q hq; simp at hq; omega)⟩
          · refine StepOf.mk 5 (by simp only [List.getElem?_toArray, List.getElem?_cons_succ, List.getElem?_cons_zero]; rfl) (fun K hK => ?_)
            go_simp
            obtain ⟨ws21, hw21⟩ : ∃ wx : World, wx = ws18.alloc (.cells [Value.slice none 0 0, .slice none 0 0, .int .i64 0, .int .u32 0, .int .u64 0, .int .u16 0, .int .u32 0, .int .u64 0, .int .u16 0].toArray 46) := ⟨_, rfl⟩
            rw [← hw21]
            have hbs21 : Below ws18.heap.size ws18 ws21 := by rw [hw21]; exact below_new _ _
            have nbs21 : Blk ws21 ws18.heap.size 46 [Value.slice none 0 0, .slice none 0 0, .int .i64 0, .int .u32 0, .int .u64 0, .int .u16 0, .int .u32 0, .int .u64 0, .int .u16 0].toArray := by rw [hw21]; exact Blk.new _ _ _
            have szs21 : ws18.heap.size < ws21.heap.size := by rw [hw21]; simp
            clear hw21
            have ges21 : W.heap.size ≤ ws18.heap.size := (hs18).2.2.2.2.2.2.2.2.2.2.2.2.size
            refine hK.out _ _ ?tu21 (fun hs21 => ?_)
            case tu21 => exact keepS _ _ hs18 hbs21
            clear hK K
            have nb4_21 := nb4_18.below hbs21 nb4_18.lt
            have fy1_21 := fx18.below hbs21
            refine stepG 3 (by kernel_rfl) (by simp only [List.getElem?_toArray, List.getElem?_cons_succ, List.getElem?_cons_zero]; rfl) (fun K hK => ?_)
            go_simp
            refine (hr3 _ (hs21).2.2.2.2.2.2.2.2.2.2.2.2).mono ?_
            rintro e ws22 ⟨B1, f1, B2, f2, rfl, fx22, hbs22⟩
            have szs22 := hbs22.size
            refine hK.out _ _ ?tu22 (fun hs22 => ?_)
            case tu22 => exact keepS _ _ hs21 hbs22
            clear hK K
            have nb4_22 := nb4_21.below hbs22 nb4_21.lt
            have nb5_22 := nbs21.below hbs22 nbs21.lt
            have fy1_22 := fy1_21.below hbs22
            have hSB := (hs22).2.2.2.2.2.2.2.2.2.2.2.2
            have hz4 := nb4_22
            have hz5 := nb5_22
            have hO := fy1_22
            have hEC := fx22
            have hs5 := hSB.size
            have hne : ∀ a, A9 = some a → a.block ≠ ws18.heap.size := fun a ha => by have := (fx18).lt a ha; omega
            clear hHeld
            refine stepG 6 (by kernel_rfl) (by simp only [List.getElem?_toArray, List.getElem?_cons_succ, List.getElem?_cons_zero]; rfl) (fun K hK => ?_)
            refine step_store_blk rfl 24 (.tmp 7) (.tmp 22) rfl rfl (cs := [.int .u8 (k : Int), .int .u8 (l : Int), .slice A9 n c9]) rfl hz4 rfl infoNd (nd_one _ _ _ _ _) ?_
            intro wa hka hga
            refine hK.out _ _ ?ts18 (fun hHeld => ?_)
            case ts18 => ((try dsimp only); exact TR.out _ (hSB.grown hga (by omega) (by intro q hq; simp at hq; omega)))
            clear hK K
            have hz5a := hz5.keep_grown hga (by simp; omega)
            have hOa := hO.keptE hz4 (by decide) (by decide) hga
            have hECa := hEC.keptE hz4 (by decide) hga
            have hSa := hSB.grown hga (by omega) (by intro q hq; simp at hq; omega)
            have hsa := hSa.size
            clear hHeld
            refine stepG 7 (by kernel_rfl) (by simp only [List.getElem?_toArray, List.getElem?_cons_succ, List.getElem?_cons_zero]; rfl) (fun K hK => ?_)
            refine step_store_blk rfl 46 (.tmp 8) (.tmp 24) rfl rfl (cs := enC B1 n1 f1 B2 n2 f2 x.len x.chain x.child) rfl hz5a rfl infoE (enC_one _ _ _ _ _ _ _ _ _) ?_
            intro wb hkb hgb
            refine hK.out _ _ ?ts19 (fun hHeld => ?_)
            case ts19 => ((try dsimp only); exact TR.out _ (hSa.grown hgb (by omega) (by intro q hq; simp at hq; omega)))
            clear hK K
            refine doneG (by kernel_rfl) ?_ _
            go_wp2_with fail
            go_meet
            have hOb := hOa.keptX hz5a hne hgb
            have hECb := EC.own (hECa.keptE hz5a (by decide) hgb)
            exact ⟨_, _, A9, c9, B1, n1, f1, B2, n2, f2, rfl, rfl, ⟨hka.keep_grown hgb (by simp; omega), hOb.rdl HLn.out⟩, ⟨hkb, hECb.1.rd, hECb.2.rd⟩, hSa.grown hgb (by omega) (by intro q hq; simp at hq; omega)⟩
        · refine StepOf.mk 5 (by simp only [List.getElem?_toArray, List.getElem?_cons_succ, List.getElem?_cons_zero]; rfl) (fun K hK => ?_)
          go_simp
          obtain ⟨ws23, hw23⟩ : ∃ wx : World, wx = ws17.alloc (.cells [Value.slice none 0 0, .slice none 0 0, .int .i64 0, .int .u32 0, .int .u64 0, .int .u16 0, .int .u32 0, .int .u64 0, .int .u16 0].toArray 46) := ⟨_, rfl⟩
          rw [← hw23]
          have hbs23 : Below ws17.heap.size ws17 ws23 := by rw [hw23]; exact below_new _ _
          have nbs23 : Blk ws23 ws17.heap.size 46 [Value.slice none 0 0, .slice none 0 0, .int .i64 0, .int .u32 0, .int .u64 0, .int .u16 0, .int .u32 0, .int .u64 0, .int .u16 0].toArray := by rw [hw23]; exact Blk.new _ _ _
          have szs23 : ws17.heap.size < ws23.heap.size := by rw [hw23]; simp
          clear hw23
          have ges23 : W.heap.size ≤ ws17.heap.size := (hs17).2.2.2.2.2.2.2.2.2.2.2.2.size
          refine hK.out _ _ ?tu23 (fun hs23 => ?_)
          case tu23 => exact keepS _ _ hs17 hbs23
          clear hK K
          have nb4_23 := nbs17.below hbs23 nbs17.lt
          refine stepG 1 (by kernel_rfl) (by simp only [List.getElem?_toArray, List.getElem?_cons_succ, List.getElem?_cons_zero]; rfl) (fun K hK => ?_)
          go_simp
          refine (hr1 _ (hs23).2.2.2.2.2.2.2.2.2.2.2.2).mono ?_
          rintro e ws24 ⟨A9, c9, rfl, fx24, hbs24⟩
          have szs24 := hbs24.size
          refine hK.out _ _ ?tu24 (fun hs24 => ?_)
          case tu24 => exact keepS _ _ hs23 hbs24
          clear hK K
          have nb4_24 := nb4_23.below hbs24 nb4_23.lt
          have nb5_24 := nbs23.below hbs24 nbs23.lt
          refine stepG 3 (by kernel_rfl) (by simp only [List.getElem?_toArray, List.getElem?_cons_succ, List.getElem?_cons_zero]; rfl) (fun K hK => ?_)
          go_simp
          refine (hr3 _ (hs24).2.2.2.2.2.2.2.2.2.2.2.2).mono ?_
          rintro e ws25 ⟨B1, f1, B2, f2, rfl, fx25, hbs25⟩
          have szs25 := hbs25.size
          refine hK.out _ _ ?tu25 (fun hs25 => ?_)
          case tu25 => exact keepS _ _ hs24 hbs25
          clear hK K
          have nb4_25 := nb4_24.below hbs25 nb4_24.lt
          have nb5_25 := nb5_24.below hbs25 nb5_24.lt
          have fy1_25 := fx24.below hbs25
          have hSB := (hs25).2.2.2.2.2.2.2.2.2.2.2.2
          have hz4 := nb4_25
          have hz5 := nb5_25
          have hO := fy1_25
          have hEC := fx25
          have hs5 := hSB.size
          have hne : ∀ a, A9 = some a → a.block ≠ ws17.heap.size := fun a ha => by have := (fy1_25).ge a ha; omega
          clear hHeld
          refine stepG 6 (by kernel_rfl) (by simp only [List.getElem?_toArray, List.getElem?_cons_succ, List.getElem?_cons_zero]; rfl) (fun K hK => ?_)
          refine step_store_blk rfl 24 (.tmp 7) (.tmp 22) rfl rfl (cs := [.int .u8 (k : Int), .int .u8 (l : Int), .slice A9 n c9]) rfl hz4 rfl infoNd (nd_one _ _ _ _ _) ?_
          intro wa hka hga
          refine hK.out _ _ ?ts20 (fun hHeld => ?_)
          case ts20 => ((try dsimp only); exact TR.out _ (hSB.grown hga (by omega) (by intro q hq; simp at hq; omega)))
          clear hK K
          have hz5a := hz5.keep_grown hga (by simp; omega)
          have hOa := hO.keptE hz4 (by decide) (by decide) hga
          have hECa := hEC.keptE hz4 (by decide) hga
          have hSa := hSB.grown hga (by omega) (by intro q hq; simp at hq; omega)
          have hsa := hSa.size
          clear hHeld
          refine stepG 7 (by kernel_rfl) (by simp only [List.getElem?_toArray, List.getElem?_cons_succ, List.getElem?_cons_zero]; rfl) (fun K hK => ?_)
          refine step_store_blk rfl 46 (.tmp 8) (.tmp 24) rfl rfl (cs := enC B1 n1 f1 B2 n2 f2 x.len x.chain x.child) rfl hz5a rfl infoE (enC_one _ _ _ _ _ _ _ _ _) ?_
          intro wb hkb hgb
          refine hK.out _ _ ?ts21 (fun hHeld => ?_)
          case ts21 => ((try dsimp only); exact TR.out _ (hSa.grown hgb (by omega) (by intro q hq; simp at hq; omega)))
          clear hK K
          refine doneG (by kernel_rfl) ?_ _
          go_wp2_with fail
          go_meet
          have hOb := hOa.keptX hz5a hne hgb
          have hECb := EC.own (hECa.keptE hz5a (by decide) hgb)
          exact ⟨_, _, A9, c9, B1, n1, f1, B2, n2, f2, rfl, rfl, ⟨hka.keep_grown hgb (by simp; omega), hOb.rdl HLn.out⟩, ⟨hkb, hECb.1.rd, hECb.2.rd⟩, hSa.grown hgb (by omega) (by intro q hq; simp at hq; omega)⟩
      · refine StepOf.mk 5 (by simp only [List.getElem?_toArray, List.getElem?_cons_succ, List.getElem?_cons_zero]; rfl) (fun K hK => ?_)
        go_simp
        obtain ⟨ws26, hw26⟩ : ∃ wx : World, wx = V0.alloc (.cells [Value.slice none 0 0, .slice none 0 0, .int .i64 0, .int .u32 0, .int .u64 0, .int .u16 0, .int .u32 0, .int .u64 0, .int .u16 0].toArray 46) := ⟨_, rfl⟩
        rw [← hw26]
        have hbs26 : Below V0.heap.size V0 ws26 := by rw [hw26]; exact below_new _ _
        have nbs26 : Blk ws26 V0.heap.size 46 [Value.slice none 0 0, .slice none 0 0, .int .i64 0, .int .u32 0, .int .u64 0, .int .u16 0, .int .u32 0, .int .u64 0, .int .u16 0].toArray := by rw [hw26]; exact Blk.new _ _ _
        have szs26 : V0.heap.size < ws26.heap.size := by rw [hw26]; simp
        clear hw26
        have ges26 : W.heap.size ≤ V0.heap.size := (hHeld).2.2.2.2.2.2.2.2.2.2.2.2.size
        refine hK.out _ _ ?tu26 (fun hs26 => ?_)
        case tu26 => exact keepS _ _ hHeld hbs26
        clear hK K
        refine stepG2 1 4 (by kernel_rfl) ?_ ?_
        · refine StepOf.mk 1 (by simp only [List.getElem?_toArray, List.getElem?_cons_succ, List.getElem?_cons_zero]; rfl) (fun K hK => ?_)
          go_simp
          refine (hr1 _ (hs26).2.2.2.2.2.2.2.2.2.2.2.2).mono ?_
          rintro e ws27 ⟨A9, c9, rfl, fx27, hbs27⟩
          have szs27 := hbs27.size
          refine hK.out _ _ ?tu27 (fun hs27 => ?_)
          case tu27 => exact keepS _ _ hs26 hbs27
          clear hK K
          have nb5_27 := nbs26.below hbs27 nbs26.lt
          refine stepG2 3 4 (by kernel_rfl) ?_ ?_
          · refine StepOf.mk 3 (by simp only [List.getElem?_toArray, List.getElem?_cons_succ, List.getElem?_cons_zero]; rfl) (fun K hK => ?_)
            go_simp
            refine (hr3 _ (hs27).2.2.2.2.2.2.2.2.2.2.2.2).mono ?_
            rintro e ws28 ⟨B1, f1, B2, f2, rfl, fx28, hbs28⟩
            have szs28 := hbs28.size
            refine hK.out _ _ ?tu28 (fun hs28 => ?_)
            case tu28 => exact keepS _ _ hs27 hbs28
            clear hK K
            have nb5_28 := nb5_27.below hbs28 nb5_27.lt
            have fy1_28 := fx27.below hbs28
            refine stepG 4 (by kernel_rfl) (by simp only [List.getElem?_toArray, List.getElem?_cons_succ, List.getElem?_cons_zero]; rfl) (fun K hK => ?_)
            go_simp
            obtain ⟨ws29, hw29⟩ : ∃ wx : World, wx = ws28.alloc (.cells [Value.int .u8 0, .int .u8 0, .slice none 0 0].toArray 24) := ⟨_, rfl⟩
            rw [← hw29]
            have hbs29 : Below ws28.heap.size ws28 ws29 := by rw [hw29]; exact below_new _ _
            have nbs29 : Blk ws29 ws28.heap.size 24 [Value.int .u8 0, .int .u8 0, .slice none 0 0].toArray := by rw [hw29]; exact Blk.new _ _ _
            have szs29 : ws28.heap.size < ws29.heap.size := by rw [hw29]; simp
            clear hw29
            have ges29 : W.heap.size ≤ ws28.heap.size := (hs28).2.2.2.2.2.2.2.2.2.2.2.2.size
            refine hK.out _ _ ?tu29 (fun hs29 => ?_)
            case tu29 => exact keepS _ _ hs28 hbs29
            clear hK K
            have nb5_29 := nb5_28.below hbs29 nb5_28.lt
            have fy1_29 := fy1_28.below hbs29
            have fy3_29 := fx28.below hbs29
            have hSB := (hs29).2.2.2.2.2.2.2.2.2.2.2.2
            have hz4 := nbs29
            have hz5 := nb5_29
            have hO := fy1_29
            have hEC := fy3_29
            have hs5 := hSB.size
            have hne : ∀ a, A9 = some a → a.block ≠ V0.heap.size := fun a ha => by have := (fy1_29).ge a ha; omega
            clear hHeld
            refine stepG 6 (by kernel_rfl) (by simp only [List.getElem?_toArray, List.getElem?_cons_succ, List.getElem?_cons_zero]; rfl) (fun K hK => ?_)
            refine step_store_blk rfl 24 (.tmp 7) (.tmp 22) rfl rfl (cs := [.int .u8 (k : Int), .int .u8 (l : Int), .slice A9 n c9]) rfl hz4 rfl infoNd (nd_one _ _ _ _ _) ?_
            intro wa hka hga
            refine hK.out _ _ ?ts22 (fun hHeld => ?_)
            case ts22 => ((try dsimp only); exact TR.out _ (hSB.grown hga (by omega) (by intro q hq; simp at hq; omega)))
            clear hK K
            have hz5a := hz5.keep_grown hga (by simp; omega)
            have hOa := hO.keptE hz4 (by decide) (by decide) hga
            have hECa := hEC.keptE hz4 (by decide) hga
            have hSa := hSB.grown hga (by omega) (by intro q hq; simp at hq; omega)
            have hsa := hSa.size
            clear hHeld
            refine stepG 7 (by kernel_rfl) (by simp only [List.getElem?_toArray, List.getElem?_cons_succ, List.getElem?_cons_zero]; rfl) (fun K hK => ?_)
            refine step_store_blk rfl 46 (.tmp 8) (.tmp 24) rfl rfl (cs := enC B1 n1 f1 B2 n2 f2 x.len x.chain x.child) rfl hz5a rfl infoE (enC_one _ _ _ _ _ _ _ _ _) ?_
            intro wb hkb hgb
            refine hK.out _ _ ?ts23 (fun hHeld => ?_)
            case ts23 => ((try dsimp only); exact TR.out _ (hSa.grown hgb (by omega) (by intro q hq; simp at hq; omega)))
            clear hK K
            refine doneG (by kernel_rfl) ?_ _
            go_wp2_with fail
            go_meet
            have hOb := hOa.keptX hz5a hne hgb
            have hECb := EC.own (hECa.keptE hz5a (by decide) hgb)
            exact ⟨_, _, A9, c9, B1, n1, f1, B2, n2, f2, rfl, rfl, ⟨hka.keep_grown hgb (by simp; omega), hOb.rdl HLn.out⟩, ⟨hkb, hECb.1.rd, hECb.2.rd⟩, hSa.grown hgb (by omega) (by intro q hq; simp at hq; omega)⟩
          · refine StepOf.mk 4 (by simp only [List.getElem?_toArray, List.getElem?_cons_succ, List.getElem?_cons_zero]; rfl) (fun K hK => ?_)
            go_simp
            obtain ⟨ws30, hw30⟩ : ∃ wx : World, wx = ws27.alloc (.cells [Value.int .u8 0, .int .u8 0, .slice none 0 0].toArray 24) := ⟨_, rfl⟩
            rw [← hw30]
            have hbs30 : Below ws27.heap.size ws27 ws30 := by rw [hw30]; exact below_new _ _
            have nbs30 : Blk ws30 ws27.heap.size 24 [Value.int .u8 0, .int .u8 0, .slice none 0 0].toArray := by rw [hw30]; exact Blk.new _ _ _
            have szs30 : ws27.heap.size < ws30.heap.size := by rw [hw30]; simp
            clear hw30
            have ges30 : W.heap.size ≤ ws27.heap.size := (hs27).2.2.2.2.2.2.2.2.2.2.2.2.size
            refine hK.out _ _ ?tu30 (fun hs30 => ?_)
            case tu30 => exact keepS _ _ hs27 hbs30
            clear hK K
            have nb5_30 := nb5_27.below hbs30 nb5_27.lt
            have fy1_30 := fx27.below hbs30
            refine stepG 3 (by kernel_rfl) (by simp only [List.getElem?_toArray, List.getElem?_cons_succ, List.getElem?_cons_zero]; rfl) (fun K hK => ?_)
            go_simp
            refine (hr3 _ (hs30).2.2.2.2.2.2.2.2.2.2.2.2).mono ?_
            rintro e ws31 ⟨B1, f1, B2, f2, rfl, fx31, hbs31⟩
            have szs31 := hbs31.size
            refine hK.out _ _ ?tu31 (fun hs31 => ?_)
            case tu31 => exact keepS _ _ hs30 hbs31
            clear hK K
            have nb5_31 := nb5_30.below hbs31 nb5_30.lt
            have nb4_31 := nbs30.below hbs31 nbs30.lt
            have fy1_31 := fy1_30.below hbs31
            have hSB := (hs31).2.2.2.2.2.2.2.2.2.2.2.2
            have hz4 := nb4_31
            have hz5 := nb5_31
            have hO := fy1_31
            have hEC := fx31
            have hs5 := hSB.size
            have hne : ∀ a, A9 = some a → a.block ≠ V0.heap.size := fun a ha => by have := (fy1_31).ge a ha; omega
            clear hHeld
            refine stepG 6 (by kernel_rfl) (by simp only [List.getElem?_toArray, List.getElem?_cons_succ, List.getElem?_cons_zero]; rfl) (fun K hK => ?_)
            refine step_store_blk rfl 24 (.tmp 7) (.tmp 22) rfl rfl (cs := [.int .u8 (k : Int), .int .u8 (l : Int), .slice A9 n c9]) rfl hz4 rfl infoNd (nd_one _ _ _ _ _) ?_
            intro wa hka hga
            refine hK.out _ _ ?ts24 (fun hHeld => ?_)
            case ts24 => ((try dsimp only); exact TR.out _ (hSB.grown hga (by omega) (by intro q hq; simp at hq; omega)))
            clear hK K
            have hz5a := hz5.keep_grown hga (by simp; omega)
            have hOa := hO.keptE hz4 (by decide) (by decide) hga
            have hECa := hEC.keptE hz4 (by decide) hga
            have hSa := hSB.grown hga (by omega) (by intro q hq; simp at hq; omega)
            have hsa := hSa.size
            clear hHeld
            refine stepG 7 (by kernel_rfl) (by simp only [List.getElem?_toArray, List.getElem?_cons_succ, List.getElem?_cons_zero]; rfl) (fun K hK => ?_)
            refine step_store_blk rfl 46 (.tmp 8) (.tmp 24) rfl rfl (cs := enC B1 n1 f1 B2 n2 f2 x.len x.chain x.child) rfl hz5a rfl infoE (enC_one _ _ _ _ _ _ _ _ _) ?_
            intro wb hkb hgb
            refine hK.out _ _ ?ts25 (fun hHeld => ?_)
            case ts25 => ((try dsimp only); exact TR.out _ (hSa.grown hgb (by omega) (by intro q hq; simp at hq; omega)))
            clear hK K
            refine doneG (by kernel_rfl) ?_ _
            go_wp2_with fail
            go_meet
            have hOb := hOa.keptX hz5a hne hgb
            have hECb := EC.own (hECa.keptE hz5a (by decide) hgb)
            exact ⟨_, _, A9, c9, B1, n1, f1, B2, n2, f2, rfl, rfl, ⟨hka.keep_grown hgb (by simp; omega), hOb.rdl HLn.out⟩, ⟨hkb, hECb.1.rd, hECb.2.rd⟩, hSa.grown hgb (by omega) (by intro q hq; simp at hq; omega)⟩
        · refine StepOf.mk 4 (by simp only [List.getElem?_toArray, List.getElem?_cons_succ, List.getElem?_cons_zero]; rfl) (fun K hK => ?_)
          go_simp
          obtain ⟨ws32, hw32⟩ : ∃ wx : World, wx = ws26.alloc (.cells [Value.int .u8 0, .int .u8 0, .slice none 0 0].toArray 24) := ⟨_, rfl⟩
          rw [← hw32]
          have hbs32 : Below ws26.heap.size ws26 ws32 := by rw [hw32]; exact below_new _ _
          have nbs32 : Blk ws32 ws26.heap.size 24 [Value.int .u8 0, .int .u8 0, .slice none 0 0].toArray := by rw [hw32]; exact Blk.new _ _ _
          have szs32 : ws26.heap.size < ws32.heap.size := by rw [hw32]; simp
          clear hw32
          have ges32 : W.heap.size ≤ ws26.heap.size := (hs26).2.2.2.2.2.2.2.2.2.2.2.2.size
          refine hK.out _ _ ?tu32 (fun hs32 => ?_)
          case tu32 => exact keepS _ _ hs26 hbs32
          clear hK K
          have nb5_32 := nbs26.below hbs32 nbs26.lt
          refine stepG 1 (by kernel_rfl) (by simp only [List.getElem?_toArray, List.getElem?_cons_succ, List.getElem?_cons_zero]; rfl) (fun K hK => ?_)
          go_simp
          refine (hr1 _ (hs32).2.2.2.2.2.2.2.2.2.2.2.2).mono ?_
          rintro e ws33 ⟨A9, c9, rfl, fx33, hbs33⟩
          have szs33 := hbs33.size
          refine hK.out _ _ ?tu33 (fun hs33 => ?_)
          case tu33 => exact keepS _ _ hs32 hbs33
          clear hK K
          have nb5_33 := nb5_32.below hbs33 nb5_32.lt
          have nb4_33 := nbs32.below hbs33 nbs32.lt
          refine stepG 3 (by kernel_rfl) (by simp only [List.getElem?_toArray, List.getElem?_cons_succ, List.getElem?_cons_zero]; rfl) (fun K hK => ?_)
          go_simp
          refine (hr3 _ (hs33).2.2.2.2.2.2.2.2.2.2.2.2).mono ?_
          rintro e ws34 ⟨B1, f1, B2, f2, rfl, fx34, hbs34⟩
          have szs34 := hbs34.size
          refine hK.out _ _ ?tu34 (fun hs34 => ?_)
          case tu34 => exact keepS _ _ hs33 hbs34
          clear hK K
          have nb5_34 := nb5_33.below hbs34 nb5_33.lt
          have nb4_34 := nb4_33.below hbs34 nb4_33.lt
          have fy1_34 := fx33.below hbs34
          have hSB := (hs34).2.2.2.2.2.2.2.2.2.2.2.2
          have hz4 := nb4_34
          have hz5 := nb5_34
          have hO := fy1_34
          have hEC := fx34
          have hs5 := hSB.size
          have hne : ∀ a, A9 = some a → a.block ≠ V0.heap.size := fun a ha => by have := (fy1_34).ge a ha; omega
          clear hHeld
          refine stepG 6 (by kernel_rfl) (by simp only [List.getElem?_toArray, List.getElem?_cons_succ, List.getElem?_cons_zero]; rfl) (fun K hK => ?_)
          refine step_store_blk rfl 24 (.tmp 7) (.tmp 22) rfl rfl (cs := [.int .u8 (k : Int), .int .u8 (l : Int), .slice A9 n c9]) rfl hz4 rfl infoNd (nd_one _ _ _ _ _) ?_
          intro wa hka hga
          refine hK.out _ _ ?ts26 (fun hHeld => ?_)
          case ts26 => ((try dsimp only); exact TR.out _ (hSB.grown hga (by omega) (by intro q hq; simp at hq; omega)))
          clear hK K
          have hz5a := hz5.keep_grown hga (by simp; omega)
          have hOa := hO.keptE hz4 (by decide) (by decide) hga
          have hECa := hEC.keptE hz4 (by decide) hga
          have hSa := hSB.grown hga (by omega) (by intro q hq; simp at hq; omega)
          have hsa := hSa.size
          clear hHeld
          refine stepG 7 (by kernel_rfl) (by simp only [List.getElem?_toArray, List.getElem?_cons_succ, List.getElem?_cons_zero]; rfl) (fun K hK => ?_)
          refine step_store_blk rfl 46 (.tmp 8) (.tmp 24) rfl rfl (cs := enC B1 n1 f1 B2 n2 f2 x.len x.chain x.child) rfl hz5a rfl infoE (enC_one _ _ _ _ _ _ _ _ _) ?_
          intro wb hkb hgb
          refine hK.out _ _ ?ts27 (fun hHeld => ?_)
          case ts27 => ((try dsimp only); exact TR.out _ (hSa.grown hgb (by omega) (by intro q hq; simp at hq; omega)))
          clear hK K
          refine doneG (by kernel_rfl) ?_ _
          go_wp2_with fail
          go_meet
          have hOb := hOa.keptX hz5a hne hgb
          have hECb := EC.own (hECa.keptE hz5a (by decide) hgb)
          exact ⟨_, _, A9, c9, B1, n1, f1, B2, n2, f2, rfl, rfl, ⟨hka.keep_grown hgb (by simp; omega), hOb.rdl HLn.out⟩, ⟨hkb, hECb.1.rd, hECb.2.rd⟩, hSa.grown hgb (by omega) (by intro q hq; simp at hq; omega)⟩
    case rest =>
      obtain ⟨g7, g8, A7, c7, B1, m1, f1, B2, m2, f2, rfl, rfl, hN7, hE8, hbel⟩ := hcut
      have N7 := Lib.hid hN7
      have E8 := Lib.hid hE8
      have HBc := Lib.hid hbel
      have sc := hbel.size
      have HSH := Lib.hid HO.out.short
      obtain ⟨E, HE⟩ : ∃ E, Hid (withE k l es i x = E) := ⟨_, rfl⟩
      obtain ⟨L, HL⟩ : ∃ L, Hid (insE es i.toNat x = L) := ⟨_, rfl⟩
      have HC1 := Lib.hid (with_any k l A7 n c7 es i B1 m1 f1 B2 m2 f2 x wc N7.out.rd hk hl (by have := HN3.out; omega) HSH.out HIW.out E8.out.key E8.out.val (by have := HXk.out.1; omega) (by have := HXk.out.2; omega))
      rw [HE.out, HL.out] at HC1
      clear hN7 hE8 hbel TR N1 E1 HB1
      have d0 := N7.out.c0
      have d1 := N7.out.c1
      have d2 := N7.out.c2
      obtain ⟨x0, x1, x2, x3, x4, x5, x6, x7, x8⟩ := E8.out.cells
      go_wp2_with fail
      refine HC1.out.mono ?_
      rintro e w4 ⟨A9, c9, rfl, ho9, hb9⟩
      clear d0 d1 d2 x0 x1 x2 x3 x4 x5 x6 x7 x8 HC1
      obtain ⟨k9, HK9⟩ : ∃ k9, Hid (sN E k = k9) := ⟨_, rfl⟩
      obtain ⟨l9, HL9⟩ : ∃ l9, Hid (sN E l = l9) := ⟨_, rfl⟩
      obtain ⟨L9, HLL9⟩ : ∃ L9, Hid (sE E L = L9) := ⟨_, rfl⟩
      obtain ⟨n9, HN9⟩ : ∃ n9, Hid (L9.length = n9) := ⟨_, rfl⟩
      rw [HLL9.out, HN9.out] at ho9
      rw [HK9.out, HL9.out, HLL9.out, HN9.out]
      have hk9 : k9 < 256 := by rw [← HK9.out]; exact sN_lt hk
      have hl9 : l9 < 256 := by rw [← HL9.out]; exact sN_lt hl
      have s4 := hb9.size
      obtain ⟨w5, hw5⟩ : ∃ w5, w5 = w4.alloc (.cells #[.int .u8 (k9 : Int), .int .u8 (l9 : Int), .slice A9 n9 c9] 24) := ⟨_, rfl⟩
      have hb5 : Below wc.heap.size wc w5 := by rw [hw5]; exact hb9.alloc s4 _
      have O9 : Hid (OwnN w5 wc.heap.size A9 n9 c9 L9) := by rw [hw5]; exact ho9.below (below_new1 _ _)
      have N9 : Hid (Nin w5 w4.heap.size k9 l9 A9 n9 c9 L9) := ⟨by rw [hw5]; exact Blk.new _ _ _, O9.out.rdl HN9.out.symm⟩
      have H5 := Lib.hid hb5
      have hW5 : Below W.heap.size W w5 := HBc.out.trans (hb5.mono sc)
      have N5 := Lib.hid (N0.out.below hW5)
      have E5 := Lib.hid (E0.out.below hW5)
      have HW5 := Lib.hid hw5
      have s5 := hb5.size
      have HC2 := Lib.hid (refwith_any k l A n c es i A1 n1 c1 A2 n2 c2 x w5 N5.out.rd hk hl (by have := HN3.out; omega) HSH.out HIW.out E5.out.key E5.out.val (by have := HXk.out.1; omega) (by have := HXk.out.2; omega))
      rw [HE.out, HL.out] at HC2
      clear ho9 hb9 hb5 hw5 hW5
      go_upto_region 5 with fail
      rw [← HW5.out]
      have d0 := N5.out.c0
      have d1 := N5.out.c1
      have d2 := N5.out.c2
      obtain ⟨x0, x1, x2, x3, x4, x5, x6, x7, x8⟩ := E5.out.cells
      go_wp2_with fail
      refine HC2.out.mono ?_
      rintro e w6 ⟨A10, c10, rfl, ho10, hb10⟩
      clear d0 d1 d2 x0 x1 x2 x3 x4 x5 x6 x7 x8 HC2
      rw [HLL9.out, HN9.out] at ho10
      rw [HK9.out, HL9.out, HLL9.out, HN9.out]
      have s6 := hb10.size
      obtain ⟨w7, hw7⟩ : ∃ w7, w7 = w6.alloc (.cells #[.int .u8 (k9 : Int), .int .u8 (l9 : Int), .slice A10 n9 c10] 24) := ⟨_, rfl⟩
      have hb7 : Below w5.heap.size w5 w7 := by rw [hw7]; exact hb10.alloc s6 _
      have NA : Hid (Nin w7 w6.heap.size k9 l9 A10 n9 c10 L9) := ⟨by rw [hw7]; exact Blk.new _ _ _, by rw [hw7]; exact (ho10.below (below_new1 _ _)).rdl HN9.out.symm⟩
      go_upto_region 6 with fail
      rw [← hw7]
      have N9b := Lib.hid (N9.out.below hb7)
      have O9b := Lib.hid (O9.out.below hb7)
      have H7 : Hid (Below wc.heap.size wc w7) := H5.out.trans (hb7.mono s5)
      have s7 := H7.out.size
      clear ho10 hb10 hb7 hw7 O9 N9 H5 N5 E5
      have HC3 := Lib.hid (refsame_any k9 l9 A9 n9 c9 L9 k9 l9 A10 n9 c10 L9 w7 N9b.out.rd NA.out.rd hk9 hl9 hk9 hl9)
      rw [sameN_refl] at HC3
      have d0 := N9b.out.c0
      have d1 := N9b.out.c1
      have d2 := N9b.out.c2
      have y0 := NA.out.c0
      have y1 := NA.out.c1
      have y2 := NA.out.c2
      have tokE : (E == E) = true := beq_self_eq_true _
      go_wp2_with fail
      refine HC3.out.mono ?_
      rintro e w8 ⟨rfl, hb8⟩
      have N9c := Lib.hid (N9b.out.below hb8)
      have O9c := Lib.hid (O9b.out.below hb8)
      have H8 : Hid (Below wc.heap.size wc w8) := H7.out.trans (hb8.mono s7)
      have s8 := H8.out.size
      clear hb8 d0 d1 d2 y0 y1 y2 HC3 NA O9b N9b H7
      have HC4 := Lib.hid (spoil_any k9 l9 A9 n9 c9 L9 wc.heap.size w8 O9c.out s8)
      have d0 := N9c.out.c0
      have d1 := N9c.out.c1
      have d2 := N9c.out.c2
      go_wp2_with fail
      refine HC4.out.mono ?_
      rintro e w9 ⟨rfl, hb9⟩
      have H9 : Hid (Below wc.heap.size wc w9) := H8.out.trans hb9
      have s9 := H9.out.size
      clear hb9 d0 d1 d2 HC4 O9c N9c H8
      have hW9 : Below W.heap.size W w9 := HBc.out.trans (H9.out.mono sc)
      have N7b := Lib.hid (N7.out.below H9.out)
      have E8b := Lib.hid (E8.out.below H9.out)
      have N0b := Lib.hid (N0.out.below hW9)
      have HW9 := Lib.hid hW9
      have HC5 := Lib.hid (refsame_any k l A7 n c7 es k l A n c es w9 N7b.out.rd N0b.out.rd hk hl hk hl)
      rw [sameN_refl] at HC5
      clear hW9 N7 E8
      have d0 := N7b.out.c0
      have d1 := N7b.out.c1
      have d2 := N7b.out.c2
      have y0 := N0b.out.c0
      have y1 := N0b.out.c1
      have y2 := N0b.out.c2
      go_wp2_with fail
      refine HC5.out.mono ?_
      rintro e wa ⟨rfl, hba⟩
      have Ha : Hid (Below W.heap.size W wa) := HW9.out.trans (hba.mono HW9.out.size)
      have sa := Ha.out.size
      have E8a := Lib.hid (E8b.out.below hba)
      have Ea := Lib.hid (E0.out.below Ha.out)
      clear hba d0 d1 d2 y0 y1 y2 HC5 HW9 N0b N7b E8b
      obtain ⟨z0, z1, z2, z3, z4, z5, z6, z7, z8⟩ := E8a.out.cells
      obtain ⟨x0, x1, x2, x3, x4, x5, x6, x7, x8⟩ := (Ea.out.below (below_new1 wa (.cells #[.slice B1 m1 f1, .slice B2 m2 f2, .int .i64 x.len, .int .u32 (x.chain.1 : Int), .int .u64 (x.chain.2.1 : Int), .int .u16 (x.chain.2.2 : Int), .int .u32 (x.child.1 : Int), .int .u64 (x.child.2.1 : Int), .int .u16 (x.child.2.2 : Int)] 46))).cells
      go_wp2_with fail
      obtain ⟨wb, hwb⟩ : ∃ wb, wb = wa.alloc (.cells #[.slice B1 m1 f1, .slice B2 m2 f2, .int .i64 x.len, .int .u32 (x.chain.1 : Int), .int .u64 (x.chain.2.1 : Int), .int .u16 (x.chain.2.2 : Int), .int .u32 (x.child.1 : Int), .int .u64 (x.child.2.1 : Int), .int .u16 (x.child.2.2 : Int)] 46) := ⟨_, rfl⟩
      have hbb : Below wa.heap.size wa wb := by rw [hwb]; exact below_new1 _ _
      have hkb : Blk wb wa.heap.size 46 (enC B1 m1 f1 B2 m2 f2 x.len x.chain x.child).toArray := by rw [hwb]; exact Blk.new _ _ _
      have hsb : wb.heap.size = wa.heap.size + 1 := by rw [hwb, size_new]
      rw [← hwb]
      clear hwb x0 x1 x2 x3 x4 x5 x6 x7 x8 z0 z1 z2 z3 z4 z5 z6 z7 z8
      obtain ⟨wd, hwd⟩ : ∃ wd, wd = wb.alloc (.cells #[.slice A1 n1 c1, .slice A2 n2 c2, .int .i64 x.len, .int .u32 (x.chain.1 : Int), .int .u64 (x.chain.2.1 : Int), .int .u16 (x.chain.2.2 : Int), .int .u32 (x.child.1 : Int), .int .u64 (x.child.2.1 : Int), .int .u16 (x.child.2.2 : Int)] 46) := ⟨_, rfl⟩
      have hbd : Below wa.heap.size wa wd := by rw [hwd]; exact hbb.alloc hbb.size _
      have hkd : Blk wd (wa.heap.size + 1) 46 (enC A1 n1 c1 A2 n2 c2 x.len x.chain x.child).toArray := by rw [hwd]; exact Blk.new' _ _ _ _ hsb
      have hkb2 : Blk wd wa.heap.size 46 (enC B1 m1 f1 B2 m2 f2 x.len x.chain x.child).toArray := by rw [hwd]; exact hkb.alloc _
      rw [← hwd]
      have HC6 := Lib.hid (refsame_any 0 0 (some ⟨wa.heap.size, 0, none⟩) 1 1 [x] 0 0 (some ⟨wa.heap.size + 1, 0, none⟩) 1 1 [x] wd (RdL.single hkb2 (E8a.out.below hbd).key (E8a.out.below hbd).val) (RdL.single hkd (Ea.out.below hbd).key (Ea.out.below hbd).val) (by omega) (by omega) (by omega) (by omega))
      rw [sameN_refl] at HC6
      have Hd : Hid (Below W.heap.size W wd) := Ha.out.trans (hbd.mono sa)
      clear hwd hbd hkd hkb2 hkb hbb hsb E8a Ea
      refine HC6.out.mono ?_
      rintro e we ⟨rfl, hbe⟩
      have He : Hid (Below W.heap.size W we) := Hd.out.trans (hbe.mono Hd.out.size)
      clear hbe Hd HC6
      go_wp2_with fail
      refine (known_any we).mono ?_
      rintro e wf ⟨rfl, hbf⟩
      have Hf : Hid (Below W.heap.size W wf) := He.out.trans (hbf.mono He.out.size)
      clear hbf
      go_wp2_with fail
      go_ret
      exact ⟨rfl, HB0.out.trans (Hf.out.mono s0)⟩
end Go.Proofs.Ytgihcjmcefdkiaa
