/- Contracts: graft.With. -/
import Derived.Test.YtgihcjmcefdkiaaGrSl
set_option linter.unusedVariables false
set_option linter.unusedSimpArgs false
namespace Go.Proofs.Ytgihcjmcefdkiaa
open Go.RowKit

/-- A node with an entry put in. -/
def insE (es : List Ent) (i : Nat) (x : Ent) : List Ent := [es.take i, [x], es.drop i].flatten
theorem insE_length {es : List Ent} {i : Nat} (h : i ≤ es.length) (x : Ent) : (insE es i x).length = es.length + 1 := by
  simp [insE]; omega
theorem insE_eq (es : List Ent) (i : Nat) (x : Ent) : insE es i x = es.take i ++ x :: es.drop i := by simp [insE]
theorem insE_at {es : List Ent} {i : Nat} (h : i ≤ es.length) (x : Ent) (j : Nat) : (insE es i x).getD j ent0 = if j < i then es.getD j ent0 else if j = i then x else es.getD (j - 1) ent0 := by
  rw [insE_eq]
  simp only [List.getD_eq_getElem?_getD]
  by_cases h1 : j < i
  · rw [if_pos h1, List.getElem?_append_left (by rw [List.length_take]; omega), List.getElem?_take_of_lt h1]
  · rw [if_neg h1, List.getElem?_append_right (by rw [List.length_take]; omega), List.length_take, Nat.min_eq_left h]
    by_cases h2 : j = i
    · rw [if_pos h2, h2, Nat.sub_self]; rfl
    · rw [if_neg h2, show j - i = (j - 1 - i) + 1 by omega, List.getElem?_cons_succ, List.getElem?_drop, show i + (j - 1 - i) = j - 1 by omega]
theorem shortE.ins {es : List Ent} (h : shortE es) {i : Nat} (hi : i ≤ es.length) {x : Ent} (h1 : x.key.length ≤ 140737488355328) (h2 : x.val.length ≤ 140737488355328) : shortE (insE es i x) := fun j hj => by
  rw [insE_length hi] at hj
  rw [insE_at hi]
  split
  · exact h j (by omega)
  · split
    · exact ⟨h1, h2⟩
    · exact h (j - 1) (by omega)
theorem esIn.ins {es : List Ent} (h : esIn es) {i : Nat} (hi : i ≤ es.length) {x : Ent} (hx : entIn x) : esIn (insE es i x) := fun j hj => by
  rw [insE_length hi] at hj
  rw [insE_at hi]
  split
  · exact h j (by omega)
  · split
    · exact hx
    · exact h (j - 1) (by omega)
def sN (E : Int) (x : Nat) : Nat := if E = 0 then x else 0
def sE (E : Int) (es : List Ent) : List Ent := if E = 0 then es else []
/-- A node, or what is wrong. -/
def OneP (E : Int) (k l : Nat) (es : List Ent) (w : World) (e : Ending) (w' : World) : Prop := ∃ A c, e = .returned (.tuple #[NdV (sN E k) (sN E l) A (sE E es).length c, .int .i64 E]) ∧ OwnN w' w.heap.size A (sE E es).length c (sE E es) ∧ Below w.heap.size w w'
theorem OneP.none_ {E : Int} {k l : Nat} {es : List Ent} {w w' : World} (h : E ≠ 0) (hb : Below w.heap.size w w') : OneP E k l es w (.returned (.tuple #[NdV 0 0 none 0 0, .int .i64 E])) w' := by
  refine ⟨none, 0, ?_, ?_, hb⟩
  · rw [sN, sN, sE, if_neg h, if_neg h, if_neg h]; rfl
  · rw [sE, if_neg h]; exact OwnN.nil _ _ _
theorem OneP.some_ {k l : Nat} {es : List Ent} {w w' : World} {A : Option Addr} {n c : Nat} (hn : n = es.length) (h : OwnN w' w.heap.size A n c es) (hb : Below w.heap.size w w') : OneP 0 k l es w (.returned (.tuple #[NdV k l A n c, .int .i64 0])) w' := by
  subst hn
  exact ⟨A, c, rfl, h, hb⟩
/-- What With answers. -/
def withE (k l : Nat) (es : List Ent) (i : Int) (x : Ent) : Int := if i < 0 ∨ (es.length : Int) < i then 2 else rE k l (insE es i.toNat x)
theorem RdLL.three {w : World} {g n c n' c' n'' c'' : Nat} {A A' A'' : Option Addr} {es es' es'' : List Ent} (hb : Blk w g 22 [Value.slice A n c, .slice A' n' c', .slice A'' n'' c''].toArray) (h : RdL w A n c es) (h' : RdL w A' n' c' es') (h'' : RdL w A'' n'' c'' es'') : RdLL w (some ⟨g, 0, none⟩) 3 3 [es, es', es''] :=
  ⟨rfl, Nat.le_refl _, by unfold maxLen; omega, fun _ => ⟨g, 0, rfl, fun j hj => by
    have hj3 : j = 0 ∨ j = 1 ∨ j = 2 := by omega
    rcases hj3 with rfl | rfl | rfl
    · exact ⟨A, n, c, hb.cell 0, h⟩
    · exact ⟨A', n', c', hb.cell 1, h'⟩
    · exact ⟨A'', n'', c'', hb.cell 2, h''⟩⟩⟩
theorem RdL.single {w : World} {g : Nat} {A1 : Option Addr} {n1 c1 : Nat} {A2 : Option Addr} {n2 c2 : Nat} {x : Ent} (hb : Blk w g 46 (enC A1 n1 c1 A2 n2 c2 x.len x.chain x.child).toArray) (h1 : Rd w A1 n1 c1 x.key) (h2 : Rd w A2 n2 c2 x.val) : RdL w (some ⟨g, 0, none⟩) 1 1 [x] :=
  ⟨rfl, Nat.le_refl _, by unfold maxLen; omega, fun _ => ⟨g, 0, rfl, fun j hj => by
    obtain rfl : j = 0 := by omega
    exact ⟨A1, n1, c1, A2, n2, c2, ⟨hb.cell 0, hb.cell 1, hb.cell 2, hb.cell 3, hb.cell 4, hb.cell 5, hb.cell 6, hb.cell 7, hb.cell 8⟩, h1, h2⟩⟩⟩
set_option maxRecDepth 100000 in
set_option maxHeartbeats 3200000 in
theorem with_any (k l : Nat) (A : Option Addr) (n c : Nat) (es : List Ent) (i : Int) (A1 : Option Addr) (n1 c1 : Nat) (A2 : Option Addr) (n2 c2 : Nat) (x : Ent) (w : World) (h : RdL w A n c es) (hk : k < 256) (hl : l < 256) (hN : n ≤ 9000) (hs : shortE es) (hi : i64In i)
    (h1 : Rd w A1 n1 c1 x.key) (h2 : Rd w A2 n2 c2 x.val) (hx1 : x.key.length ≤ 140737488355328) (hx2 : x.val.length ≤ 140737488355328) :
    Calls Try.prog 27 #[NdV k l A n c, .int .i64 i, EnV A1 n1 c1 A2 n2 c2 x.len x.chain x.child] w (OneP (withE k l es i x) k l (insE es i.toNat x) w) := by
  have hcap := h.cap
  have hmax := h.max
  unfold maxLen at hmax
  obtain ⟨hi1, hi2⟩ := hi
  have HLn := Lib.hid h.len
  have HS := Lib.hid hs
  obtain ⟨W, hW⟩ : ∃ W, W = ((w.alloc (.cells #[.int .u8 (k : Int), .int .u8 (l : Int), .slice A n c] 24)).alloc (.cells (enA A1 n1 c1 A2 n2 c2 x.len x.chain x.child) 46)).alloc (.cells #[.int .u8 0, .int .u8 0, .slice none 0 0] 24) := ⟨_, rfl⟩
  have HWB : Hid (Below w.heap.size w W) := by rw [hW]; exact ((below_new _ _).alloc (by simp) _).alloc (by simp; omega) _
  have KN : Hid (Blk W w.heap.size 24 (ndA k l A n c)) := by rw [hW]; exact ((Blk.new _ _ _).alloc _).alloc _
  have KX : Hid (Blk W (w.heap.size + 1) 46 (enC A1 n1 c1 A2 n2 c2 x.len x.chain x.child).toArray) := by rw [hW]; exact (Blk.new' _ _ _ _ (by simp)).alloc _
  have KZ : Hid (Blk W (w.heap.size + 1 + 1) 24 [Value.int .u8 0, .int .u8 0, .slice none 0 0].toArray) := by rw [hW]; exact Blk.new' _ _ _ _ (by simp)
  have HR := Lib.hid (h.below HWB.out)
  have HR1 := Lib.hid (h1.below HWB.out)
  have HR2 := Lib.hid (h2.below HWB.out)
  have HW := Lib.hid hW
  have hWs := KZ.out.lt
  have d2 : W.cell? ⟨w.heap.size, 2, none⟩ = some (.slice A n c) := KN.out.cell 2
  by_cases hbad : i < 0 ∨ (n : Int) < i
  · have HE : Hid (withE k l es i x = 2) := by show _ = _; rw [withE, if_pos (by rw [← HLn.out]; exact hbad)]
    rw [HE.out]
    rcases hbad with hb | hb
    · have e1 : decide (i < 0) = true := decide_eq_true hb
      clear h h1 h2 hs hW HE
      go_enter Try.func27, Try.ntmps27
      go_wp2_with fail
      rw [← HW.out]
      go_wp2_with fail
      have z0 := KZ.out.cell 0
      have z1 := KZ.out.cell 1
      have z2 := KZ.out.cell 2
      refine bodyPost_ret (v := .tuple #[NdV 0 0 none 0 0, .int .i64 2]) ?_ rfl (OneP.none_ (by decide) HWB.out)
      simp [results, Try.results27, go_sem, z0, z1, z2]
    · have e1 : decide (i < 0) = false := decide_eq_false (by omega)
      have e2 : decide (i > (n : Int)) = true := decide_eq_true (by omega)
      clear h h1 h2 hs hW HE
      go_enter Try.func27, Try.ntmps27
      go_wp2_with fail
      rw [← HW.out]
      go_wp2_with fail
      have z0 := KZ.out.cell 0
      have z1 := KZ.out.cell 1
      have z2 := KZ.out.cell 2
      refine bodyPost_ret (v := .tuple #[NdV 0 0 none 0 0, .int .i64 2]) ?_ rfl (OneP.none_ (by decide) HWB.out)
      simp [results, Try.results27, go_sem, z0, z1, z2]
  · obtain ⟨p, hp⟩ := Int.eq_ofNat_of_zero_le (a := i) (by omega)
    subst hp
    have hpn : p ≤ n := by omega
    have e1 : decide ((p : Int) < 0) = false := decide_eq_false (by omega)
    have e2 : decide ((p : Int) > (n : Int)) = false := decide_eq_false (by omega)
    obtain ⟨L, HL⟩ : ∃ L, Hid (insE es p x = L) := ⟨_, rfl⟩
    have HE : Hid (withE k l es (p : Int) x = rE k l L) := by
      show _ = _
      rw [withE, if_neg (by rw [← HLn.out]; omega), ← HL.out]; rfl
    have HLL : Hid (L.length = n + 1) := by show _ = _; rw [← HL.out, insE_length (by rw [← HLn.out]; exact hpn), ← HLn.out]
    have HSL : Hid (shortE L) := by rw [← HL.out]; exact hs.ins (by rw [← HLn.out]; exact hpn) hx1 hx2
    obtain ⟨E, HEE⟩ : ∃ E, Hid (rE k l L = E) := ⟨_, rfl⟩
    rw [HE.out, HEE.out]
    have et : insE es ((p : Int)).toNat x = L := by rw [Int.toNat_natCast]; exact HL.out
    rw [et]
    clear h h1 h2 hs hW HE et hbad
    have TR : Hid (∀ V, Below W.heap.size W V → (fun V => V.cell? ⟨w.heap.size, 0, none⟩ = some (.int .u8 (k : Int)) ∧ V.cell? ⟨w.heap.size, 1, none⟩ = some (.int .u8 (l : Int)) ∧ V.cell? ⟨w.heap.size, 2, none⟩ = some (.slice A n c) ∧ V.cell? ⟨w.heap.size + 1, 0, none⟩ = some (.slice A1 n1 c1) ∧ V.cell? ⟨w.heap.size + 1, 1, none⟩ = some (.slice A2 n2 c2) ∧ V.cell? ⟨w.heap.size + 1, 2, none⟩ = some (.int .i64 x.len) ∧ V.cell? ⟨w.heap.size + 1, 3, none⟩ = some (.int .u32 (x.chain.1 : Int)) ∧ V.cell? ⟨w.heap.size + 1, 4, none⟩ = some (.int .u64 (x.chain.2.1 : Int)) ∧ V.cell? ⟨w.heap.size + 1, 5, none⟩ = some (.int .u16 (x.chain.2.2 : Int)) ∧ V.cell? ⟨w.heap.size + 1, 6, none⟩ = some (.int .u32 (x.child.1 : Int)) ∧ V.cell? ⟨w.heap.size + 1, 7, none⟩ = some (.int .u64 (x.child.2.1 : Int)) ∧ V.cell? ⟨w.heap.size + 1, 8, none⟩ = some (.int .u16 (x.child.2.2 : Int)) ∧ Below W.heap.size W V) V) := fun V hb => by
      have k1 := KN.out.below hb KN.out.lt
      have k2 := KX.out.below hb KX.out.lt
      exact ⟨k1.cell 0, k1.cell 1, k1.cell 2, k2.cell 0, k2.cell 1, k2.cell 2, k2.cell 3, k2.cell 4, k2.cell 5, k2.cell 6, k2.cell 7, k2.cell 8, hb⟩
    go_enter Try.func27, Try.ntmps27
    go_upto_region 3 with fail
    rw [← HW.out]
    go_cut [8] (fun s8 wx => ∃ g A' c', s8 = .pointer (some ⟨g, 0, none⟩) ∧ W.heap.size ≤ g ∧ Blk wx g 24 (ndA k l A' (n + 1) c') ∧ OwnN wx W.heap.size A' (n + 1) c' L ∧ Below W.heap.size W wx)
    case first =>
      refine region_gate 18 (fun V => V.cell? ⟨w.heap.size, 0, none⟩ = some (.int .u8 (k : Int)) ∧ V.cell? ⟨w.heap.size, 1, none⟩ = some (.int .u8 (l : Int)) ∧ V.cell? ⟨w.heap.size, 2, none⟩ = some (.slice A n c) ∧ V.cell? ⟨w.heap.size + 1, 0, none⟩ = some (.slice A1 n1 c1) ∧ V.cell? ⟨w.heap.size + 1, 1, none⟩ = some (.slice A2 n2 c2) ∧ V.cell? ⟨w.heap.size + 1, 2, none⟩ = some (.int .i64 x.len) ∧ V.cell? ⟨w.heap.size + 1, 3, none⟩ = some (.int .u32 (x.chain.1 : Int)) ∧ V.cell? ⟨w.heap.size + 1, 4, none⟩ = some (.int .u64 (x.chain.2.1 : Int)) ∧ V.cell? ⟨w.heap.size + 1, 5, none⟩ = some (.int .u16 (x.chain.2.2 : Int)) ∧ V.cell? ⟨w.heap.size + 1, 6, none⟩ = some (.int .u32 (x.child.1 : Int)) ∧ V.cell? ⟨w.heap.size + 1, 7, none⟩ = some (.int .u64 (x.child.2.1 : Int)) ∧ V.cell? ⟨w.heap.size + 1, 8, none⟩ = some (.int .u16 (x.child.2.2 : Int)) ∧ Below W.heap.size W V) (by kernel_rfl) ?th1 (fun hHeld => ?tk1)
      case th1 => ((try dsimp only); exact TR.out _ (Below.refl _ _).drew)
      refine' takeV 0 (oi := _) (d := _) (v := _) ?ti2 ?td2 (by kernel_rfl) (by kernel_rfl) (by kernel_rfl) (by kernel_rfl) (by decide) (fun _ _ _ _ _ h => h) ?tg2 ?ty2 (by assumption) ?tr2
      case ti2 => (simp only [List.getElem?_toArray, List.getElem?_cons_succ, List.getElem?_cons_zero]; rfl)
      case td2 => exact rfl
      case tg2 => exact rfl
      case ty2 => (intro w hSw; (try dsimp only at hSw); go_split_ands; go_simp; try with_reducible rfl)
      simp only [List.setIfInBounds_toArray, List.set_cons_zero, List.set_cons_succ]
      refine' takeV 1 (oi := _) (d := _) (v := _) ?ti3 ?td3 (by kernel_rfl) (by kernel_rfl) (by kernel_rfl) (by kernel_rfl) (by decide) (fun _ _ _ _ _ h => h) ?tg3 ?ty3 (by assumption) ?tr3
      case ti3 => (simp only [List.getElem?_toArray, List.getElem?_cons_succ, List.getElem?_cons_zero]; rfl)
      case td3 => exact rfl
      case tg3 => exact rfl
      case ty3 => (intro w hSw; (try dsimp only at hSw); go_split_ands; go_simp; try with_reducible rfl)
      simp only [List.setIfInBounds_toArray, List.set_cons_zero, List.set_cons_succ]
      refine' takeV 2 (oi := _) (d := _) (v := _) ?ti4 ?td4 (by kernel_rfl) (by kernel_rfl) (by kernel_rfl) (by kernel_rfl) (by decide) (fun _ _ _ _ _ h => h) ?tg4 ?ty4 (by assumption) ?tr4
      case ti4 => (simp only [List.getElem?_toArray, List.getElem?_cons_succ, List.getElem?_cons_zero]; rfl)
      case td4 => exact rfl
      case tg4 => exact rfl
      case ty4 => (intro w hSw; (try dsimp only at hSw); go_split_ands; go_simp; try with_reducible rfl)
      simp only [List.setIfInBounds_toArray, List.set_cons_zero, List.set_cons_succ]
      refine' takeV 3 (oi := _) (d := _) (v := _) ?ti5 ?td5 (by kernel_rfl) (by kernel_rfl) (by kernel_rfl) (by kernel_rfl) (by decide) (fun _ _ _ _ _ h => h) ?tg5 ?ty5 (by assumption) ?tr5
      case ti5 => (simp only [List.getElem?_toArray, List.getElem?_cons_succ, List.getElem?_cons_zero]; rfl)
      case td5 => exact rfl
      case tg5 => exact rfl
      case ty5 => (intro w hSw; (try dsimp only at hSw); go_split_ands; go_simp; try with_reducible rfl)
      simp only [List.setIfInBounds_toArray, List.set_cons_zero, List.set_cons_succ]
      refine' takeV 4 (oi := _) (d := _) (v := _) ?ti6 ?td6 (by kernel_rfl) (by kernel_rfl) (by kernel_rfl) (by kernel_rfl) (by decide) (fun _ _ _ _ _ h => h) ?tg6 ?ty6 (by assumption) ?tr6
      case ti6 => (simp only [List.getElem?_toArray, List.getElem?_cons_succ, List.getElem?_cons_zero]; rfl)
      case td6 => exact rfl
      case tg6 => exact rfl
      case ty6 => (intro w hSw; (try dsimp only at hSw); go_split_ands; go_simp; try with_reducible rfl)
      simp only [List.setIfInBounds_toArray, List.set_cons_zero, List.set_cons_succ]
      refine' takeV 5 (oi := _) (d := _) (v := _) ?ti7 ?td7 (by kernel_rfl) (by kernel_rfl) (by kernel_rfl) (by kernel_rfl) (by decide) (fun _ _ _ _ _ h => h) ?tg7 ?ty7 (by assumption) ?tr7
      case ti7 => (simp only [List.getElem?_toArray, List.getElem?_cons_succ, List.getElem?_cons_zero]; rfl)
      case td7 => exact rfl
      case tg7 => exact rfl
      case ty7 => (intro w hSw; (try dsimp only at hSw); go_split_ands; go_simp; try with_reducible rfl)
      simp only [List.setIfInBounds_toArray, List.set_cons_zero, List.set_cons_succ]
      refine' takeV 6 (oi := _) (d := _) (v := _) ?ti8 ?td8 (by kernel_rfl) (by kernel_rfl) (by kernel_rfl) (by kernel_rfl) (by decide) (fun _ _ _ _ _ h => h) ?tg8 ?ty8 (by assumption) ?tr8
      case ti8 => (simp only [List.getElem?_toArray, List.getElem?_cons_succ, List.getElem?_cons_zero]; rfl)
      case td8 => exact rfl
      case tg8 => exact rfl
      case ty8 => (intro w hSw; (try dsimp only at hSw); go_split_ands; go_simp; try with_reducible rfl)
      simp only [List.setIfInBounds_toArray, List.set_cons_zero, List.set_cons_succ]
      refine' takeV 8 (oi := _) (d := _) (v := _) ?ti9 ?td9 (by kernel_rfl) (by kernel_rfl) (by kernel_rfl) (by kernel_rfl) (by decide) (fun _ _ _ _ _ h => h) ?tg9 ?ty9 (by assumption) ?tr9
      case ti9 => (simp only [List.getElem?_toArray, List.getElem?_cons_succ, List.getElem?_cons_zero]; rfl)
      case td9 => exact rfl
      case tg9 => exact rfl
      case ty9 => (intro w hSw; (try dsimp only at hSw); go_split_ands; go_simp; try with_reducible rfl)
      simp only [List.setIfInBounds_toArray, List.set_cons_zero, List.set_cons_succ]
      refine' takeV 10 (oi := _) (d := _) (v := _) ?ti10 ?td10 (by kernel_rfl) (by kernel_rfl) (by kernel_rfl) (by kernel_rfl) (by decide) (fun _ _ _ _ _ h => h) ?tg10 ?ty10 (by assumption) ?tr10
      case ti10 => (simp only [List.getElem?_toArray, List.getElem?_cons_succ, List.getElem?_cons_zero]; rfl)
      case td10 => exact rfl
      case tg10 => exact rfl
      case ty10 => (intro w hSw; (try dsimp only at hSw); go_split_ands; go_simp; try with_reducible rfl)
      simp only [List.setIfInBounds_toArray, List.set_cons_zero, List.set_cons_succ]
      refine' takeV 11 (oi := _) (d := _) (v := _) ?ti11 ?td11 (by kernel_rfl) (by kernel_rfl) (by kernel_rfl) (by kernel_rfl) (by decide) (fun _ _ _ _ _ h => h) ?tg11 ?ty11 (by assumption) ?tr11
      case ti11 => (simp only [List.getElem?_toArray, List.getElem?_cons_succ, List.getElem?_cons_zero]; rfl)
      case td11 => exact rfl
      case tg11 => exact rfl
      case ty11 => (intro w hSw; (try dsimp only at hSw); go_split_ands; go_simp; try with_reducible rfl)
      simp only [List.setIfInBounds_toArray, List.set_cons_zero, List.set_cons_succ]
      refine' takeV 12 (oi := _) (d := _) (v := _) ?ti12 ?td12 (by kernel_rfl) (by kernel_rfl) (by kernel_rfl) (by kernel_rfl) (by decide) (fun _ _ _ _ _ h => h) ?tg12 ?ty12 (by assumption) ?tr12
      case ti12 => (simp only [List.getElem?_toArray, List.getElem?_cons_succ, List.getElem?_cons_zero]; rfl)
      case td12 => exact rfl
      case tg12 => exact rfl
      case ty12 => (intro w hSw; (try dsimp only at hSw); go_split_ands; go_simp; try with_reducible rfl)
      simp only [List.setIfInBounds_toArray, List.set_cons_zero, List.set_cons_succ]
      refine' takeV 7 (oi := _) (d := _) (v := _) ?ti13 ?td13 (by kernel_rfl) (by kernel_rfl) (by kernel_rfl) (by kernel_rfl) (by decide) (fun _ _ _ _ _ h => h) ?tg13 ?ty13 (by assumption) ?tr13
      case ti13 => (simp only [List.getElem?_toArray, List.getElem?_cons_succ, List.getElem?_cons_zero]; rfl)
      case td13 => exact rfl
      case tg13 => exact rfl
      case ty13 => (intro w hSw; (try dsimp only at hSw); rw [exec_slice_to (.tmp 25) (.tmp 26) rfl (A := A) (n := n) (c := c) (i := p) rfl rfl (Nat.le_trans hpn hcap) w])
      simp only [List.setIfInBounds_toArray, List.set_cons_zero, List.set_cons_succ]
      refine' takeV 13 (oi := _) (d := _) (v := _) ?ti14 ?td14 (by kernel_rfl) (by kernel_rfl) (by kernel_rfl) (by kernel_rfl) (by decide) (fun _ _ _ _ _ h => h) ?tg14 ?ty14 (by assumption) ?tr14
      case ti14 => (simp only [List.getElem?_toArray, List.getElem?_cons_succ, List.getElem?_cons_zero]; rfl)
      case td14 => exact rfl
      case tg14 => exact rfl
      case ty14 => (intro w hSw; (try dsimp only at hSw); rw [exec_slice_from (.tmp 31) (.tmp 32) rfl (A := A) (n := n) (c := c) (i := p) rfl rfl hpn w])
      simp only [List.setIfInBounds_toArray, List.set_cons_zero, List.set_cons_succ]
      obtain ⟨V0, hV0⟩ : ∃ V0, V0 = W.drew := ⟨_, rfl⟩
      have B0 : Hid (Below W.heap.size W V0) := by rw [hV0]; exact (Below.refl _ _).drew
      rw [← hV0] at hHeld ⊢
      clear hV0
      have keepS : ∀ wa wb : World, (fun V => V.cell? ⟨w.heap.size, 0, none⟩ = some (.int .u8 (k : Int)) ∧ V.cell? ⟨w.heap.size, 1, none⟩ = some (.int .u8 (l : Int)) ∧ V.cell? ⟨w.heap.size, 2, none⟩ = some (.slice A n c) ∧ V.cell? ⟨w.heap.size + 1, 0, none⟩ = some (.slice A1 n1 c1) ∧ V.cell? ⟨w.heap.size + 1, 1, none⟩ = some (.slice A2 n2 c2) ∧ V.cell? ⟨w.heap.size + 1, 2, none⟩ = some (.int .i64 x.len) ∧ V.cell? ⟨w.heap.size + 1, 3, none⟩ = some (.int .u32 (x.chain.1 : Int)) ∧ V.cell? ⟨w.heap.size + 1, 4, none⟩ = some (.int .u64 (x.chain.2.1 : Int)) ∧ V.cell? ⟨w.heap.size + 1, 5, none⟩ = some (.int .u16 (x.chain.2.2 : Int)) ∧ V.cell? ⟨w.heap.size + 1, 6, none⟩ = some (.int .u32 (x.child.1 : Int)) ∧ V.cell? ⟨w.heap.size + 1, 7, none⟩ = some (.int .u64 (x.child.2.1 : Int)) ∧ V.cell? ⟨w.heap.size + 1, 8, none⟩ = some (.int .u16 (x.child.2.2 : Int)) ∧ Below W.heap.size W V) wa → Below wa.heap.size wa wb → (fun V => V.cell? ⟨w.heap.size, 0, none⟩ = some (.int .u8 (k : Int)) ∧ V.cell? ⟨w.heap.size, 1, none⟩ = some (.int .u8 (l : Int)) ∧ V.cell? ⟨w.heap.size, 2, none⟩ = some (.slice A n c) ∧ V.cell? ⟨w.heap.size + 1, 0, none⟩ = some (.slice A1 n1 c1) ∧ V.cell? ⟨w.heap.size + 1, 1, none⟩ = some (.slice A2 n2 c2) ∧ V.cell? ⟨w.heap.size + 1, 2, none⟩ = some (.int .i64 x.len) ∧ V.cell? ⟨w.heap.size + 1, 3, none⟩ = some (.int .u32 (x.chain.1 : Int)) ∧ V.cell? ⟨w.heap.size + 1, 4, none⟩ = some (.int .u64 (x.chain.2.1 : Int)) ∧ V.cell? ⟨w.heap.size + 1, 5, none⟩ = some (.int .u16 (x.chain.2.2 : Int)) ∧ V.cell? ⟨w.heap.size + 1, 6, none⟩ = some (.int .u32 (x.child.1 : Int)) ∧ V.cell? ⟨w.heap.size + 1, 7, none⟩ = some (.int .u64 (x.child.2.1 : Int)) ∧ V.cell? ⟨w.heap.size + 1, 8, none⟩ = some (.int .u16 (x.child.2.2 : Int)) ∧ Below W.heap.size W V) wb := fun wa wb h hb => TR.out wb (h.2.2.2.2.2.2.2.2.2.2.2.2.trans (hb.mono (by have := h.2.2.2.2.2.2.2.2.2.2.2.2.size; omega)))
      have hr15 : ∀ (V : World) (g g' : Nat), Below W.heap.size W V → Blk V g' 46 (enC A1 n1 c1 A2 n2 c2 x.len x.chain x.child).toArray → Blk V g 22 [Value.slice A p c, .slice (some ⟨g', 0, none⟩) 1 1, .slice (cutA A c p) (n - p) (c - p)].toArray →
          Calls Try.prog 48 #[.int .u8 (k : Int), .int .u8 (l : Int), .slice (some ⟨g, 0, none⟩) 3 3] V fun e w' => ∃ A' c', e = .returned (NdV k l A' (n + 1) c') ∧ OwnN w' V.heap.size A' (n + 1) c' L ∧ Below V.heap.size V w' := fun V g g' hb hg' hg => by
        have hRV := HR.out.below hb
        have := node_any k l _ 3 3 [es.take p, [x], es.drop p] V (RdLL.three hg (hRV.take p hpn) (RdL.single hg' (HR1.out.below hb) (HR2.out.below hb)) (hRV.cutA p hpn))
        rw [show [es.take p, [x], es.drop p].flatten = L from HL.out, HLL.out] at this
        exact this (by omega) HSL.out
      have s0 := B0.out.size
      refine stepG2 9 16 (by kernel_rfl) ?_ ?_
      · refine StepOf.mk 9 (by simp only [List.getElem?_toArray, List.getElem?_cons_succ, List.getElem?_cons_zero]; rfl) (fun K hK => ?_)
        go_simp
        obtain ⟨ws1, hw1⟩ : ∃ wx : World, wx = V0.alloc (.cells (enC A1 n1 c1 A2 n2 c2 x.len x.chain x.child).toArray 46) := ⟨_, rfl⟩
        rw [← hw1]
        have hbs1 : Below V0.heap.size V0 ws1 := by rw [hw1]; exact below_new _ _
        have nbs1 : Blk ws1 V0.heap.size 46 (enC A1 n1 c1 A2 n2 c2 x.len x.chain x.child).toArray := by rw [hw1]; exact Blk.new _ _ _
        have szs1 : V0.heap.size < ws1.heap.size := by rw [hw1]; simp
        clear hw1
        have ges1 : W.heap.size ≤ V0.heap.size := (hHeld).2.2.2.2.2.2.2.2.2.2.2.2.size
        refine hK.out _ _ ?tu1 (fun hs1 => ?_)
        case tu1 => exact keepS _ _ hHeld hbs1
        clear hK K
        refine stepG2 14 16 (by kernel_rfl) ?_ ?_
        · refine StepOf.mk 14 (by simp only [List.getElem?_toArray, List.getElem?_cons_succ, List.getElem?_cons_zero]; rfl) (fun K hK => ?_)
          go_simp
          obtain ⟨ws2, hw2⟩ : ∃ wx : World, wx = ws1.alloc (.cells [Value.slice A p c, .slice (some ⟨V0.heap.size, 0, none⟩) 1 1, .slice (cutA A c p) (n - p) (c - p)].toArray 22) := ⟨_, rfl⟩
          rw [← hw2]
          have hbs2 : Below ws1.heap.size ws1 ws2 := by rw [hw2]; exact below_new _ _
          have nbs2 : Blk ws2 ws1.heap.size 22 [Value.slice A p c, .slice (some ⟨V0.heap.size, 0, none⟩) 1 1, .slice (cutA A c p) (n - p) (c - p)].toArray := by rw [hw2]; exact Blk.new _ _ _
          have szs2 : ws1.heap.size < ws2.heap.size := by rw [hw2]; simp
          clear hw2
          have ges2 : W.heap.size ≤ ws1.heap.size := (hs1).2.2.2.2.2.2.2.2.2.2.2.2.size
          refine hK.out _ _ ?tu2 (fun hs2 => ?_)
          case tu2 => exact keepS _ _ hs1 hbs2
          clear hK K
          have nb9_2 := nbs1.below hbs2 nbs1.lt
          refine stepG2 15 16 (by kernel_rfl) ?_ ?_
          · refine StepOf.mk 15 (by simp only [List.getElem?_toArray, List.getElem?_cons_succ, List.getElem?_cons_zero]; rfl) (fun K hK => ?_)
            go_simp
            refine (hr15 _ _ _ (hs2).2.2.2.2.2.2.2.2.2.2.2.2 nb9_2 nbs2).mono ?_
            rintro e ws3 ⟨A9, c9, rfl, fx3, hbs3⟩
            have szs3 := hbs3.size
            refine hK.out _ _ ?tu3 (fun hs3 => ?_)
            case tu3 => exact keepS _ _ hs2 hbs3
            clear hK K
            have nb9_3 := nb9_2.below hbs3 nb9_2.lt
            have nb14_3 := nbs2.below hbs3 nbs2.lt
            refine stepG 16 (by kernel_rfl) (by simp only [List.getElem?_toArray, List.getElem?_cons_succ, List.getElem?_cons_zero]; rfl) (fun K hK => ?_)
            go_simp
            obtain ⟨ws4, hw4⟩ : ∃ wx : World, wx = ws3.alloc (.cells [Value.int .u8 0, .int .u8 0, .slice none 0 0].toArray 24) := ⟨_, rfl⟩
            rw [← hw4]
            have hbs4 : Below ws3.heap.size ws3 ws4 := by rw [hw4]; exact below_new _ _
            have nbs4 : Blk ws4 ws3.heap.size 24 [Value.int .u8 0, .int .u8 0, .slice none 0 0].toArray := by rw [hw4]; exact Blk.new _ _ _
            have szs4 : ws3.heap.size < ws4.heap.size := by rw [hw4]; simp
            clear hw4
            have ges4 : W.heap.size ≤ ws3.heap.size := (hs3).2.2.2.2.2.2.2.2.2.2.2.2.size
            refine hK.out _ _ ?tu4 (fun hs4 => ?_)
            case tu4 => exact keepS _ _ hs3 hbs4
            clear hK K
            have nb9_4 := nb9_3.below hbs4 nb9_3.lt
            have nb14_4 := nb14_3.below hbs4 nb14_3.lt
            have fy15_4 := fx3.below hbs4
            have hG9 : OwnN ws4 W.heap.size A9 (n + 1) c9 L := (fy15_4).mono (by omega)
            have hSB := (hs4).2.2.2.2.2.2.2.2.2.2.2.2
            have hz1 := nbs4
            have hq1 : W.heap.size ≤ ws3.heap.size := by omega
            clear hHeld
            refine stepG 17 (by kernel_rfl) (by simp only [List.getElem?_toArray, List.getElem?_cons_succ, List.getElem?_cons_zero]; rfl) (fun K hK => ?_)
            refine step_store_blk rfl 24 (.tmp 8) (.tmp 35) rfl rfl (cs := [.int .u8 (k : Int), .int .u8 (l : Int), .slice A9 (n + 1) c9]) rfl hz1 rfl infoNd (nd_one _ _ _ _ _) ?_
            intro wa hka hga
            refine hK.out _ _ ?ts15 (fun hHeld => ?_)
            case ts15 => ((try dsimp only); exact TR.out _ (hSB.grown hga (by have := hSB.size; omega) (by intro q hq; simp at hq; omega)))
            clear hK K
            refine doneG (by kernel_rfl) ?_ _
            go_wp2_with fail
            go_meet
            exact ⟨_, A9, c9, rfl, hq1, hka, hG9.keptE hz1 (by decide) (by decide) hga, hSB.grown hga (by have := hSB.size; omega) (by intro q hq; simp at hq; omega)⟩
          · refine StepOf.mk 16 (by simp only [List.getElem?_toArray, List.getElem?_cons_succ, List.getElem?_cons_zero]; rfl) (fun K hK => ?_)
            go_simp
            obtain ⟨ws5, hw5⟩ : ∃ wx : World, wx = ws2.alloc (.cells [Value.int .u8 0, .int .u8 0, .slice none 0 0].toArray 24) := ⟨_, rfl⟩
            rw [← hw5]
            have hbs5 : Below ws2.heap.size ws2 ws5 := by rw [hw5]; exact below_new _ _
            have nbs5 : Blk ws5 ws2.heap.size 24 [Value.int .u8 0, .int .u8 0, .slice none 0 0].toArray := by rw [hw5]; exact Blk.new _ _ _
            have szs5 : ws2.heap.size < ws5.heap.size := by rw [hw5]; simp
            clear hw5
            have ges5 : W.heap.size ≤ ws2.heap.size := (hs2).2.2.2.2.2.2.2.2.2.2.2.2.size
            refine hK.out _ _ ?tu5 (fun hs5 => ?_)
            case tu5 => exact keepS _ _ hs2 hbs5
            clear hK K
            have nb9_5 := nb9_2.below hbs5 nb9_2.lt
            have nb14_5 := nbs2.below hbs5 nbs2.lt
            refine stepG 15 (by kernel_rfl) (by simp only [List.getElem?_toArray, List.getElem?_cons_succ, List.getElem?_cons_zero]; rfl) (fun K hK => ?_)
            go_simp
            refine (hr15 _ _ _ (hs5).2.2.2.2.2.2.2.2.2.2.2.2 nb9_5 nb14_5).mono ?_
            rintro e ws6 ⟨A9, c9, rfl, fx6, hbs6⟩
            have szs6 := hbs6.size
            refine hK.out _ _ ?tu6 (fun hs6 => ?_)
            case tu6 => exact keepS _ _ hs5 hbs6
            clear hK K
            have nb9_6 := nb9_5.below hbs6 nb9_5.lt
            have nb14_6 := nb14_5.below hbs6 nb14_5.lt
            have nb16_6 := nbs5.below hbs6 nbs5.lt
            have hG9 : OwnN ws6 W.heap.size A9 (n + 1) c9 L := (fx6).mono (by omega)
            have hSB := (hs6).2.2.2.2.2.2.2.2.2.2.2.2
            have hz1 := nb16_6
            have hq1 : W.heap.size ≤ ws2.heap.size := by omega
            clear hHeld
            refine stepG 17 (by kernel_rfl) (by simp only [List.getElem?_toArray, List.getElem?_cons_succ, List.getElem?_cons_zero]; rfl) (fun K hK => ?_)
            refine step_store_blk rfl 24 (.tmp 8) (.tmp 35) rfl rfl (cs := [.int .u8 (k : Int), .int .u8 (l : Int), .slice A9 (n + 1) c9]) rfl hz1 rfl infoNd (nd_one _ _ _ _ _) ?_
            intro wa hka hga
            refine hK.out _ _ ?ts16 (fun hHeld => ?_)
            case ts16 => ((try dsimp only); exact TR.out _ (hSB.grown hga (by have := hSB.size; omega) (by intro q hq; simp at hq; omega)))
            clear hK K
            refine doneG (by kernel_rfl) ?_ _
            go_wp2_with fail
            go_meet
            exact ⟨_, A9, c9, rfl, hq1, hka, hG9.keptE hz1 (by decide) (by decide) hga, hSB.grown hga (by have := hSB.size; omega) (by intro q hq; simp at hq; omega)⟩
        · refine StepOf.mk 16 (by simp only [List.getElem?_toArray, List.getElem?_cons_succ, List.getElem?_cons_zero]; rfl) (fun K hK => ?_)
          go_simp
          obtain ⟨ws7, hw7⟩ : ∃ wx : World, wx = ws1.alloc (.cells [Value.int .u8 0, .int .u8 0, .slice none 0 0].toArray 24) := ⟨_, rfl⟩
          rw [← hw7]
          have hbs7 : Below ws1.heap.size ws1 ws7 := by rw [hw7]; exact below_new _ _
          have nbs7 : Blk ws7 ws1.heap.size 24 [Value.int .u8 0, .int .u8 0, .slice none 0 0].toArray := by rw [hw7]; exact Blk.new _ _ _
          have szs7 : ws1.heap.size < ws7.heap.size := by rw [hw7]; simp
          clear hw7
          have ges7 : W.heap.size ≤ ws1.heap.size := (hs1).2.2.2.2.2.2.2.2.2.2.2.2.size
          refine hK.out _ _ ?tu7 (fun hs7 => ?_)
          case tu7 => exact keepS _ _ hs1 hbs7
          clear hK K
          have nb9_7 := nbs1.below hbs7 nbs1.lt
          refine stepG 14 (by kernel_rfl) (by simp only [List.getElem?_toArray, List.getElem?_cons_succ, List.getElem?_cons_zero]; rfl) (fun K hK => ?_)
          go_simp
          obtain ⟨ws8, hw8⟩ : ∃ wx : World, wx = ws7.alloc (.cells [Value.slice A p c, .slice (some ⟨V0.heap.size, 0, none⟩) 1 1, .slice (cutA A c p) (n - p) (c - p)].toArray 22) := ⟨_, rfl⟩
          rw [← hw8]
          have hbs8 : Below ws7.heap.size ws7 ws8 := by rw [hw8]; exact below_new _ _
          have nbs8 : Blk ws8 ws7.heap.size 22 [Value.slice A p c, .slice (some ⟨V0.heap.size, 0, none⟩) 1 1, .slice (cutA A c p) (n - p) (c - p)].toArray := by rw [hw8]; exact Blk.new _ _ _
          have szs8 : ws7.heap.size < ws8.heap.size := by rw [hw8]; simp
          clear hw8
          have ges8 : W.heap.size ≤ ws7.heap.size := (hs7).2.2.2.2.2.2.2.2.2.2.2.2.size
          refine hK.out _ _ ?tu8 (fun hs8 => ?_)
          case tu8 => exact keepS _ _ hs7 hbs8
          clear hK K
          have nb9_8 := nb9_7.below hbs8 nb9_7.lt
          have nb16_8 := nbs7.below hbs8 nbs7.lt
          refine stepG 15 (by kernel_rfl) (by simp only [List.getElem?_toArray, List.getElem?_cons_succ, List.getElem?_cons_zero]; rfl) (fun K hK => ?_)
          go_simp
          refine (hr15 _ _ _ (hs8).2.2.2.2.2.2.2.2.2.2.2.2 nb9_8 nbs8).mono ?_
          rintro e ws9 ⟨A9, c9, rfl, fx9, hbs9⟩
          have szs9 := hbs9.size
          refine hK.out _ _ ?tu9 (fun hs9 => ?_)
          case tu9 => exact keepS _ _ hs8 hbs9
          clear hK K
          have nb9_9 := nb9_8.below hbs9 nb9_8.lt
          have nb16_9 := nb16_8.below hbs9 nb16_8.lt
          have nb14_9 := nbs8.below hbs9 nbs8.lt
          have hG9 : OwnN ws9 W.heap.size A9 (n + 1) c9 L := (fx9).mono (by omega)
          have hSB := (hs9).2.2.2.2.2.2.2.2.2.2.2.2
          have hz1 := nb16_9
          have hq1 : W.heap.size ≤ ws1.heap.size := by omega
          clear hHeld
          refine stepG 17 (by kernel_rfl) (by simp only [List.getElem?_toArray, List.getElem?_cons_succ, List.getElem?_cons_zero]; rfl) (fun K hK => ?_)
          refine step_store_blk rfl 24 (.tmp 8) (.tmp 35) rfl rfl (cs := [.int .u8 (k : Int), .int .u8 (l : Int), .slice A9 (n + 1) c9]) rfl hz1 rfl infoNd (nd_one _ _ _ _ _) ?_
          intro wa hka hga
          refine hK.out _ _ ?ts17 (fun hHeld => ?_)
          case ts17 => ((try dsimp only); exact TR.out _ (hSB.grown hga (by have := hSB.size; omega) (by intro q hq; simp at hq; omega)))
          clear hK K
          refine doneG (by kernel_rfl) ?_ _
          go_wp2_with fail
          go_meet
          exact ⟨_, A9, c9, rfl, hq1, hka, hG9.keptE hz1 (by decide) (by decide) hga, hSB.grown hga (by have := hSB.size; omega) (by intro q hq; simp at hq; omega)⟩
      · refine StepOf.mk 16 (by simp only [List.getElem?_toArray, List.getElem?_cons_succ, List.getElem?_cons_zero]; rfl) (fun K hK => ?_)
        go_simp
        obtain ⟨ws10, hw10⟩ : ∃ wx : World, wx = V0.alloc (.cells [Value.int .u8 0, .int .u8 0, .slice none 0 0].toArray 24) := ⟨_, rfl⟩
        rw [← hw10]
        have hbs10 : Below V0.heap.size V0 ws10 := by rw [hw10]; exact below_new _ _
        have nbs10 : Blk ws10 V0.heap.size 24 [Value.int .u8 0, .int .u8 0, .slice none 0 0].toArray := by rw [hw10]; exact Blk.new _ _ _
        have szs10 : V0.heap.size < ws10.heap.size := by rw [hw10]; simp
        clear hw10
        have ges10 : W.heap.size ≤ V0.heap.size := (hHeld).2.2.2.2.2.2.2.2.2.2.2.2.size
        refine hK.out _ _ ?tu10 (fun hs10 => ?_)
        case tu10 => exact keepS _ _ hHeld hbs10
        clear hK K
        refine stepG 9 (by kernel_rfl) (by simp only [List.getElem?_toArray, List.getElem?_cons_succ, List.getElem?_cons_zero]; rfl) (fun K hK => ?_)
        go_simp
        obtain ⟨ws11, hw11⟩ : ∃ wx : World, wx = ws10.alloc (.cells (enC A1 n1 c1 A2 n2 c2 x.len x.chain x.child).toArray 46) := ⟨_, rfl⟩
        rw [← hw11]
        have hbs11 : Below ws10.heap.size ws10 ws11 := by rw [hw11]; exact below_new _ _
        have nbs11 : Blk ws11 ws10.heap.size 46 (enC A1 n1 c1 A2 n2 c2 x.len x.chain x.child).toArray := by rw [hw11]; exact Blk.new _ _ _
        have szs11 : ws10.heap.size < ws11.heap.size := by rw [hw11]; simp
        clear hw11
        have ges11 : W.heap.size ≤ ws10.heap.size := (hs10).2.2.2.2.2.2.2.2.2.2.2.2.size
        refine hK.out _ _ ?tu11 (fun hs11 => ?_)
        case tu11 => exact keepS _ _ hs10 hbs11
        clear hK K
        have nb16_11 := nbs10.below hbs11 nbs10.lt
        refine stepG 14 (by kernel_rfl) (by simp only [List.getElem?_toArray, List.getElem?_cons_succ, List.getElem?_cons_zero]; rfl) (fun K hK => ?_)
        go_simp
        obtain ⟨ws12, hw12⟩ : ∃ wx : World, wx = ws11.alloc (.cells [Value.slice A p c, .slice (some ⟨ws10.heap.size, 0, none⟩) 1 1, .slice (cutA A c p) (n - p) (c - p)].toArray 22) := ⟨_, rfl⟩
        rw [← hw12]
        have hbs12 : Below ws11.heap.size ws11 ws12 := by rw [hw12]; exact below_new _ _
        have nbs12 : Blk ws12 ws11.heap.size 22 [Value.slice A p c, .slice (some ⟨ws10.heap.size, 0, none⟩) 1 1, .slice (cutA A c p) (n - p) (c - p)].toArray := by rw [hw12]; exact Blk.new _ _ _
        have szs12 : ws11.heap.size < ws12.heap.size := by rw [hw12]; simp
        clear hw12
        have ges12 : W.heap.size ≤ ws11.heap.size := (hs11).2.2.2.2.2.2.2.2.2.2.2.2.size
        refine hK.out _ _ ?tu12 (fun hs12 => ?_)
        case tu12 => exact keepS _ _ hs11 hbs12
        clear hK K
        have nb16_12 := nb16_11.below hbs12 nb16_11.lt
        have nb9_12 := nbs11.below hbs12 nbs11.lt
        refine stepG 15 (by kernel_rfl) (by simp only [List.getElem?_toArray, List.getElem?_cons_succ, List.getElem?_cons_zero]; rfl) (fun K hK => ?_)
        go_simp
        refine (hr15 _ _ _ (hs12).2.2.2.2.2.2.2.2.2.2.2.2 nb9_12 nbs12).mono ?_
        rintro e ws13 ⟨A9, c9, rfl, fx13, hbs13⟩
        have szs13 := hbs13.size
        refine hK.out _ _ ?tu13 (fun hs13 => ?_)
        case tu13 => exact keepS _ _ hs12 hbs13
        clear hK K
        have nb16_13 := nb16_12.below hbs13 nb16_12.lt
        have nb9_13 := nb9_12.below hbs13 nb9_12.lt
        have nb14_13 := nbs12.below hbs13 nbs12.lt
        have hG9 : OwnN ws13 W.heap.size A9 (n + 1) c9 L := (fx13).mono (by omega)
        have hSB := (hs13).2.2.2.2.2.2.2.2.2.2.2.2
        have hz1 := nb16_13
        have hq1 : W.heap.size ≤ V0.heap.size := by omega
        clear hHeld
        refine stepG 17 (by kernel_rfl) (by simp only [List.getElem?_toArray, List.getElem?_cons_succ, List.getElem?_cons_zero]; rfl) (fun K hK => ?_)
        refine step_store_blk rfl 24 (.tmp 8) (.tmp 35) rfl rfl (cs := [.int .u8 (k : Int), .int .u8 (l : Int), .slice A9 (n + 1) c9]) rfl hz1 rfl infoNd (nd_one _ _ _ _ _) ?_
        intro wa hka hga
        refine hK.out _ _ ?ts18 (fun hHeld => ?_)
        case ts18 => ((try dsimp only); exact TR.out _ (hSB.grown hga (by have := hSB.size; omega) (by intro q hq; simp at hq; omega)))
        clear hK K
        refine doneG (by kernel_rfl) ?_ _
        go_wp2_with fail
        go_meet
        exact ⟨_, A9, c9, rfl, hq1, hka, hG9.keptE hz1 (by decide) (by decide) hga, hSB.grown hga (by have := hSB.size; omega) (by intro q hq; simp at hq; omega)⟩
    case rest =>
      obtain ⟨g, A', c', rfl, hg, hkg, ho, hbel⟩ := hcut
      have N1 : Hid (Nin wc g k l A' (n + 1) c' L) := ⟨hkg, ho.rdl HLL.out.symm⟩
      have HO1 := Lib.hid ho
      have HB1 := Lib.hid hbel
      have s1 := hbel.size
      have HM := Lib.hid (right_any k l A' (n + 1) c' L wc N1.out.rd hk hl)
      clear hkg ho hbel d2 TR
      have d0 := N1.out.c0
      have d1 := N1.out.c1
      have d2 := N1.out.c2
      rw [HEE.out] at HM
      go_wp2_with fail
      refine HM.out.mono ?_
      rintro e w1 ⟨rfl, hb1⟩
      have HB2 : Hid (Below W.heap.size W w1) := HB1.out.trans (hb1.mono s1)
      have N2 := Lib.hid (N1.out.below hb1)
      have HO2 := Lib.hid (HO1.out.below hb1)
      have KZ2 : Hid (Blk w1 (w.heap.size + 1 + 1) 24 [Value.int .u8 0, .int .u8 0, .slice none 0 0].toArray) := KZ.out.below HB2.out KZ.out.lt
      have sx := HWB.out.size
      have HX : Hid (Below w.heap.size w w1) := HWB.out.trans (HB2.out.mono sx)
      have sy := HX.out.size
      clear hb1 d0 d1 d2 HM HB1 N1 HO1
      by_cases he : E = 0
      · have hd : (E != 0) = false := by rw [he]; rfl
        have hlz : [Value.int .u8 0, .int .u8 0, .slice none 0 0].length = [Value.int .u8 (k : Int), .int .u8 (l : Int), .slice A' (n + 1) c'].length := rfl
        have hiz : (Try.prog.info? 24).map (·.size) = some [Value.int .u8 (k : Int), .int .u8 (l : Int), .slice A' (n + 1) c'].length := infoNd
        have h1 : ∀ v ∈ [Value.int .u8 (k : Int), .int .u8 (l : Int), .slice A' (n + 1) c'], v.oneCell' = true := nd_one k l A' (n + 1) c'
        have d0 := N2.out.c0
        have d1 := N2.out.c1
        have d2 := N2.out.c2
        go_wp2_with (with_reducible refine wpList_store_blk rfl 24 (.tmp 6) (.tmp 42) rfl rfl (cs := [Value.int .u8 (k : Int), .int .u8 (l : Int), .slice A' (n + 1) c']) rfl KZ2.out hlz hiz h1 ?_; intro w5 hk5 hg5)
        have e0 := hk5.cell 0
        have e1 := hk5.cell 1
        have e2 := hk5.cell 2
        refine bodyPost_ret (v := .tuple #[NdV k l A' (n + 1) c', .int .i64 0]) ?_ rfl ?_
        · simp [results, Try.results27, go_sem, e0, e1, e2]
        · rw [he]
          exact OneP.some_ HLL.out.symm ((HO2.out.keptE KZ2.out (by decide) (by decide) hg5).mono (by omega)) (HX.out.grown hg5 sy (by intro q hq; simp at hq; omega))
      · have hd : (E != 0) = true := by rw [bne_iff_ne]; exact he
        have HEN := Lib.hid he
        have hiz : (Try.prog.info? 24).map (·.size) = some [Value.int .u8 0, .int .u8 0, .slice none 0 0].length := infoNd
        have h1 : ∀ v ∈ [Value.int .u8 0, .int .u8 0, .slice none 0 0], v.oneCell' = true := nd_one 0 0 none 0 0
        clear he
        go_wp2_with (with_reducible refine wpList_store_blk rfl 24 (.tmp 6) (.tmp 40) rfl rfl (cs := [Value.int .u8 0, .int .u8 0, .slice none 0 0]) rfl KZ2.out z3len hiz h1 ?_; intro w5 hk5 hg5)
        have e0 := hk5.cell 0
        have e1 := hk5.cell 1
        have e2 := hk5.cell 2
        refine bodyPost_ret (v := .tuple #[NdV 0 0 none 0 0, .int .i64 E]) ?_ rfl (OneP.none_ HEN.out (HX.out.grown hg5 sy (by intro q hq; simp at hq; omega)))
        simp [results, Try.results27, go_sem, e0, e1, e2]
end Go.Proofs.Ytgihcjmcefdkiaa
