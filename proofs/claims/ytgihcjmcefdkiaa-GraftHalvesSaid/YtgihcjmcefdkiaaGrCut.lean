/- Contracts: graft.cut. -/
import Derived.Test.YtgihcjmcefdkiaaGrNode
import Derived.Deep.DeepCutAuto
set_option linter.unusedVariables false
set_option linter.unusedSimpArgs false
namespace Go.Proofs.Ytgihcjmcefdkiaa
open Go.RowKit

theorem RdL.take {w : World} {A : Option Addr} {n c : Nat} {es : List Ent} (h : RdL w A n c es) (i : Nat) (hi : i ≤ n) : RdL w A i c (es.take i) :=
  ⟨by rw [List.length_take, ← h.len]; omega, Nat.le_trans hi h.cap, h.max, fun h0 => by
    obtain ⟨b, o, e, hc⟩ := h.at_ (by omega)
    refine ⟨b, o, e, fun j hj => ?_⟩
    obtain ⟨A1, n1, c1, A2, n2, c2, h1, h2, h3⟩ := hc j (by omega)
    have he : (es.take i).getD j ent0 = es.getD j ent0 := by simp [List.getD, List.getElem?_take, hj]
    rw [he]
    exact ⟨A1, n1, c1, A2, n2, c2, h1, h2, h3⟩⟩
theorem RdL.drop {w : World} {b o n c : Nat} {es : List Ent} (h : RdL w (some ⟨b, o, none⟩) n c es) (i : Nat) (hi : i ≤ n) : RdL w (some ⟨b, o + i * 9, none⟩) (n - i) (c - i) (es.drop i) :=
  ⟨by rw [List.length_drop, ← h.len], by have := h.cap; omega, by have := h.max; omega, fun h0 => by
    obtain ⟨b', o', e, hc⟩ := h.at_ (by omega)
    injection e with e
    injection e with e1 e2
    subst e1; subst e2
    refine ⟨b, o + i * 9, rfl, fun j hj => ?_⟩
    obtain ⟨A1, n1, c1, A2, n2, c2, h1, h2, h3⟩ := hc (i + j) (by omega)
    have he : (es.drop i).getD j ent0 = es.getD (i + j) ent0 := by simp [List.getD, List.getElem?_drop]
    rw [he]
    exact ⟨A1, n1, c1, A2, n2, c2, by rw [show o + i * 9 + j * 9 = o + (i + j) * 9 by omega]; exact h1, h2, h3⟩⟩
theorem RdLL.one {w : World} {g n c : Nat} {A : Option Addr} {es : List Ent} (hb : Blk w g 22 [Value.slice A n c].toArray) (h : RdL w A n c es) : RdLL w (some ⟨g, 0, none⟩) 1 1 [es] :=
  ⟨rfl, Nat.le_refl _, by unfold maxLen; omega, fun _ => ⟨g, 0, rfl, fun j hj => by
    obtain rfl : j = 0 := by omega
    exact ⟨A, n, c, hb.cell 0, h⟩⟩⟩
theorem shortE.take {es : List Ent} (h : shortE es) (i : Nat) : shortE (es.take i) := fun j hj => by
  rw [List.length_take] at hj
  have : (es.take i).getD j ent0 = es.getD j ent0 := by simp [List.getD, List.getElem?_take, show j < i by omega]
  rw [this]; exact h j (by omega)
theorem shortE.drop {es : List Ent} (h : shortE es) (i : Nat) : shortE (es.drop i) := fun j hj => by
  rw [List.length_drop] at hj
  have : (es.drop i).getD j ent0 = es.getD (i + j) ent0 := by simp [List.getD, List.getElem?_drop]
  rw [this]; exact h (i + j) (by omega)
theorem infoNd : (Try.prog.info? 24).map (·.size) = some 3 := by kernel_rfl
theorem nd_one (k l : Nat) (A : Option Addr) (n c : Nat) : ∀ v ∈ [Value.int .u8 (k : Int), .int .u8 (l : Int), .slice A n c], v.oneCell' = true := by
  intro v hv
  simp only [List.mem_cons, List.not_mem_nil, or_false] at hv
  rcases hv with rfl | rfl | rfl <;> rfl
/-- A node without the first one's key. -/
def nk : List Ent → List Ent
  | [] => []
  | x :: r => { x with key := [] } :: r
theorem nk_length (es : List Ent) : (nk es).length = es.length := by cases es <;> rfl
theorem nk_zero {es : List Ent} (h : 0 < es.length) : (nk es).getD 0 ent0 = { es.getD 0 ent0 with key := [] } := by
  cases es with
  | nil => exact absurd h (by simp)
  | cons x r => rfl
theorem nk_succ (es : List Ent) (j : Nat) : (nk es).getD (j + 1) ent0 = es.getD (j + 1) ent0 := by cases es <;> rfl
theorem OwnN.lt {w : World} {H n c : Nat} {A : Option Addr} {es : List Ent} (h : OwnN w H A n c es) : ∀ a, A = some a → a.block < w.heap.size := by
  obtain ⟨css, h1, _⟩ := h
  exact h1.lt
theorem OwnN.ge {w : World} {H n c : Nat} {A : Option Addr} {es : List Ent} (h : OwnN w H A n c es) : ∀ a, A = some a → H ≤ a.block := by
  obtain ⟨css, h1, _⟩ := h
  exact h1.ge
theorem flat_set1 (css : List (List Value)) (i t : Nat) (v : Value) (hl : ∀ c ∈ css, c.length = 9) (hi : i < css.length) (ht : t < 9) : css.flatten.set (i * 9 + t) v = (css.set i ((css.getD i []).set t v)).flatten := by
  have hci : (css.getD i []).length = 9 := by
    have := hl css[i] (List.getElem_mem hi)
    simpa [List.getD, hi] using this
  have hl' : ∀ c ∈ css.set i ((css.getD i []).set t v), c.length = 9 := fun c h => by
    rcases List.mem_or_eq_of_mem_set h with h | h
    · exact hl c h
    · rw [h, List.length_set]; exact hci
  apply List.ext_getElem?
  intro q
  by_cases hq : q < css.length * 9
  · obtain ⟨j, r, hr, rfl⟩ : ∃ j r, r < 9 ∧ q = j * 9 + r := ⟨q / 9, q % 9, by omega, by omega⟩
    have hj : j < css.length := by omega
    rw [flat9 _ j r hl' (by simpa using hj) hr]
    by_cases e : j = i
    · subst e
      have e2 : (css.set j ((css.getD j []).set t v)).getD j [] = (css.getD j []).set t v := by simp [List.getD, hj]
      rw [e2]
      by_cases e3 : r = t
      · subst e3
        rw [List.getElem?_set_self (by rw [flat9_length css hl]; exact hq), List.getElem?_set_self (by omega)]
      · rw [List.getElem?_set_ne (by omega), List.getElem?_set_ne (by omega), flat9 _ j r hl hj hr]
    · have e2 : (css.set i ((css.getD i []).set t v)).getD j [] = css.getD j [] := by simp [List.getD, List.getElem?_set_ne (Ne.symm e)]
      rw [e2, List.getElem?_set_ne (by omega), flat9 _ j r hl hj hr]
  · rw [List.getElem?_eq_none (by rw [List.length_set, flat9_length css hl]; omega), List.getElem?_eq_none (by rw [flat9_length _ hl']; simp; omega)]
/-- The first one's key is struck. -/
theorem OwnN.key0 {w : World} {H g n c : Nat} {es : List Ent} (h : OwnN w H (some ⟨g, 0, none⟩) n c es) (hn : 0 < n) (he : n = es.length) : OwnN (w.setCell ⟨g, 0, none⟩ (.slice none 0 0)) H (some ⟨g, 0, none⟩) n c (nk es) := by
  obtain ⟨css, h1, h2⟩ := h
  obtain ⟨k1, k2⟩ := h1.1.stored 0 (.slice none 0 0)
  have hl : 0 < css.length := by rw [h1.2.1]; exact hn
  have e := flat_set1 css 0 0 (.slice none 0 0) h1.2.2 hl (by omega)
  simp only [Nat.zero_mul, Nat.zero_add] at e
  rw [e] at k1
  obtain ⟨B1, n1, d1, B2, n2, d2, hcs, o1, o2⟩ := h2 0 hn
  rw [hcs] at k1
  have hset : (enC B1 n1 d1 B2 n2 d2 (es.getD 0 ent0).len (es.getD 0 ent0).chain (es.getD 0 ent0).child).set 0 (.slice none 0 0) = enC none 0 0 B2 n2 d2 (es.getD 0 ent0).len (es.getD 0 ent0).chain (es.getD 0 ent0).child := rfl
  rw [hset] at k1
  refine ⟨_, ⟨k1, by rw [List.length_set]; exact h1.2.1, fun c hm => ?_⟩, fun j hj => ?_⟩
  · rcases List.mem_or_eq_of_mem_set hm with hm | hm
    · exact h1.2.2 c hm
    · rw [hm]; rfl
  · cases j with
    | zero =>
      have e2 : (css.set 0 (enC none 0 0 B2 n2 d2 (es.getD 0 ent0).len (es.getD 0 ent0).chain (es.getD 0 ent0).child)).getD 0 [] = enC none 0 0 B2 n2 d2 (es.getD 0 ent0).len (es.getD 0 ent0).chain (es.getD 0 ent0).child := by simp [List.getD, hl]
      rw [e2, nk_zero (by omega)]
      exact ⟨none, 0, 0, B2, n2, d2, rfl, Own.nil _ _, o2.keptOE h1 (grown_setCell _ _ _ _)⟩
    | succ j =>
      have e2 : (css.set 0 (enC none 0 0 B2 n2 d2 (es.getD 0 ent0).len (es.getD 0 ent0).chain (es.getD 0 ent0).child)).getD (j + 1) [] = css.getD (j + 1) [] := by simp [List.getD]
      rw [e2, nk_succ]
      exact (h2 (j + 1) hj).keptOE h1 (grown_setCell _ _ _ _)
/-- Another row of entries is written. -/
theorem OwnN.keptN {w w' : World} {H H' g n c m c' : Nat} {A : Option Addr} {es es' : List Ent} (h : OwnN w H A n c es) (h' : OwnN w H' (some ⟨g, 0, none⟩) m c' es') (hd : ∀ a, A = some a → a.block ≠ g) (hg : w.grownBy w' (some g)) : OwnN w' H A n c es := by
  obtain ⟨css, h1, h2⟩ := h
  obtain ⟨css', h1', _⟩ := h'
  refine ⟨css, ⟨World.ownsRow.kept h1.1 hg ?_, h1.2⟩, fun j hj => (h2 j hj).keptOE h1' hg⟩
  cases A with
  | none => exact .inl rfl
  | some a => exact .inr (by have := hd a rfl; simpa [Value.ownBlock] using this)
/-- The second half of a node that is cut. -/
def cutB (k : Nat) (es : List Ent) (i : Nat) : List Ent := if k = 2 then nk (es.drop i) else es.drop i
theorem cutB_length (k : Nat) (es : List Ent) (i : Nat) : (cutB k es i).length = es.length - i := by
  unfold cutB; split
  · rw [nk_length, List.length_drop]
  · rw [List.length_drop]
theorem node_one (k l g : Nat) (A : Option Addr) (n c : Nat) (es : List Ent) (w : World) (hb : Blk w g 22 [Value.slice A n c].toArray) (h : RdL w A n c es) (hN : n ≤ 10000) (hs : shortE es) :
    Calls Try.prog 48 #[.int .u8 (k : Int), .int .u8 (l : Int), .slice (some ⟨g, 0, none⟩) 1 1] w fun e w' => ∃ A' c', e = .returned (NdV k l A' n c') ∧ OwnN w' w.heap.size A' n c' es ∧ Below w.heap.size w w' := by
  have e : [es].flatten = es := by simp
  have := node_any k l _ 1 1 [es] w (RdLL.one hb h) (by rw [e, ← h.len]; exact hN) (by rw [e]; exact hs)
  rwa [e, ← h.len] at this
set_option maxRecDepth 100000 in
set_option maxHeartbeats 3200000 in
theorem cut_any (k l : Nat) (A : Option Addr) (n c : Nat) (es : List Ent) (i : Nat) (w : World) (h : RdL w A n c es) (hk : k < 256) (hi1 : 1 ≤ i) (hin : i < n) (hN : n ≤ 10000) (hs : shortE es) :
    Calls Try.prog 43 #[NdV k l A n c, .int .i64 (i : Int)] w fun e w' => ∃ A1 c1 A2 c2 B m d, e = .returned (.tuple #[NdV k l A1 i c1, NdV k l A2 (n - i) c2, .slice B m d]) ∧ OwnN w' w.heap.size A1 i c1 (es.take i) ∧ OwnN w' w.heap.size A2 (n - i) c2 (cutB k es i) ∧ Own w' w.heap.size B m d (es.getD i ent0).key ∧ Below w.heap.size w w' ∧ (∀ a a', A1 = some a → A2 = some a' → a.block ≠ a'.block) := by
  have hcap := h.cap
  have hmax := h.max
  unfold maxLen at hmax
  have HLn := Lib.hid h.len
  have HS := Lib.hid hs
  obtain ⟨b, o, rfl, _⟩ := h.at_ (by omega)
  obtain ⟨W, hW⟩ : ∃ W, W = ((w.alloc (.cells #[.int .u8 (k : Int), .int .u8 (l : Int), .slice (some ⟨b, o, none⟩) n c] 24)).alloc (.cells #[.int .u8 0, .int .u8 0, .slice none 0 0] 24)).alloc (.cells #[.int .u8 0, .int .u8 0, .slice none 0 0] 24) := ⟨_, rfl⟩
  have HWB : Hid (Below w.heap.size w W) := by rw [hW]; exact ((below_new _ _).alloc (by simp) _).alloc (by simp; omega) _
  have KN : Hid (Blk W w.heap.size 24 (ndA k l (some ⟨b, o, none⟩) n c)) := by rw [hW]; exact ((Blk.new _ _ _).alloc _).alloc _
  have KZ1 : Hid (Blk W (w.heap.size + 1) 24 [Value.int .u8 0, .int .u8 0, .slice none 0 0].toArray) := by rw [hW]; exact (Blk.new' _ _ _ _ (by simp)).alloc _
  have KZ2 : Hid (Blk W (w.heap.size + 1 + 1) 24 [Value.int .u8 0, .int .u8 0, .slice none 0 0].toArray) := by rw [hW]; exact Blk.new' _ _ _ _ (by simp)
  have HR := Lib.hid h
  have HW := Lib.hid hW
  have hWs := KZ2.out.lt
  have i1 : (0 : Int) ≤ (i : Int) := by omega
  have i2 : (i : Int) ≤ (n : Int) := by omega
  have i3 : (n : Int) ≤ (c : Int) := by omega
  have i4 : (i : Int) ≤ (c : Int) := by omega
  have i5 : ((n : Int) - (i : Int)).toNat = n - i := by omega
  have i6 : ((c : Int) - (i : Int)).toNat = c - i := by omega
  have i7 : ¬ (c = i) := by omega
  clear h hs hW
  go_enter Try.func43, Try.ntmps43
  go_upto_region 1 with fail
  rw [← HW.out]
  have TR : Hid (∀ V, Below (w.heap.size + 1) W V → V.cell? ⟨w.heap.size, 0, none⟩ = some (.int .u8 (k : Int)) ∧ V.cell? ⟨w.heap.size, 1, none⟩ = some (.int .u8 (l : Int)) ∧ V.cell? ⟨w.heap.size, 2, none⟩ = some (.slice (some ⟨b, o, none⟩) n c) ∧ Below (w.heap.size + 1) W V) := fun V hb => by
    have k1 := KN.out.below hb (by omega)
    exact ⟨k1.cell 0, k1.cell 1, k1.cell 2, hb⟩
  go_cut [6] (fun s6 wx => ∃ A1 c1 A2 c2, s6 = .slice none 0 0 ∧ Blk wx (w.heap.size + 1) 24 (ndA k l A1 i c1) ∧ Blk wx (w.heap.size + 1 + 1) 24 (ndA k l A2 (n - i) c2) ∧ OwnN wx W.heap.size A1 i c1 (es.take i) ∧ OwnN wx W.heap.size A2 (n - i) c2 (es.drop i) ∧ (∀ a a', A1 = some a → A2 = some a' → a.block ≠ a'.block) ∧ Below (w.heap.size + 1) W wx)
  case first =>
    refine region_gate 21 (fun V => V.cell? ⟨w.heap.size, 0, none⟩ = some (.int .u8 (k : Int)) ∧ V.cell? ⟨w.heap.size, 1, none⟩ = some (.int .u8 (l : Int)) ∧ V.cell? ⟨w.heap.size, 2, none⟩ = some (.slice (some ⟨b, o, none⟩) n c) ∧ Below (w.heap.size + 1) W V) (by kernel_rfl) ?th1 (fun hHeld => ?tk1)
    case th1 => ((try dsimp only); exact TR.out _ (Below.refl _ _).drew)
    refine' takeV 0 (oi := _) (d := _) (v := _) ?ti2 ?td2 (by kernel_rfl) (by kernel_rfl) (by kernel_rfl) (by kernel_rfl) (by decide) (fun _ _ _ _ _ h => h) ?tg2 ?ty2 (by assumption) ?tr2
    case ti2 => (simp only [List.getElem?_toArray, List.getElem?_cons_succ, List.getElem?_cons_zero]; rfl)
    case td2 => exact rfl
    case tg2 => exact rfl
    case ty2 => (intro w hSw; (try dsimp only at hSw); go_split_ands; go_simp; try with_reducible rfl)
    simp only [List.setIfInBounds_toArray, List.set_cons_zero, List.set_cons_succ]
    refine' takeV 1 (oi := _) (d := _) (v := _) ?ti3 ?td3 (by kernel_rfl) (by kernel_rfl) (by kernel_rfl) (by kernel_rfl) (by decide) (fun _ _ _ _ _ h => h) ?tg3 ?ty3 (by assumption) ?tr3
    case ti3 => (simp only [List.getElem?_toArray, List.getElem?_cons_succ, List.getElem?_cons_zero]; rfl)
    case td3 => exact rfl
    case tg3 => exact rfl
    case ty3 => (intro w hSw; (try dsimp only at hSw); go_split_ands; go_simp; try with_reducible rfl)
    simp only [List.setIfInBounds_toArray, List.set_cons_zero, List.set_cons_succ]
    refine' takeV 2 (oi := _) (d := _) (v := _) ?ti4 ?td4 (by kernel_rfl) (by kernel_rfl) (by kernel_rfl) (by kernel_rfl) (by decide) (fun _ _ _ _ _ h => h) ?tg4 ?ty4 (by assumption) ?tr4
    case ti4 => (simp only [List.getElem?_toArray, List.getElem?_cons_succ, List.getElem?_cons_zero]; rfl)
    case td4 => exact rfl
    case tg4 => exact rfl
    case ty4 => (intro w hSw; (try dsimp only at hSw); go_split_ands; go_simp; try with_reducible rfl)
    simp only [List.setIfInBounds_toArray, List.set_cons_zero, List.set_cons_succ]
    refine' takeV 3 (oi := _) (d := _) (v := _) ?ti5 ?td5 (by kernel_rfl) (by kernel_rfl) (by kernel_rfl) (by kernel_rfl) (by decide) (fun _ _ _ _ _ h => h) ?tg5 ?ty5 (by assumption) ?tr5
    case ti5 => (simp only [List.getElem?_toArray, List.getElem?_cons_succ, List.getElem?_cons_zero]; rfl)
    case td5 => exact rfl
    case tg5 => exact rfl
    case ty5 => (intro w hSw; (try dsimp only at hSw); go_split_ands; go_simp; try with_reducible rfl)
    simp only [List.setIfInBounds_toArray, List.set_cons_zero, List.set_cons_succ]
    refine' takeV 4 (oi := _) (d := _) (v := _) ?ti6 ?td6 (by kernel_rfl) (by kernel_rfl) (by kernel_rfl) (by kernel_rfl) (by decide) (fun _ _ _ _ _ h => h) ?tg6 ?ty6 (by assumption) ?tr6
    case ti6 => (simp only [List.getElem?_toArray, List.getElem?_cons_succ, List.getElem?_cons_zero]; rfl)
    case td6 => exact rfl
    case tg6 => exact rfl
    case ty6 => (intro w hSw; (try dsimp only at hSw); go_split_ands; go_simp; try with_reducible rfl)
    simp only [List.setIfInBounds_toArray, List.set_cons_zero, List.set_cons_succ]
    refine' takeV 5 (oi := _) (d := _) (v := _) ?ti7 ?td7 (by kernel_rfl) (by kernel_rfl) (by kernel_rfl) (by kernel_rfl) (by decide) (fun _ _ _ _ _ h => h) ?tg7 ?ty7 (by assumption) ?tr7
    case ti7 => (simp only [List.getElem?_toArray, List.getElem?_cons_succ, List.getElem?_cons_zero]; rfl)
    case td7 => exact rfl
    case tg7 => exact rfl
    case ty7 => (intro w hSw; (try dsimp only at hSw); go_split_ands; go_simp; try with_reducible rfl)
    simp only [List.setIfInBounds_toArray, List.set_cons_zero, List.set_cons_succ]
    refine' takeV 6 (oi := _) (d := _) (v := _) ?ti8 ?td8 (by kernel_rfl) (by kernel_rfl) (by kernel_rfl) (by kernel_rfl) (by decide) (fun _ _ _ _ _ h => h) ?tg8 ?ty8 (by assumption) ?tr8
    case ti8 => (simp only [List.getElem?_toArray, List.getElem?_cons_succ, List.getElem?_cons_zero]; rfl)
    case td8 => exact rfl
    case tg8 => exact rfl
    case ty8 => (intro w hSw; (try dsimp only at hSw); go_split_ands; go_simp; try with_reducible rfl)
    simp only [List.setIfInBounds_toArray, List.set_cons_zero, List.set_cons_succ]
    refine' takeV 7 (oi := _) (d := _) (v := _) ?ti9 ?td9 (by kernel_rfl) (by kernel_rfl) (by kernel_rfl) (by kernel_rfl) (by decide) (fun _ _ _ _ _ h => h) ?tg9 ?ty9 (by assumption) ?tr9
    case ti9 => (simp only [List.getElem?_toArray, List.getElem?_cons_succ, List.getElem?_cons_zero]; rfl)
    case td9 => exact rfl
    case tg9 => exact rfl
    case ty9 => (intro w hSw; (try dsimp only at hSw); go_split_ands; go_simp; try with_reducible rfl)
    simp only [List.setIfInBounds_toArray, List.set_cons_zero, List.set_cons_succ]
    refine' takeV 10 (oi := _) (d := _) (v := _) ?ti10 ?td10 (by kernel_rfl) (by kernel_rfl) (by kernel_rfl) (by kernel_rfl) (by decide) (fun _ _ _ _ _ h => h) ?tg10 ?ty10 (by assumption) ?tr10
    case ti10 => (simp only [List.getElem?_toArray, List.getElem?_cons_succ, List.getElem?_cons_zero]; rfl)
    case td10 => exact rfl
    case tg10 => exact rfl
    case ty10 => (intro w hSw; (try dsimp only at hSw); go_split_ands; go_simp; try with_reducible rfl)
    simp only [List.setIfInBounds_toArray, List.set_cons_zero, List.set_cons_succ]
    refine' takeV 11 (oi := _) (d := _) (v := _) ?ti11 ?td11 (by kernel_rfl) (by kernel_rfl) (by kernel_rfl) (by kernel_rfl) (by decide) (fun _ _ _ _ _ h => h) ?tg11 ?ty11 (by assumption) ?tr11
    case ti11 => (simp only [List.getElem?_toArray, List.getElem?_cons_succ, List.getElem?_cons_zero]; rfl)
    case td11 => exact rfl
    case tg11 => exact rfl
    case ty11 => (intro w hSw; (try dsimp only at hSw); go_split_ands; go_simp; try with_reducible rfl)
    simp only [List.setIfInBounds_toArray, List.set_cons_zero, List.set_cons_succ]
    refine' takeV 12 (oi := _) (d := _) (v := _) ?ti12 ?td12 (by kernel_rfl) (by kernel_rfl) (by kernel_rfl) (by kernel_rfl) (by decide) (fun _ _ _ _ _ h => h) ?tg12 ?ty12 (by assumption) ?tr12
    case ti12 => (simp only [List.getElem?_toArray, List.getElem?_cons_succ, List.getElem?_cons_zero]; rfl)
    case td12 => exact rfl
    case tg12 => exact rfl
    case ty12 => (intro w hSw; (try dsimp only at hSw); go_split_ands; go_simp; try with_reducible rfl)
    simp only [List.setIfInBounds_toArray, List.set_cons_zero, List.set_cons_succ]
    refine' takeV 13 (oi := _) (d := _) (v := _) ?ti13 ?td13 (by kernel_rfl) (by kernel_rfl) (by kernel_rfl) (by kernel_rfl) (by decide) (fun _ _ _ _ _ h => h) ?tg13 ?ty13 (by assumption) ?tr13
    case ti13 => (simp only [List.getElem?_toArray, List.getElem?_cons_succ, List.getElem?_cons_zero]; rfl)
    case td13 => exact rfl
    case tg13 => exact rfl
    case ty13 => (intro w hSw; (try dsimp only at hSw); go_split_ands; go_simp; try with_reducible rfl)
    simp only [List.setIfInBounds_toArray, List.set_cons_zero, List.set_cons_succ]
    refine' takeV 14 (oi := _) (d := _) (v := _) ?ti14 ?td14 (by kernel_rfl) (by kernel_rfl) (by kernel_rfl) (by kernel_rfl) (by decide) (fun _ _ _ _ _ h => h) ?tg14 ?ty14 (by assumption) ?tr14
    case ti14 => (simp only [List.getElem?_toArray, List.getElem?_cons_succ, List.getElem?_cons_zero]; rfl)
    case td14 => exact rfl
    case tg14 => exact rfl
    case ty14 => (intro w hSw; (try dsimp only at hSw); go_split_ands; go_simp; try with_reducible rfl)
    simp only [List.setIfInBounds_toArray, List.set_cons_zero, List.set_cons_succ]
    refine' takeV 15 (oi := _) (d := _) (v := _) ?ti15 ?td15 (by kernel_rfl) (by kernel_rfl) (by kernel_rfl) (by kernel_rfl) (by decide) (fun _ _ _ _ _ h => h) ?tg15 ?ty15 (by assumption) ?tr15
    case ti15 => (simp only [List.getElem?_toArray, List.getElem?_cons_succ, List.getElem?_cons_zero]; rfl)
    case td15 => exact rfl
    case tg15 => exact rfl
    case ty15 => (intro w hSw; (try dsimp only at hSw); go_split_ands; go_simp; try with_reducible rfl)
    simp only [List.setIfInBounds_toArray, List.set_cons_zero, List.set_cons_succ]
    refine' takeV 16 (oi := _) (d := _) (v := _) ?ti16 ?td16 (by kernel_rfl) (by kernel_rfl) (by kernel_rfl) (by kernel_rfl) (by decide) (fun _ _ _ _ _ h => h) ?tg16 ?ty16 (by assumption) ?tr16
    case ti16 => (simp only [List.getElem?_toArray, List.getElem?_cons_succ, List.getElem?_cons_zero]; rfl)
    case td16 => exact rfl
    case tg16 => exact rfl
    case ty16 => (intro w hSw; (try dsimp only at hSw); go_split_ands; go_simp; try with_reducible rfl)
    simp only [List.setIfInBounds_toArray, List.set_cons_zero, List.set_cons_succ]
    refine' takeV 17 (oi := _) (d := _) (v := _) ?ti17 ?td17 (by kernel_rfl) (by kernel_rfl) (by kernel_rfl) (by kernel_rfl) (by decide) (fun _ _ _ _ _ h => h) ?tg17 ?ty17 (by assumption) ?tr17
    case ti17 => (simp only [List.getElem?_toArray, List.getElem?_cons_succ, List.getElem?_cons_zero]; rfl)
    case td17 => exact rfl
    case tg17 => exact rfl
    case ty17 => (intro w hSw; (try dsimp only at hSw); go_split_ands; go_simp; try with_reducible rfl)
    simp only [List.setIfInBounds_toArray, List.set_cons_zero, List.set_cons_succ]
    obtain ⟨V0, hV0⟩ : ∃ V0, V0 = W.drew := ⟨_, rfl⟩
    have B0 : Hid (Below W.heap.size W V0) := by rw [hV0]; exact (Below.refl _ _).drew
    rw [← hV0] at hHeld ⊢
    clear hV0
    have z1 := KZ1.out.below B0.out KZ1.out.lt
    have z2 := KZ2.out.below B0.out KZ2.out.lt
    have keepS : ∀ wa wb : World, (fun V : World => V.cell? ⟨w.heap.size, 0, none⟩ = some (.int .u8 (k : Int)) ∧ V.cell? ⟨w.heap.size, 1, none⟩ = some (.int .u8 (l : Int)) ∧ V.cell? ⟨w.heap.size, 2, none⟩ = some (.slice (some ⟨b, o, none⟩) n c) ∧ Below (w.heap.size + 1) W V) wa → Below wa.heap.size wa wb → (fun V : World => V.cell? ⟨w.heap.size, 0, none⟩ = some (.int .u8 (k : Int)) ∧ V.cell? ⟨w.heap.size, 1, none⟩ = some (.int .u8 (l : Int)) ∧ V.cell? ⟨w.heap.size, 2, none⟩ = some (.slice (some ⟨b, o, none⟩) n c) ∧ Below (w.heap.size + 1) W V) wb := fun wa wb h hb => TR.out wb (h.2.2.2.trans (hb.mono (by have := h.2.2.2.size; omega)))
    have RB : Hid (∀ V : World, Below (w.heap.size + 1) W V → RdL V (some ⟨b, o, none⟩) n c es) := fun V hb => HR.out.below (HWB.out.trans (hb.mono (by omega)))
    have hST := HS.out.take i
    have hSD := HS.out.drop i
    have s0 := B0.out.size
    have hr9 : ∀ (V : World) (g : Nat), Below (w.heap.size + 1) W V → Blk V g 22 [Value.slice (some ⟨b, o, none⟩) i c].toArray → _ := fun V g hb hg => node_one k l g (some ⟨b, o, none⟩) i c (es.take i) V hg ((RB.out V hb).take i (by omega)) (by omega) hST
    have hr19 : ∀ (V : World) (g : Nat), Below (w.heap.size + 1) W V → Blk V g 22 [Value.slice (some ⟨b, o + i * 9, none⟩) (n - i) (c - i)].toArray → _ := fun V g hb hg => node_one k l g (some ⟨b, o + i * 9, none⟩) (n - i) (c - i) (es.drop i) V hg ((RB.out V hb).drop i (by omega)) (by omega) hSD
    refine stepG2 8 18 (by kernel_rfl) ?_ ?_
    · refine StepOf.mk 8 (by simp only [List.getElem?_toArray, List.getElem?_cons_succ, List.getElem?_cons_zero]; rfl) (fun K hK => ?_)
      go_simp
      obtain ⟨ws1, hw1⟩ : ∃ wx : World, wx = V0.alloc (.cells [.slice (some ⟨b, o, none⟩) i c].toArray 22) := ⟨_, rfl⟩
      rw [← hw1]
      have hbs1 : Below V0.heap.size V0 ws1 := by rw [hw1]; exact below_new _ _
      have nbs1 : Blk ws1 V0.heap.size 22 [.slice (some ⟨b, o, none⟩) i c].toArray := by rw [hw1]; exact Blk.new _ _ _
      have szs1 : V0.heap.size < ws1.heap.size := by rw [hw1]; simp
      clear hw1
      have ges1 : W.heap.size ≤ V0.heap.size := (hHeld).2.2.2.size
      refine hK.out _ _ ?tu1 (fun hs1 => ?_)
      case tu1 => exact keepS _ _ hHeld hbs1
      clear hK K
      have nb101_1 := z1.below hbs1 z1.lt
      have nb102_1 := z2.below hbs1 z2.lt
      refine stepG2 9 18 (by kernel_rfl) ?_ ?_
      · refine StepOf.mk 9 (by simp only [List.getElem?_toArray, List.getElem?_cons_succ, List.getElem?_cons_zero]; rfl) (fun K hK => ?_)
        go_simp
        refine (hr9 _ _ (hs1).2.2.2 nbs1).mono ?_
        rintro e ws2 ⟨A9, c9, rfl, fx2, hbs2⟩
        have szs2 := hbs2.size
        refine hK.out _ _ ?tu2 (fun hs2 => ?_)
        case tu2 => exact keepS _ _ hs1 hbs2
        clear hK K
        have nb101_2 := nb101_1.below hbs2 nb101_1.lt
        have nb102_2 := nb102_1.below hbs2 nb102_1.lt
        have nb8_2 := nbs1.below hbs2 nbs1.lt
        refine stepG 18 (by kernel_rfl) (by simp only [List.getElem?_toArray, List.getElem?_cons_succ, List.getElem?_cons_zero]; rfl) (fun K hK => ?_)
        go_simp
        obtain ⟨ws3, hw3⟩ : ∃ wx : World, wx = ws2.alloc (.cells [.slice (some ⟨b, o + i * 9, none⟩) (n - i) (c - i)].toArray 22) := ⟨_, rfl⟩
        rw [← hw3]
        have hbs3 : Below ws2.heap.size ws2 ws3 := by rw [hw3]; exact below_new _ _
        have nbs3 : Blk ws3 ws2.heap.size 22 [.slice (some ⟨b, o + i * 9, none⟩) (n - i) (c - i)].toArray := by rw [hw3]; exact Blk.new _ _ _
        have szs3 : ws2.heap.size < ws3.heap.size := by rw [hw3]; simp
        clear hw3
        have ges3 : W.heap.size ≤ ws2.heap.size := (hs2).2.2.2.size
        refine hK.out _ _ ?tu3 (fun hs3 => ?_)
        case tu3 => exact keepS _ _ hs2 hbs3
        clear hK K
        have nb101_3 := nb101_2.below hbs3 nb101_2.lt
        have nb102_3 := nb102_2.below hbs3 nb102_2.lt
        have nb8_3 := nb8_2.below hbs3 nb8_2.lt
        have fy9_3 := fx2.below hbs3
        refine stepG 19 (by kernel_rfl) (by simp only [List.getElem?_toArray, List.getElem?_cons_succ, List.getElem?_cons_zero]; rfl) (fun K hK => ?_)
        go_simp
        refine (hr19 _ _ (hs3).2.2.2 nbs3).mono ?_
        rintro e ws4 ⟨A19, c19, rfl, fx4, hbs4⟩
        have szs4 := hbs4.size
        refine hK.out _ _ ?tu4 (fun hs4 => ?_)
        case tu4 => exact keepS _ _ hs3 hbs4
        clear hK K
        have nb101_4 := nb101_3.below hbs4 nb101_3.lt
        have nb102_4 := nb102_3.below hbs4 nb102_3.lt
        have nb8_4 := nb8_3.below hbs4 nb8_3.lt
        have nb18_4 := nbs3.below hbs4 nbs3.lt
        have fy9_4 := fy9_3.below hbs4
        have hG9 : OwnN ws4 W.heap.size A9 i c9 (es.take i) := (fy9_4).mono (by omega)
        have hG19 : OwnN ws4 W.heap.size A19 (n - i) c19 (es.drop i) := (fx4).mono (by omega)
        have hdis : ∀ a a', A9 = some a → A19 = some a' → a.block ≠ a'.block := fun a a' h1 h2 => by
          have q1 := (fy9_3).lt a h1
          have q2 := (fx4).ge a' h2
          omega
        have hSB := (hs4).2.2.2
        have hz1 := nb101_4
        have hz2 := nb102_4
        clear hHeld
        refine stepG 20 (by kernel_rfl) (by simp only [List.getElem?_toArray, List.getElem?_cons_succ, List.getElem?_cons_zero]; rfl) (fun K hK => ?_)
        refine step_store_blk rfl 24 (.tmp 4) (.tmp 16) rfl rfl (cs := [.int .u8 (k : Int), .int .u8 (l : Int), .slice A9 i c9]) rfl hz1 rfl infoNd (nd_one _ _ _ _ _) ?_
        intro wa hka hga
        refine hK.out _ _ ?ts18 (fun hHeld => ?_)
        case ts18 => ((try dsimp only); exact TR.out _ (hSB.grown hga (by omega) (by intro q hq; simp at hq; omega)))
        clear hK K
        have hkb := hz2.keep_grown hga (by simp)
        have hG9a := hG9.keptE hz1 (by decide) (by decide) hga
        have hG19a := hG19.keptE hz1 (by decide) (by decide) hga
        have hSa := hSB.grown hga (by omega) (by intro q hq; simp at hq; omega)
        refine stepGate 21 (by kernel_rfl) (by kernel_rfl) (by simp only [List.getElem?_toArray, List.getElem?_cons_succ, List.getElem?_cons_zero]; rfl) (fun K hK => ?_)
        refine step_store_blk rfl 24 (.tmp 5) (.tmp 26) rfl rfl (cs := [.int .u8 (k : Int), .int .u8 (l : Int), .slice A19 (n - i) c19]) rfl hkb rfl infoNd (nd_one _ _ _ _ _) ?_
        intro wb hkb2 hgb
        refine hK.out _ _ ?_
        clear hK K
        refine doneG (by kernel_rfl) ?_ _
        go_wp2_with fail
        go_meet
        exact ⟨A9, c9, A19, c19, rfl, hka.keep_grown hgb (by simp), hkb2, hG9a.keptE hkb (by decide) (by decide) hgb, hG19a.keptE hkb (by decide) (by decide) hgb, hdis, hSa.grown hgb (by have := hSa.size; omega) (by intro q hq; simp at hq; omega)⟩
      · refine StepOf.mk 18 (by simp only [List.getElem?_toArray, List.getElem?_cons_succ, List.getElem?_cons_zero]; rfl) (fun K hK => ?_)
        go_simp
        obtain ⟨ws5, hw5⟩ : ∃ wx : World, wx = ws1.alloc (.cells [.slice (some ⟨b, o + i * 9, none⟩) (n - i) (c - i)].toArray 22) := ⟨_, rfl⟩
        rw [← hw5]
        have hbs5 : Below ws1.heap.size ws1 ws5 := by rw [hw5]; exact below_new _ _
        have nbs5 : Blk ws5 ws1.heap.size 22 [.slice (some ⟨b, o + i * 9, none⟩) (n - i) (c - i)].toArray := by rw [hw5]; exact Blk.new _ _ _
        have szs5 : ws1.heap.size < ws5.heap.size := by rw [hw5]; simp
        clear hw5
        have ges5 : W.heap.size ≤ ws1.heap.size := (hs1).2.2.2.size
        refine hK.out _ _ ?tu5 (fun hs5 => ?_)
        case tu5 => exact keepS _ _ hs1 hbs5
        clear hK K
        have nb101_5 := nb101_1.below hbs5 nb101_1.lt
        have nb102_5 := nb102_1.below hbs5 nb102_1.lt
        have nb8_5 := nbs1.below hbs5 nbs1.lt
        refine stepG 9 (by kernel_rfl) (by simp only [List.getElem?_toArray, List.getElem?_cons_succ, List.getElem?_cons_zero]; rfl) (fun K hK => ?_)
        go_simp
        refine (hr9 _ _ (hs5).2.2.2 nb8_5).mono ?_
        rintro e ws6 ⟨A9, c9, rfl, fx6, hbs6⟩
        have szs6 := hbs6.size
        refine hK.out _ _ ?tu6 (fun hs6 => ?_)
        case tu6 => exact keepS _ _ hs5 hbs6
        clear hK K
        have nb101_6 := nb101_5.below hbs6 nb101_5.lt
        have nb102_6 := nb102_5.below hbs6 nb102_5.lt
        have nb8_6 := nb8_5.below hbs6 nb8_5.lt
        have nb18_6 := nbs5.below hbs6 nbs5.lt
        refine stepG 19 (by kernel_rfl) (by simp only [List.getElem?_toArray, List.getElem?_cons_succ, List.getElem?_cons_zero]; rfl) (fun K hK => ?_)
        go_simp
        refine (hr19 _ _ (hs6).2.2.2 nb18_6).mono ?_
        rintro e ws7 ⟨A19, c19, rfl, fx7, hbs7⟩
        have szs7 := hbs7.size
        refine hK.out _ _ ?tu7 (fun hs7 => ?_)
        case tu7 => exact keepS _ _ hs6 hbs7
        clear hK K
        have nb101_7 := nb101_6.below hbs7 nb101_6.lt
        have nb102_7 := nb102_6.below hbs7 nb102_6.lt
        have nb8_7 := nb8_6.below hbs7 nb8_6.lt
        have nb18_7 := nb18_6.below hbs7 nb18_6.lt
        have fy9_7 := fx6.below hbs7
        have hG9 : OwnN ws7 W.heap.size A9 i c9 (es.take i) := (fy9_7).mono (by omega)
        have hG19 : OwnN ws7 W.heap.size A19 (n - i) c19 (es.drop i) := (fx7).mono (by omega)
        have hdis : ∀ a a', A9 = some a → A19 = some a' → a.block ≠ a'.block := fun a a' h1 h2 => by
          have q1 := (fx6).lt a h1
          have q2 := (fx7).ge a' h2
          omega
        have hSB := (hs7).2.2.2
        have hz1 := nb101_7
        have hz2 := nb102_7
        clear hHeld
        refine stepG 20 (by kernel_rfl) (by simp only [List.getElem?_toArray, List.getElem?_cons_succ, List.getElem?_cons_zero]; rfl) (fun K hK => ?_)
        refine step_store_blk rfl 24 (.tmp 4) (.tmp 16) rfl rfl (cs := [.int .u8 (k : Int), .int .u8 (l : Int), .slice A9 i c9]) rfl hz1 rfl infoNd (nd_one _ _ _ _ _) ?_
        intro wa hka hga
        refine hK.out _ _ ?ts19 (fun hHeld => ?_)
        case ts19 => ((try dsimp only); exact TR.out _ (hSB.grown hga (by omega) (by intro q hq; simp at hq; omega)))
        clear hK K
        have hkb := hz2.keep_grown hga (by simp)
        have hG9a := hG9.keptE hz1 (by decide) (by decide) hga
        have hG19a := hG19.keptE hz1 (by decide) (by decide) hga
        have hSa := hSB.grown hga (by omega) (by intro q hq; simp at hq; omega)
        refine stepGate 21 (by kernel_rfl) (by kernel_rfl) (by simp only [List.getElem?_toArray, List.getElem?_cons_succ, List.getElem?_cons_zero]; rfl) (fun K hK => ?_)
        refine step_store_blk rfl 24 (.tmp 5) (.tmp 26) rfl rfl (cs := [.int .u8 (k : Int), .int .u8 (l : Int), .slice A19 (n - i) c19]) rfl hkb rfl infoNd (nd_one _ _ _ _ _) ?_
        intro wb hkb2 hgb
        refine hK.out _ _ ?_
        clear hK K
        refine doneG (by kernel_rfl) ?_ _
        go_wp2_with fail
        go_meet
        exact ⟨A9, c9, A19, c19, rfl, hka.keep_grown hgb (by simp), hkb2, hG9a.keptE hkb (by decide) (by decide) hgb, hG19a.keptE hkb (by decide) (by decide) hgb, hdis, hSa.grown hgb (by have := hSa.size; omega) (by intro q hq; simp at hq; omega)⟩
    · refine StepOf.mk 18 (by simp only [List.getElem?_toArray, List.getElem?_cons_succ, List.getElem?_cons_zero]; rfl) (fun K hK => ?_)
      go_simp
      obtain ⟨ws8, hw8⟩ : ∃ wx : World, wx = V0.alloc (.cells [.slice (some ⟨b, o + i * 9, none⟩) (n - i) (c - i)].toArray 22) := ⟨_, rfl⟩
      rw [← hw8]
      have hbs8 : Below V0.heap.size V0 ws8 := by rw [hw8]; exact below_new _ _
      have nbs8 : Blk ws8 V0.heap.size 22 [.slice (some ⟨b, o + i * 9, none⟩) (n - i) (c - i)].toArray := by rw [hw8]; exact Blk.new _ _ _
      have szs8 : V0.heap.size < ws8.heap.size := by rw [hw8]; simp
      clear hw8
      have ges8 : W.heap.size ≤ V0.heap.size := (hHeld).2.2.2.size
      refine hK.out _ _ ?tu8 (fun hs8 => ?_)
      case tu8 => exact keepS _ _ hHeld hbs8
      clear hK K
      have nb101_8 := z1.below hbs8 z1.lt
      have nb102_8 := z2.below hbs8 z2.lt
      refine stepG 8 (by kernel_rfl) (by simp only [List.getElem?_toArray, List.getElem?_cons_succ, List.getElem?_cons_zero]; rfl) (fun K hK => ?_)
      go_simp
      obtain ⟨ws9, hw9⟩ : ∃ wx : World, wx = ws8.alloc (.cells [.slice (some ⟨b, o, none⟩) i c].toArray 22) := ⟨_, rfl⟩
      rw [← hw9]
      have hbs9 : Below ws8.heap.size ws8 ws9 := by rw [hw9]; exact below_new _ _
      have nbs9 : Blk ws9 ws8.heap.size 22 [.slice (some ⟨b, o, none⟩) i c].toArray := by rw [hw9]; exact Blk.new _ _ _
      have szs9 : ws8.heap.size < ws9.heap.size := by rw [hw9]; simp
      clear hw9
      have ges9 : W.heap.size ≤ ws8.heap.size := (hs8).2.2.2.size
      refine hK.out _ _ ?tu9 (fun hs9 => ?_)
      case tu9 => exact keepS _ _ hs8 hbs9
      clear hK K
      have nb101_9 := nb101_8.below hbs9 nb101_8.lt
      have nb102_9 := nb102_8.below hbs9 nb102_8.lt
      have nb18_9 := nbs8.below hbs9 nbs8.lt
      refine stepG 9 (by kernel_rfl) (by simp only [List.getElem?_toArray, List.getElem?_cons_succ, List.getElem?_cons_zero]; rfl) (fun K hK => ?_)
      go_simp
      refine (hr9 _ _ (hs9).2.2.2 nbs9).mono ?_
      rintro e ws10 ⟨A9, c9, rfl, fx10, hbs10⟩
      have szs10 := hbs10.size
      refine hK.out _ _ ?tu10 (fun hs10 => ?_)
      case tu10 => exact keepS _ _ hs9 hbs10
      clear hK K
      have nb101_10 := nb101_9.below hbs10 nb101_9.lt
      have nb102_10 := nb102_9.below hbs10 nb102_9.lt
      have nb18_10 := nb18_9.below hbs10 nb18_9.lt
      have nb8_10 := nbs9.below hbs10 nbs9.lt
      refine stepG 19 (by kernel_rfl) (by simp only [List.getElem?_toArray, List.getElem?_cons_succ, List.getElem?_cons_zero]; rfl) (fun K hK => ?_)
      go_simp
      refine (hr19 _ _ (hs10).2.2.2 nb18_10).mono ?_
      rintro e ws11 ⟨A19, c19, rfl, fx11, hbs11⟩
      have szs11 := hbs11.size
      refine hK.out _ _ ?tu11 (fun hs11 => ?_)
      case tu11 => exact keepS _ _ hs10 hbs11
      clear hK K
      have nb101_11 := nb101_10.below hbs11 nb101_10.lt
      have nb102_11 := nb102_10.below hbs11 nb102_10.lt
      have nb18_11 := nb18_10.below hbs11 nb18_10.lt
      have nb8_11 := nb8_10.below hbs11 nb8_10.lt
      have fy9_11 := fx10.below hbs11
      have hG9 : OwnN ws11 W.heap.size A9 i c9 (es.take i) := (fy9_11).mono (by omega)
      have hG19 : OwnN ws11 W.heap.size A19 (n - i) c19 (es.drop i) := (fx11).mono (by omega)
      have hdis : ∀ a a', A9 = some a → A19 = some a' → a.block ≠ a'.block := fun a a' h1 h2 => by
        have q1 := (fx10).lt a h1
        have q2 := (fx11).ge a' h2
        omega
      have hSB := (hs11).2.2.2
      have hz1 := nb101_11
      have hz2 := nb102_11
      clear hHeld
      refine stepG 20 (by kernel_rfl) (by simp only [List.getElem?_toArray, List.getElem?_cons_succ, List.getElem?_cons_zero]; rfl) (fun K hK => ?_)
      refine step_store_blk rfl 24 (.tmp 4) (.tmp 16) rfl rfl (cs := [.int .u8 (k : Int), .int .u8 (l : Int), .slice A9 i c9]) rfl hz1 rfl infoNd (nd_one _ _ _ _ _) ?_
      intro wa hka hga
      refine hK.out _ _ ?ts20 (fun hHeld => ?_)
      case ts20 => ((try dsimp only); exact TR.out _ (hSB.grown hga (by omega) (by intro q hq; simp at hq; omega)))
      clear hK K
      have hkb := hz2.keep_grown hga (by simp)
      have hG9a := hG9.keptE hz1 (by decide) (by decide) hga
      have hG19a := hG19.keptE hz1 (by decide) (by decide) hga
      have hSa := hSB.grown hga (by omega) (by intro q hq; simp at hq; omega)
      refine stepGate 21 (by kernel_rfl) (by kernel_rfl) (by simp only [List.getElem?_toArray, List.getElem?_cons_succ, List.getElem?_cons_zero]; rfl) (fun K hK => ?_)
      refine step_store_blk rfl 24 (.tmp 5) (.tmp 26) rfl rfl (cs := [.int .u8 (k : Int), .int .u8 (l : Int), .slice A19 (n - i) c19]) rfl hkb rfl infoNd (nd_one _ _ _ _ _) ?_
      intro wb hkb2 hgb
      refine hK.out _ _ ?_
      clear hK K
      refine doneG (by kernel_rfl) ?_ _
      go_wp2_with fail
      go_meet
      exact ⟨A9, c9, A19, c19, rfl, hka.keep_grown hgb (by simp), hkb2, hG9a.keptE hkb (by decide) (by decide) hgb, hG19a.keptE hkb (by decide) (by decide) hgb, hdis, hSa.grown hgb (by have := hSa.size; omega) (by intro q hq; simp at hq; omega)⟩
  case rest =>
    obtain ⟨A1, c1, A2, c2, rfl, hka, hkb, ho1, ho2, hdis, hbel⟩ := hcut
    obtain ⟨m, hm⟩ : ∃ m, n - i = m := ⟨_, rfl⟩
    rw [hm] at hkb ho2
    have hmp : (0 : Int) < (m : Int) := by omega
    have HM := Lib.hid hm
    obtain ⟨css, hoe, hall⟩ := ho2
    obtain ⟨g, rfl, hgW⟩ := hoe.split (by omega)
    obtain ⟨B1, n1, d1, B2, n2, d2, hcs, hk1, hk2⟩ := hall 0 (by omega)
    have hat := hoe.eat 0 (by omega) hcs 0 rfl
    have HO2 : Hid (OwnN wc W.heap.size (some ⟨g, 0, none⟩) m c2 (es.drop i)) := ⟨css, hoe, hall⟩
    have hkey : ((es.drop i).getD 0 ent0).key = (es.getD i ent0).key := by simp [List.getD, List.getElem?_drop]
    rw [hkey] at hk1
    have hn1 : n1 ≤ 140737488355328 := by rw [hk1.len]; exact (HS.out i (by rw [← HLn.out]; exact hin)).1
    have HK1 := Lib.hid hk1.rd
    have HAT := Lib.hid hat
    have HO1 := Lib.hid ho1
    have HDIS : Hid (∀ a, A1 = some a → a.block ≠ g) := fun a ha => hdis a _ ha rfl
    have HKA := Lib.hid hka
    have HKB := Lib.hid hkb
    have HBE := Lib.hid hbel
    have hbs := hbel.size
    have hm2 : m ≤ c2 := hoe.cap.1
    have hc2 : c2 ≤ 9223372036854775807 := by have := hoe.cap.2; unfold maxLen at this; omega
    clear hka hkb ho1 hoe hall hat hcs hk1 hk2 hdis hbel hkey hm
    have hs0 : wc.heap.size < (wc.alloc (.cells #[] 5)).heap.size := by simp
    have HF1 : Hid (Own (wc.alloc (.cells #[] 5)) wc.heap.size (some ⟨wc.heap.size, 0, none⟩) 0 0 []) := Own.fresh wc wc.heap.size [] 0 rfl (by omega) (Nat.le_refl _)
    have HRa := Lib.hid (HK1.out.below (below_new wc (.cells #[] 5)))
    have a0 := (HAT.out.below (below_new wc (.cells #[] 5))).c0
    have m2 : (wc.alloc (.cells #[] 5)).cell? ⟨w.heap.size + 1 + 1, 2, none⟩ = some (.slice (some ⟨g, 0, none⟩) m c2) := (HKB.out.alloc _).cell 2
    go_upto_region 3 with (at_builtin; refine wpList_app 28 Try.underlying28 rfl (.tmp 27) (.tmp 32) rfl rfl rfl HF1.out HRa.out (Nat.le_of_lt hs0) (by omega) ?_; intro B d w3 hown3 hg3 hb3)
    have OB3 : Hid (Own w3 wc.heap.size B n1 d (es.getD i ent0).key) := by rw [Nat.zero_add, List.nil_append] at hown3; exact hown3
    have BB3 : Hid (Below wc.heap.size wc w3) := (below_new wc _).trans hb3
    clear hown3 hg3 hb3 a0 m2 HRa HF1
    have KA3 := Lib.hid (HKA.out.below BB3.out HKA.out.lt)
    have KB3 := Lib.hid (HKB.out.below BB3.out HKB.out.lt)
    have O13 := Lib.hid (HO1.out.below BB3.out)
    have O23 := Lib.hid (HO2.out.below BB3.out)
    have HB3 : Hid (Below (w.heap.size + 1) W w3) := HBE.out.trans (BB3.out.mono (by omega))
    have hgl : g < wc.heap.size := HO2.out.lt _ rfl
    have m0 : w3.cell? ⟨w.heap.size + 1 + 1, 0, none⟩ = some (.int .u8 (k : Int)) := KB3.out.cell 0
    have m2 : w3.cell? ⟨w.heap.size + 1 + 1, 2, none⟩ = some (.slice (some ⟨g, 0, none⟩) m c2) := KB3.out.cell 2
    by_cases hk2 : k = 2
    · have hd : ((k : Int) == 2) = true := by rw [beq_iff_eq]; omega
      have hfr : w3.frozen? ⟨g, 0, none⟩ = false := by obtain ⟨css, hoe, _⟩ := O23.out; exact hoe.1.frozenAt 0
      have hce : ∃ v, w3.cell? ⟨g, 0, none⟩ = some v := ⟨_, (HAT.out.below BB3.out).c0⟩
      obtain ⟨v0, a0⟩ := hce
      have HCB : Hid (cutB k es i = nk (es.drop i)) := by show _ = _; rw [cutB, if_pos hk2]
      clear hk2
      go_upto_region 5 with fail
      have HG := Lib.hid (grown_setCell w3 g 0 (.slice none 0 0))
      have O25' : Hid (OwnN (w3.setCell ⟨g, 0, none⟩ (.slice none 0 0)) W.heap.size (some ⟨g, 0, none⟩) m c2 (nk (es.drop i))) := O23.out.key0 (by omega) (by rw [List.length_drop, ← HLn.out]; exact HM.out.symm)
      have O15' := Lib.hid (O13.out.keptN O23.out HDIS.out HG.out)
      obtain ⟨w5, hw5⟩ : ∃ w5, w5 = w3.setCell ⟨g, 0, none⟩ (.slice none 0 0) := ⟨_, rfl⟩
      rw [← hw5] at HG O25' O15' ⊢
      have O25 := Lib.hid O25'.out
      have O15 := Lib.hid O15'.out
      have KA5 := Lib.hid (KA3.out.keep_grown HG.out (by simp; omega))
      have KB5 := Lib.hid (KB3.out.keep_grown HG.out (by simp; omega))
      have OB5 : Hid (Own w5 wc.heap.size B n1 d (es.getD i ent0).key) := by
        obtain ⟨css, hoe, _⟩ := O23.out
        exact OB3.out.keptOE hoe HG.out
      have HB5 : Hid (Below (w.heap.size + 1) W w5) := HB3.out.grown HG.out (by have := HB3.out.size; omega) (by intro q hq; simp at hq; omega)
      clear hw5 O25' O15' a0 m0 m2 hfr
      refine region_gate 4 (fun V => V.cell? ⟨w.heap.size + 1, 0, none⟩ = some (.int .u8 (k : Int)) ∧ V.cell? ⟨w.heap.size + 1, 1, none⟩ = some (.int .u8 (l : Int)) ∧ V.cell? ⟨w.heap.size + 1, 2, none⟩ = some (.slice A1 i c1) ∧ V.cell? ⟨w.heap.size + 1 + 1, 0, none⟩ = some (.int .u8 (k : Int)) ∧ V.cell? ⟨w.heap.size + 1 + 1, 1, none⟩ = some (.int .u8 (l : Int)) ∧ V.cell? ⟨w.heap.size + 1 + 1, 2, none⟩ = some (.slice (some ⟨g, 0, none⟩) m c2)) (by kernel_rfl) ?th21 (fun hHeld => ?tk21)
      case th21 => ((try dsimp only); exact ⟨(KA5.out.cell 0), (KA5.out.cell 1), (KA5.out.cell 2), (KB5.out.cell 0), (KB5.out.cell 1), (KB5.out.cell 2)⟩)
      refine' takeV 0 (oi := _) (d := _) (v := _) ?ti22 ?td22 (by kernel_rfl) (by kernel_rfl) (by kernel_rfl) (by kernel_rfl) (by decide) (fun _ _ _ _ _ h => h) ?tg22 ?ty22 (by assumption) ?tr22
      case ti22 => (simp only [List.getElem?_toArray, List.getElem?_cons_succ, List.getElem?_cons_zero]; rfl)
      case td22 => exact rfl
      case tg22 => exact rfl
      case ty22 => (intro w hSw; (try dsimp only at hSw); go_split_ands; go_simp; try with_reducible rfl)
      simp only [List.setIfInBounds_toArray, List.set_cons_zero, List.set_cons_succ]
      refine' takeV 1 (oi := _) (d := _) (v := _) ?ti23 ?td23 (by kernel_rfl) (by kernel_rfl) (by kernel_rfl) (by kernel_rfl) (by decide) (fun _ _ _ _ _ h => h) ?tg23 ?ty23 (by assumption) ?tr23
      case ti23 => (simp only [List.getElem?_toArray, List.getElem?_cons_succ, List.getElem?_cons_zero]; rfl)
      case td23 => exact rfl
      case tg23 => exact rfl
      case ty23 => (intro w hSw; (try dsimp only at hSw); go_split_ands; go_simp; try with_reducible rfl)
      simp only [List.setIfInBounds_toArray, List.set_cons_zero, List.set_cons_succ]
      refine' takeW 2 (oi := _) (d := _) (v := _) ?ti24 ?td24 (by kernel_rfl) (by kernel_rfl) (by kernel_rfl) (by decide) (fun _ _ _ _ _ h => h) ?tg24 ?ty24 ?tf24 ?tr24
      case ti24 => (simp only [List.getElem?_toArray, List.getElem?_cons_succ, List.getElem?_cons_zero]; rfl)
      case td24 => exact rfl
      case tg24 => exact rfl
      case ty24 => (intro w; go_simp; try with_reducible rfl)
      case tf24 => first | (intro _; assumption) | (intro e; exact absurd e (by decide +kernel))
      simp only [List.setIfInBounds_toArray, List.set_cons_zero, List.set_cons_succ]
      obtain ⟨V0, hV0⟩ : ∃ V0, V0 = w5.drew := ⟨_, rfl⟩
      have B0 : Below w5.heap.size w5 V0 := by rw [hV0]; exact (Below.refl _ _).drew
      have ka := KA5.out.below B0 KA5.out.lt
      have kb := KB5.out.below B0 KB5.out.lt
      rw [← hV0] at hHeld ⊢
      clear hV0 hHeld
      refine stepG 3 (by kernel_rfl) (by simp only [List.getElem?_toArray, List.getElem?_cons_succ, List.getElem?_cons_zero]; rfl) (fun K hK => ?_)
      refine step_store_blk rfl 24 (.tmp 4) (.tmp 41) rfl rfl (cs := [.int .u8 (k : Int), .int .u8 (l : Int), .slice A1 i c1]) rfl ka rfl infoNd (nd_one _ _ _ _ _) ?_
      intro wa hka hga
      refine hK.out _ _ ?ts25 (fun hHeld => ?_)
      case ts25 => ((try dsimp only); (have kb2 := kb.keep_grown hga (by simp); exact ⟨hka.cell 0, hka.cell 1, hka.cell 2, kb2.cell 0, kb2.cell 1, kb2.cell 2⟩))
      clear hK K
      have kb2 := kb.keep_grown hga (by simp)
      clear hHeld
      refine stepGate 4 (by kernel_rfl) (by kernel_rfl) (by simp only [List.getElem?_toArray, List.getElem?_cons_succ, List.getElem?_cons_zero]; rfl) (fun K hK => ?_)
      refine step_store_blk rfl 24 (.tmp 5) (.tmp 42) rfl rfl (cs := [.int .u8 (k : Int), .int .u8 (l : Int), .slice (some ⟨g, 0, none⟩) m c2]) rfl kb2 rfl infoNd (nd_one _ _ _ _ _) ?_
      intro wb hkb2 hgb
      refine hK.out _ _ ?_
      clear hK K
      refine' takeW 5 (oi := _) (d := _) (v := _) ?ti26 ?td26 (by kernel_rfl) (by kernel_rfl) (by kernel_rfl) (by decide) (fun _ _ _ _ _ h => h) ?tg26 ?ty26 ?tf26 ?tr26
      case ti26 => (simp only [List.getElem?_toArray, List.getElem?_cons_succ, List.getElem?_cons_zero]; rfl)
      case td26 => exact rfl
      case tg26 => exact rfl
      case ty26 => (intro w; go_simp; try with_reducible rfl)
      case tf26 => first | (intro _; assumption) | (intro e; exact absurd e (by decide +kernel))
      simp only [List.setIfInBounds_toArray, List.set_cons_zero, List.set_cons_succ]
      refine doneG (by kernel_rfl) ?_ _
      go_wp2_with fail
      have hka2 := hka.keep_grown hgb (by simp)
      have e0 := hka2.cell 0
      have e1 := hka2.cell 1
      have e2 := hka2.cell 2
      have f0 := hkb2.cell 0
      have f1 := hkb2.cell 1
      have f2 := hkb2.cell 2
      have t0 := B0.size
      have t5 := HB5.out.size
      have hfin := ((HB5.out.trans (B0.mono (by omega))).grown hga (by omega) (by intro q hq; simp at hq; omega)).grown hgb (by have := hga.size; omega) (by intro q hq; simp at hq; omega)
      refine bodyPost_ret (v := .tuple #[NdV k l A1 i c1, NdV k l (some ⟨g, 0, none⟩) m c2, .slice B n1 d]) ?_ rfl ⟨A1, c1, some ⟨g, 0, none⟩, c2, B, n1, d, by rw [HM.out], ?_, ?_, ?_, HWB.out.trans (hfin.mono (by omega)), fun a a' h1 h2 => by injection h2 with h2; subst h2; exact HDIS.out a h1⟩
      · simp [results, Try.results43, go_sem, e0, e1, e2, f0, f1, f2]
      · exact (((O15.out.below B0).keptE ka (by decide) (by decide) hga).keptE kb2 (by decide) (by decide) hgb).mono (by omega)
      · rw [HCB.out, HM.out]; exact (((O25.out.below B0).keptE ka (by decide) (by decide) hga).keptE kb2 (by decide) (by decide) hgb).mono (by omega)
      · exact (((OB5.out.below B0).keptE ka (by decide) hga).keptE kb2 (by decide) hgb).mono (by omega)
    · have hd : ((k : Int) == 2) = false := by rw [beq_eq_false_iff_ne]; omega
      have HCB : Hid (cutB k es i = es.drop i) := by show _ = _; rw [cutB, if_neg hk2]
      clear hk2
      go_upto_region 5 with fail
      obtain ⟨w5, hw5⟩ : ∃ w5, w5 = w3 := ⟨_, rfl⟩
      have KA5 := Lib.hid (hw5 ▸ KA3.out)
      have KB5 := Lib.hid (hw5 ▸ KB3.out)
      have O15 := Lib.hid (hw5 ▸ O13.out)
      have O25 := Lib.hid (hw5 ▸ O23.out)
      have OB5 := Lib.hid (hw5 ▸ OB3.out)
      have HB5 := Lib.hid (hw5 ▸ HB3.out)
      rw [← hw5]
      clear hw5 m0 m2
      refine region_gate 4 (fun V => V.cell? ⟨w.heap.size + 1, 0, none⟩ = some (.int .u8 (k : Int)) ∧ V.cell? ⟨w.heap.size + 1, 1, none⟩ = some (.int .u8 (l : Int)) ∧ V.cell? ⟨w.heap.size + 1, 2, none⟩ = some (.slice A1 i c1) ∧ V.cell? ⟨w.heap.size + 1 + 1, 0, none⟩ = some (.int .u8 (k : Int)) ∧ V.cell? ⟨w.heap.size + 1 + 1, 1, none⟩ = some (.int .u8 (l : Int)) ∧ V.cell? ⟨w.heap.size + 1 + 1, 2, none⟩ = some (.slice (some ⟨g, 0, none⟩) m c2)) (by kernel_rfl) ?th27 (fun hHeld => ?tk27)
      case th27 => ((try dsimp only); exact ⟨(KA5.out.cell 0), (KA5.out.cell 1), (KA5.out.cell 2), (KB5.out.cell 0), (KB5.out.cell 1), (KB5.out.cell 2)⟩)
      refine' takeV 0 (oi := _) (d := _) (v := _) ?ti28 ?td28 (by kernel_rfl) (by kernel_rfl) (by kernel_rfl) (by kernel_rfl) (by decide) (fun _ _ _ _ _ h => h) ?tg28 ?ty28 (by assumption) ?tr28
      case ti28 => (simp only [List.getElem?_toArray, List.getElem?_cons_succ, List.getElem?_cons_zero]; rfl)
      case td28 => exact rfl
      case tg28 => exact rfl
      case ty28 => (intro w hSw; (try dsimp only at hSw); go_split_ands; go_simp; try with_reducible rfl)
      simp only [List.setIfInBounds_toArray, List.set_cons_zero, List.set_cons_succ]
      refine' takeV 1 (oi := _) (d := _) (v := _) ?ti29 ?td29 (by kernel_rfl) (by kernel_rfl) (by kernel_rfl) (by kernel_rfl) (by decide) (fun _ _ _ _ _ h => h) ?tg29 ?ty29 (by assumption) ?tr29
      case ti29 => (simp only [List.getElem?_toArray, List.getElem?_cons_succ, List.getElem?_cons_zero]; rfl)
      case td29 => exact rfl
      case tg29 => exact rfl
      case ty29 => (intro w hSw; (try dsimp only at hSw); go_split_ands; go_simp; try with_reducible rfl)
      simp only [List.setIfInBounds_toArray, List.set_cons_zero, List.set_cons_succ]
      refine' takeW 2 (oi := _) (d := _) (v := _) ?ti30 ?td30 (by kernel_rfl) (by kernel_rfl) (by kernel_rfl) (by decide) (fun _ _ _ _ _ h => h) ?tg30 ?ty30 ?tf30 ?tr30
      case ti30 => (simp only [List.getElem?_toArray, List.getElem?_cons_succ, List.getElem?_cons_zero]; rfl)
      case td30 => exact rfl
      case tg30 => exact rfl
      case ty30 => (intro w; go_simp; try with_reducible rfl)
      case tf30 => first | (intro _; assumption) | (intro e; exact absurd e (by decide +kernel))
      simp only [List.setIfInBounds_toArray, List.set_cons_zero, List.set_cons_succ]
      obtain ⟨V0, hV0⟩ : ∃ V0, V0 = w5.drew := ⟨_, rfl⟩
      have B0 : Below w5.heap.size w5 V0 := by rw [hV0]; exact (Below.refl _ _).drew
      have ka := KA5.out.below B0 KA5.out.lt
      have kb := KB5.out.below B0 KB5.out.lt
      rw [← hV0] at hHeld ⊢
      clear hV0 hHeld
      refine stepG 3 (by kernel_rfl) (by simp only [List.getElem?_toArray, List.getElem?_cons_succ, List.getElem?_cons_zero]; rfl) (fun K hK => ?_)
      refine step_store_blk rfl 24 (.tmp 4) (.tmp 41) rfl rfl (cs := [.int .u8 (k : Int), .int .u8 (l : Int), .slice A1 i c1]) rfl ka rfl infoNd (nd_one _ _ _ _ _) ?_
      intro wa hka hga
      refine hK.out _ _ ?ts31 (fun hHeld => ?_)
      case ts31 => ((try dsimp only); (have kb2 := kb.keep_grown hga (by simp); exact ⟨hka.cell 0, hka.cell 1, hka.cell 2, kb2.cell 0, kb2.cell 1, kb2.cell 2⟩))
      clear hK K
      have kb2 := kb.keep_grown hga (by simp)
      clear hHeld
      refine stepGate 4 (by kernel_rfl) (by kernel_rfl) (by simp only [List.getElem?_toArray, List.getElem?_cons_succ, List.getElem?_cons_zero]; rfl) (fun K hK => ?_)
      refine step_store_blk rfl 24 (.tmp 5) (.tmp 42) rfl rfl (cs := [.int .u8 (k : Int), .int .u8 (l : Int), .slice (some ⟨g, 0, none⟩) m c2]) rfl kb2 rfl infoNd (nd_one _ _ _ _ _) ?_
      intro wb hkb2 hgb
      refine hK.out _ _ ?_
      clear hK K
      refine' takeW 5 (oi := _) (d := _) (v := _) ?ti32 ?td32 (by kernel_rfl) (by kernel_rfl) (by kernel_rfl) (by decide) (fun _ _ _ _ _ h => h) ?tg32 ?ty32 ?tf32 ?tr32
      case ti32 => (simp only [List.getElem?_toArray, List.getElem?_cons_succ, List.getElem?_cons_zero]; rfl)
      case td32 => exact rfl
      case tg32 => exact rfl
      case ty32 => (intro w; go_simp; try with_reducible rfl)
      case tf32 => first | (intro _; assumption) | (intro e; exact absurd e (by decide +kernel))
      simp only [List.setIfInBounds_toArray, List.set_cons_zero, List.set_cons_succ]
      refine doneG (by kernel_rfl) ?_ _
      go_wp2_with fail
      have hka2 := hka.keep_grown hgb (by simp)
      have e0 := hka2.cell 0
      have e1 := hka2.cell 1
      have e2 := hka2.cell 2
      have f0 := hkb2.cell 0
      have f1 := hkb2.cell 1
      have f2 := hkb2.cell 2
      have t0 := B0.size
      have t5 := HB5.out.size
      have hfin := ((HB5.out.trans (B0.mono (by omega))).grown hga (by omega) (by intro q hq; simp at hq; omega)).grown hgb (by have := hga.size; omega) (by intro q hq; simp at hq; omega)
      refine bodyPost_ret (v := .tuple #[NdV k l A1 i c1, NdV k l (some ⟨g, 0, none⟩) m c2, .slice B n1 d]) ?_ rfl ⟨A1, c1, some ⟨g, 0, none⟩, c2, B, n1, d, by rw [HM.out], ?_, ?_, ?_, HWB.out.trans (hfin.mono (by omega)), fun a a' h1 h2 => by injection h2 with h2; subst h2; exact HDIS.out a h1⟩
      · simp [results, Try.results43, go_sem, e0, e1, e2, f0, f1, f2]
      · exact (((O15.out.below B0).keptE ka (by decide) (by decide) hga).keptE kb2 (by decide) (by decide) hgb).mono (by omega)
      · rw [HCB.out, HM.out]; exact (((O25.out.below B0).keptE ka (by decide) (by decide) hga).keptE kb2 (by decide) (by decide) hgb).mono (by omega)
      · exact (((OB5.out.below B0).keptE ka (by decide) hga).keptE kb2 (by decide) hgb).mono (by omega)
end Go.Proofs.Ytgihcjmcefdkiaa
