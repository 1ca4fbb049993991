/- Contracts: graft.one. -/
import Derived.Test.YtgihcjmcefdkiaaGrSl
set_option linter.unusedVariables false
set_option linter.unusedSimpArgs false
namespace Go.Proofs.Ytgihcjmcefdkiaa
open Go.RowKit

/-- An entry with another key. -/
def setK (es : List Ent) (i : Nat) (key : List UInt8) : List Ent := es.set i { es.getD i ent0 with key := key }
theorem setK_length (es : List Ent) (i : Nat) (key : List UInt8) : (setK es i key).length = es.length := by simp [setK]
theorem setK_same {es : List Ent} {i : Nat} (key : List UInt8) (h : i < es.length) : (setK es i key).getD i ent0 = { es.getD i ent0 with key := key } := by simp [setK, List.getD, h]
theorem setK_other {es : List Ent} {i j : Nat} (key : List UInt8) (h : j ≠ i) : (setK es i key).getD j ent0 = es.getD j ent0 := by simp [setK, List.getD, List.getElem?_set_ne (Ne.symm h)]
theorem OwnN.keyAt {w : World} {H g n c : Nat} {es : List Ent} {B : Option Addr} {m d : Nat} {key : List UInt8} (h : OwnN w H (some ⟨g, 0, none⟩) n c es) (i : Nat) (hi : i < n) (he : n = es.length) (hk : Own w H B m d key) :
    OwnN (w.setCell ⟨g, i * 9, none⟩ (.slice B m d)) H (some ⟨g, 0, none⟩) n c (setK es i key) := by
  obtain ⟨css, h1, h2⟩ := h
  obtain ⟨k1, k2⟩ := h1.1.stored (i * 9) (.slice B m d)
  have hl : i < css.length := by rw [h1.2.1]; exact hi
  have e := flat_set1 css i 0 (.slice B m d) h1.2.2 hl (by omega)
  rw [Nat.add_zero] at e
  rw [e] at k1
  obtain ⟨B1, n1, d1, B2, n2, d2, hcs, o1, o2⟩ := h2 i hi
  rw [hcs] at k1
  have hset : (enC B1 n1 d1 B2 n2 d2 (es.getD i ent0).len (es.getD i ent0).chain (es.getD i ent0).child).set 0 (.slice B m d) = enC B m d B2 n2 d2 (es.getD i ent0).len (es.getD i ent0).chain (es.getD i ent0).child := rfl
  rw [hset] at k1
  refine ⟨_, ⟨k1, by rw [List.length_set]; exact h1.2.1, fun c hm => ?_⟩, fun j hj => ?_⟩
  · rcases List.mem_or_eq_of_mem_set hm with hm | hm
    · exact h1.2.2 c hm
    · rw [hm]; rfl
  · by_cases ej : j = i
    · subst ej
      have e2 : (css.set j (enC B m d B2 n2 d2 (es.getD j ent0).len (es.getD j ent0).chain (es.getD j ent0).child)).getD j [] = enC B m d B2 n2 d2 (es.getD j ent0).len (es.getD j ent0).chain (es.getD j ent0).child := by simp [List.getD, hl]
      rw [e2, setK_same key (by omega)]
      exact ⟨B, m, d, B2, n2, d2, rfl, hk.keptOE h1 (grown_setCell _ _ _ _), o2.keptOE h1 (grown_setCell _ _ _ _)⟩
    · have e2 : (css.set i (enC B m d B2 n2 d2 (es.getD i ent0).len (es.getD i ent0).chain (es.getD i ent0).child)).getD j [] = css.getD j [] := by simp [List.getD, List.getElem?_set_ne (Ne.symm ej)]
      rw [e2, setK_other key ej]
      exact (h2 j hj).keptOE h1 (grown_setCell _ _ _ _)
theorem OwnN.cellAt {w : World} {H n c : Nat} {A : Option Addr} {es : List Ent} (h : OwnN w H A n c es) (i : Nat) (hi : i < n) : ∃ g v, A = some ⟨g, 0, none⟩ ∧ w.cell? ⟨g, i * 9, none⟩ = some v ∧ w.frozen? ⟨g, i * 9, none⟩ = false ∧ H ≤ g := by
  obtain ⟨css, hoe, hall⟩ := h
  obtain ⟨g, rfl, hg⟩ := hoe.split (by omega)
  obtain ⟨B1, n1, d1, B2, n2, d2, hcs, hk1, hk2⟩ := hall i hi
  have hat := hoe.eat i hi hcs _ rfl
  exact ⟨g, _, rfl, hat.c0, hoe.1.frozenAt _, hg⟩
def bN (b : Bool) (x : Nat) : Nat := if b then x else 0
def bE (b : Bool) (es : List Ent) : List Ent := if b then es else []
/-- A node, if there is one. -/
def NodB (b q : Bool) (k l : Nat) (es : List Ent) (w : World) (e : Ending) (w' : World) : Prop := ∃ A c, e = .returned (.tuple #[NdV (bN b k) (bN b l) A (bE b es).length c, .bool q]) ∧ OwnN w' w.heap.size A (bE b es).length c (bE b es) ∧ Below w.heap.size w w'
theorem NodB.none_ {b q : Bool} {k l : Nat} {es : List Ent} {w w' : World} (h : b = false ∧ q = false) (hb : Below w.heap.size w w') : NodB b q k l es w (.returned (.tuple #[NdV 0 0 none 0 0, .bool false])) w' := by
  obtain ⟨rfl, rfl⟩ := h
  exact ⟨none, 0, rfl, OwnN.nil _ _ _, hb⟩
theorem NodB.some_ {q : Bool} {k l : Nat} {es : List Ent} {w w' : World} {A : Option Addr} {n c : Nat} (hn : n = es.length) (h : OwnN w' w.heap.size A n c es) (hb : Below w.heap.size w w') : NodB true q k l es w (.returned (.tuple #[NdV k l A n c, .bool q])) w' := by
  subst hn
  exact ⟨A, c, rfl, h, hb⟩
/-- Are two nodes of one kind? -/
def oneB (k l : Nat) (es : List Ent) (k' l' : Nat) (es' : List Ent) : Bool := (rE k l es == 0) && ((rE k' l' es' == 0) && ((k == k') && (l == l')))
/-- Two nodes as one. -/
def oneL (k : Nat) (es es' : List Ent) (key : List UInt8) : List Ent := if k = 2 then setK [es, es'].flatten es.length key else [es, es'].flatten
theorem oneL_length (k : Nat) (es es' : List Ent) (key : List UInt8) : (oneL k es es' key).length = es.length + es'.length := by
  unfold oneL; split <;> simp [setK_length]
theorem flat2_at (es es' : List Ent) (j : Nat) : [es, es'].flatten.getD j ent0 = if j < es.length then es.getD j ent0 else es'.getD (j - es.length) ent0 := by
  have : [es, es'].flatten = es ++ es' := by simp
  rw [this]
  simp only [List.getD_eq_getElem?_getD]
  split
  · rename_i h; rw [List.getElem?_append_left h]
  · rw [List.getElem?_append_right (by omega)]
theorem shortE.two {es es' : List Ent} (h : shortE es) (h' : shortE es') : shortE [es, es'].flatten := fun j hj => by
  have hl : [es, es'].flatten.length = es.length + es'.length := by simp
  rw [hl] at hj
  rw [flat2_at]; split
  · exact h j (by assumption)
  · exact h' _ (by omega)
theorem shortE.one {k : Nat} {es es' : List Ent} {key : List UInt8} (h : shortE es) (h' : shortE es') (hk : key.length ≤ 140737488355328) : shortE (oneL k es es' key) := by
  unfold oneL; split
  · intro j hj
    rw [setK_length] at hj
    by_cases e : j = es.length
    · subst e; rw [setK_same key hj]; exact ⟨hk, ((h.two h') _ hj).2⟩
    · rw [setK_other key e]; exact (h.two h') j hj
  · exact h.two h'
theorem esIn.two {es es' : List Ent} (h : esIn es) (h' : esIn es') : esIn [es, es'].flatten := fun j hj => by
  have hl : [es, es'].flatten.length = es.length + es'.length := by simp
  rw [hl] at hj
  rw [flat2_at]; split
  · exact h j (by assumption)
  · exact h' _ (by omega)
theorem esIn.one {k : Nat} {es es' : List Ent} {key : List UInt8} (h : esIn es) (h' : esIn es') : esIn (oneL k es es' key) := by
  unfold oneL; split
  · intro j hj
    rw [setK_length] at hj
    by_cases e : j = es.length
    · subst e; rw [setK_same key hj]; exact (h.two h') _ hj
    · rw [setK_other key e]; exact (h.two h') j hj
  · exact h.two h'
set_option maxRecDepth 100000 in
set_option maxHeartbeats 6400000 in
theorem one_any (k l : Nat) (A : Option Addr) (n c : Nat) (es : List Ent) (k' l' : Nat) (A' : Option Addr) (n' c' : Nat) (es' : List Ent) (Ak : Option Addr) (nk ck : Nat) (key : List UInt8) (w : World) (h : RdL w A n c es) (h' : RdL w A' n' c' es') (hky : Rd w Ak nk ck key)
    (hk : k < 256) (hl : l < 256) (hk' : k' < 256) (hl' : l' < 256) (hN : n ≤ 4000) (hN' : n' ≤ 4000) (hs : shortE es) (hs' : shortE es') (hkn : nk ≤ 140737488355328) :
    Calls Try.prog 49 #[NdV k l A n c, NdV k' l' A' n' c', .slice Ak nk ck] w (NodB (oneB k l es k' l' es') (oneB k l es k' l' es' && (rE k l (oneL k es es' key) == 0)) k l (oneL k es es' key) w) := by
  have hcap := h.cap
  have hmax := h.max
  have hcap' := h'.cap
  have hmax' := h'.max
  unfold maxLen at hmax hmax'
  have HLn := Lib.hid h.len
  have HLn' := Lib.hid h'.len
  have HS := Lib.hid hs
  have HS' := Lib.hid hs'
  obtain ⟨W, hW⟩ : ∃ W, W = ((w.alloc (.cells #[.int .u8 (k : Int), .int .u8 (l : Int), .slice A n c] 24)).alloc (.cells #[.int .u8 (k' : Int), .int .u8 (l' : Int), .slice A' n' c'] 24)).alloc (.cells #[.int .u8 0, .int .u8 0, .slice none 0 0] 24) := ⟨_, rfl⟩
  have HWB : Hid (Below w.heap.size w W) := by rw [hW]; exact ((below_new _ _).alloc (by simp) _).alloc (by simp; omega) _
  have NA : Hid (Nin W w.heap.size k l A n c es) := ⟨by rw [hW]; exact ((Blk.new _ _ _).alloc _).alloc _, h.below HWB.out⟩
  have NB : Hid (Nin W (w.heap.size + 1) k' l' A' n' c' es') := ⟨by rw [hW]; exact (Blk.new' _ _ _ _ (by simp)).alloc _, h'.below HWB.out⟩
  have KZ : Hid (Blk W (w.heap.size + 1 + 1) 24 [Value.int .u8 0, .int .u8 0, .slice none 0 0].toArray) := by rw [hW]; exact Blk.new' _ _ _ _ (by simp)
  have HKY := Lib.hid (hky.below HWB.out)
  have HW := Lib.hid hW
  have hWs := KZ.out.lt
  have HM := Lib.hid (right_any k l A n c es W NA.out.rd hk hl)
  have HRA := Lib.hid h
  have HRB := Lib.hid h'
  clear h h' hky hs hs' hW
  have d0 := NA.out.c0
  have d1 := NA.out.c1
  have d2 := NA.out.c2
  by_cases hr : rE k l es = 0
  · rw [hr] at HM
    by_cases hr' : rE k' l' es' = 0
    · by_cases hkk : k = k'
      · by_cases hll : l = l'
        · subst hkk
          subst hll
          have hone : oneB k l es k l es' = true := by simp [oneB, hr, hr']
          obtain ⟨L, HL⟩ : ∃ L, Hid (oneL k es es' key = L) := ⟨_, rfl⟩
          obtain ⟨E, HEE⟩ : ∃ E, Hid (rE k l L = E) := ⟨_, rfl⟩
          obtain ⟨qq, hqq⟩ : ∃ qq : Bool, (E == 0) = qq := ⟨_, rfl⟩
          have HQQ := Lib.hid hqq
          obtain ⟨N, HNN⟩ : ∃ N, Hid (n + n' = N) := ⟨_, rfl⟩
          have HLL : Hid (L.length = N) := by show _ = _; rw [← HL.out, oneL_length, ← HLn.out, ← HLn'.out]; exact HNN.out
          rw [HL.out, HEE.out, hqq]
          obtain ⟨b1, hb1⟩ : ∃ b1, b1 = oneB k l es k l es' := ⟨_, rfl⟩
          rw [← hb1] at hone ⊢
          clear hb1
          have HOK := Lib.hid hone
          have hn'pos : k = 2 → 0 < n' := fun e => by rw [HLn'.out]; exact (right_may hr').2.2.1 e
          have HPOS := Lib.hid hn'pos
          have HR2 := Lib.hid (fun V (hb : Below W.heap.size W V) => right_any k l A' n' c' es' V (NB.out.below hb).rd hk hl)
          rw [hr'] at HR2
          clear hr hr' hone hqq hn'pos
          go_enter Try.func49, Try.ntmps49
          go_wp2_with fail
          rw [← HW.out]
          refine HM.out.mono ?_
          rintro e w1 ⟨rfl, hb1⟩
          have NB1 := Lib.hid (NB.out.below hb1)
          have HB1 := Lib.hid hb1
          have s1 := hb1.size
          have HCC := Lib.hid (HR2.out w1 hb1)
          clear d0 d1 d2 hb1 HM
          have d0 := NB1.out.c0
          have d1 := NB1.out.c1
          have d2 := NB1.out.c2
          go_wp2_with fail
          refine HCC.out.mono ?_
          rintro e w2 ⟨rfl, hb2⟩
          have HB2 : Hid (Below W.heap.size W w2) := HB1.out.trans (hb2.mono s1)
          have NB2 := Lib.hid (NB.out.below HB2.out)
          have NA2 := Lib.hid (NA.out.below HB2.out)
          have s2 := HB2.out.size
          clear d0 d1 d2 hb2 HCC HB1 NB1
          have d0 := NB2.out.c0
          have d1 := NB2.out.c1
          have d2 := NB2.out.c2
          have f0 := NA2.out.c0
          have f1 := NA2.out.c1
          have f2 := NA2.out.c2
          have j0 : ((k : Int) != (k : Int)) = false := by rw [bne_eq_false_iff_eq]
          have j1 : ((l : Int) != (l : Int)) = false := by rw [bne_eq_false_iff_eq]
          have hll2 : [es, es'].flatten.length = N := by rw [← HNN.out, HLn.out, HLn'.out]; simp
          have RA := (NA.out.below HB2.out).rd
          have RB := (NB.out.below HB2.out).rd
          obtain ⟨w3, hw3⟩ : ∃ w3, w3 = w2.alloc (.cells #[.slice A n c, .slice A' n' c'] 22) := ⟨_, rfl⟩
          have hb3 : Below w2.heap.size w2 w3 := by rw [hw3]; exact below_new _ _
          have hk3 : Blk w3 w2.heap.size 22 [Value.slice A n c, .slice A' n' c'].toArray := by rw [hw3]; exact Blk.new _ _ _
          have HND := node_any k l _ 2 2 [es, es'] w3 (RdLL.two hk3 (RA.below hb3) (RB.below hb3)) (by rw [hll2]; have := HNN.out; omega) (HS.out.two HS'.out)
          rw [hll2] at HND
          have HNDD := Lib.hid HND
          have HW3 := Lib.hid hw3
          have HB3 : Hid (Below W.heap.size W w3) := HB2.out.trans (hb3.mono s2)
          have s3 := HB3.out.size
          clear HND RA RB hk3 hb3 hw3
          go_wp2_with fail
          rw [← HW3.out]
          refine HNDD.out.mono ?_
          rintro e w4 ⟨A9, c9, rfl, ho, hb⟩
          have HB4 : Hid (Below W.heap.size W w4) := HB3.out.trans (hb.mono s3)
          have s4 := HB4.out.size
          obtain ⟨g8, hg8e⟩ : ∃ g8, w4.heap.size = g8 := ⟨_, rfl⟩
          obtain ⟨w5, hw5⟩ : ∃ w5, w5 = w4.alloc (.cells #[.int .u8 (k : Int), .int .u8 (l : Int), .slice A9 N c9] 24) := ⟨_, rfl⟩
          have HK5 : Hid (Blk w5 g8 24 (ndA k l A9 N c9)) := by rw [hw5]; exact Blk.new' _ _ _ _ hg8e
          have HO5 : Hid (OwnN w5 W.heap.size A9 N c9 [es, es'].flatten) := by rw [hw5]; exact (ho.mono s3).below (below_new _ _)
          have HB5 : Hid (Below W.heap.size W w5) := by rw [hw5]; exact HB4.out.alloc s4 _
          have hg8 : W.heap.size ≤ g8 := by rw [← hg8e]; exact s4
          have s5 := HB5.out.size
          have HG8 := Lib.hid hg8e
          have HW5 := Lib.hid hw5
          have NA5 := Lib.hid (NA.out.below HB5.out)
          clear ho hb hw5 hg8e d0 d1 d2 f0 f1 f2 HNDD
          go_upto_region 4 with fail
          rw [← HW5.out, HG8.out]
          have m0 : w5.cell? ⟨g8, 0, none⟩ = some (.int .u8 (k : Int)) := HK5.out.cell 0
          by_cases hk2 : k = 2
          · have hd : ((k : Int) == 2) = true := by rw [beq_iff_eq]; omega
            have hn'0 : 0 < n' := HPOS.out hk2
            have HLk : Hid (L = setK [es, es'].flatten n key) := by show _ = _; rw [← HL.out, oneL, if_pos hk2, ← HLn.out]
            clear hk2
            go_upto_region 5 with fail
            clear m0 hd
            have hnN : n < N := by have := HNN.out; omega
            obtain ⟨g9, v9, rfl, a9, fr9, hg9⟩ := HO5.out.cellAt n hnN
            have HL9 := Lib.hid (HO5.out.lt _ rfl)
            have hN9 : N ≤ c9 := HO5.out.cap.1
            have hc9 : c9 ≤ 9223372036854775807 := by have := HO5.out.cap.2; unfold maxLen at this; omega
            have i1 : (0 : Int) ≤ (n : Int) := by omega
            have i2 : (n : Int) < (N : Int) := by omega
            refine region_gate 10 (fun V => V.cell? ⟨g8, 2, none⟩ = some (.slice (some ⟨g9, 0, none⟩) N c9) ∧ V.cell? ⟨w.heap.size, 2, none⟩ = some (.slice A n c)) (by kernel_rfl) ?th1 (fun hHeld => ?tk1)
            case th1 => ((try dsimp only); exact ⟨HK5.out.cell 2, NA5.out.c2⟩)
            refine' takeV 0 (oi := _) (d := _) (v := _) ?ti2 ?td2 (by kernel_rfl) (by kernel_rfl) (by kernel_rfl) (by kernel_rfl) (by decide) (fun _ _ _ _ _ h => h) ?tg2 ?ty2 (by assumption) ?tr2
            case ti2 => (simp only [List.getElem?_toArray, List.getElem?_cons_succ, List.getElem?_cons_zero]; rfl)
            case td2 => exact rfl
            case tg2 => exact rfl
            case ty2 => (intro w hSw; (try dsimp only at hSw); go_split_ands; go_simp; try with_reducible rfl)
            simp only [List.setIfInBounds_toArray, List.set_cons_zero, List.set_cons_succ]
            refine' takeV 1 (oi := _) (d := _) (v := _) ?ti3 ?td3 (by kernel_rfl) (by kernel_rfl) (by kernel_rfl) (by kernel_rfl) (by decide) (fun _ _ _ _ _ h => h) ?tg3 ?ty3 (by assumption) ?tr3
            case ti3 => (simp only [List.getElem?_toArray, List.getElem?_cons_succ, List.getElem?_cons_zero]; rfl)
            case td3 => exact rfl
            case tg3 => exact rfl
            case ty3 => (intro w hSw; (try dsimp only at hSw); go_split_ands; go_simp; try with_reducible rfl)
            simp only [List.setIfInBounds_toArray, List.set_cons_zero, List.set_cons_succ]
            refine' takeV 2 (oi := _) (d := _) (v := _) ?ti4 ?td4 (by kernel_rfl) (by kernel_rfl) (by kernel_rfl) (by kernel_rfl) (by decide) (fun _ _ _ _ _ h => h) ?tg4 ?ty4 (by assumption) ?tr4
            case ti4 => (simp only [List.getElem?_toArray, List.getElem?_cons_succ, List.getElem?_cons_zero]; rfl)
            case td4 => exact rfl
            case tg4 => exact rfl
            case ty4 => (intro w hSw; (try dsimp only at hSw); go_split_ands; go_simp; try with_reducible rfl)
            simp only [List.setIfInBounds_toArray, List.set_cons_zero, List.set_cons_succ]
            refine' takeV 3 (oi := _) (d := _) (v := _) ?ti5 ?td5 (by kernel_rfl) (by kernel_rfl) (by kernel_rfl) (by kernel_rfl) (by decide) (fun _ _ _ _ _ h => h) ?tg5 ?ty5 (by assumption) ?tr5
            case ti5 => (simp only [List.getElem?_toArray, List.getElem?_cons_succ, List.getElem?_cons_zero]; rfl)
            case td5 => exact rfl
            case tg5 => exact rfl
            case ty5 => (intro w hSw; (try dsimp only at hSw); go_split_ands; go_simp; try with_reducible rfl)
            simp only [List.setIfInBounds_toArray, List.set_cons_zero, List.set_cons_succ]
            refine' takeV 4 (oi := _) (d := _) (v := _) ?ti6 ?td6 (by kernel_rfl) (by kernel_rfl) (by kernel_rfl) (by kernel_rfl) (by decide) (fun _ _ _ _ _ h => h) ?tg6 ?ty6 (by assumption) ?tr6
            case ti6 => (simp only [List.getElem?_toArray, List.getElem?_cons_succ, List.getElem?_cons_zero]; rfl)
            case td6 => exact rfl
            case tg6 => exact rfl
            case ty6 => (intro w hSw; (try dsimp only at hSw); go_split_ands; go_simp; try with_reducible rfl)
            simp only [List.setIfInBounds_toArray, List.set_cons_zero, List.set_cons_succ]
            refine' takeV 6 (oi := _) (d := _) (v := _) ?ti7 ?td7 (by kernel_rfl) (by kernel_rfl) (by kernel_rfl) (by kernel_rfl) (by decide) (fun _ _ _ _ _ h => h) ?tg7 ?ty7 (by assumption) ?tr7
            case ti7 => (simp only [List.getElem?_toArray, List.getElem?_cons_succ, List.getElem?_cons_zero]; rfl)
            case td7 => exact rfl
            case tg7 => exact rfl
            case ty7 => (intro w hSw; (try dsimp only at hSw); go_split_ands; go_simp; try with_reducible rfl)
            simp only [List.setIfInBounds_toArray, List.set_cons_zero, List.set_cons_succ]
            obtain ⟨V0, hV0⟩ : ∃ V0, V0 = w5.drew := ⟨_, rfl⟩
            have b0 : Below w5.heap.size w5 V0 := by rw [hV0]; exact (Below.refl _ _).drew
            rw [← hV0] at hHeld ⊢
            clear hV0
            have hl8 := HK5.out.lt
            have hln := NA5.out.blk.lt
            have t0 := b0.size
            refine stepG 5 (by kernel_rfl) (by simp only [List.getElem?_toArray, List.getElem?_cons_succ, List.getElem?_cons_zero]; rfl) (fun K hK => ?_)
            go_simp
            refine hK.out _ _ ?ts8 (fun hHeld => ?_)
            case ts8 => ((try dsimp only); (have hx := b0.trans ((below_new V0 (.cells #[] 5)).mono t0); exact ⟨(HK5.out.below hx hl8).cell 2, (NA5.out.blk.below hx hln).cell 2⟩))
            clear hK K
            have hF : Own (V0.alloc (.cells #[] 5)) V0.heap.size (some ⟨V0.heap.size, 0, none⟩) 0 0 [] := Own.fresh V0 V0.heap.size [] 0 rfl (by omega) (Nat.le_refl _)
            have hx1 : Below w5.heap.size w5 (V0.alloc (.cells #[] 5)) := b0.trans ((below_new V0 (.cells #[] 5)).mono t0)
            have t1 := hx1.size
            have hs1 : (V0.alloc (.cells #[] 5)).heap.size = V0.heap.size + 1 := size_new _ _
            have hRk := (HKY.out.below HB5.out).below hx1
            clear hHeld
            refine stepG 7 (by kernel_rfl) (by simp only [List.getElem?_toArray, List.getElem?_cons_succ, List.getElem?_cons_zero]; rfl) (fun K hK => ?_)
            refine step_app 28 Try.underlying28 rfl (.tmp 50) (.tmp 51) rfl rfl rfl hF hRk (by omega) (by omega) ?_
            intro B1 d1 v2 hown2 hg2 hb2
            refine hK.out _ _ ?ts9 (fun hHeld => ?_)
            case ts9 => ((try dsimp only); (have hx := hx1.trans (hb2.mono t0); exact ⟨(HK5.out.below hx hl8).cell 2, (NA5.out.blk.below hx hln).cell 2⟩))
            clear hK K
            have hx2 : Below w5.heap.size w5 v2 := hx1.trans (hb2.mono t0)
            have t2 := hx2.size
            have OK2 : Own v2 W.heap.size B1 nk d1 key := by rw [Nat.zero_add, List.nil_append] at hown2; exact hown2.mono (by omega)
            rw [Nat.zero_add]
            have O2 := HO5.out.below hx2
            have a2 : v2.cell? ⟨g9, n * 9, none⟩ = some v9 := (hx2.cell (p := ⟨g9, n * 9, none⟩) HL9.out).trans a9
            have fr2 : v2.frozen? ⟨g9, n * 9, none⟩ = false := (hx2.frozen (p := ⟨g9, n * 9, none⟩) HL9.out).trans fr9
            have HKA := Lib.hid (O2.keyAt n hnN hll2.symm OK2)
            have HK2 := Lib.hid (HK5.out.below hx2 hl8)
            have HG2 := Lib.hid (grown_setCell v2 g9 (n * 9) (.slice B1 nk d1))
            have HX2 : Hid (Below W.heap.size W v2) := HB5.out.trans (hx2.mono s5)
            have sx2 := HX2.out.size
            have HNE : Hid (OwnN v2 W.heap.size (some ⟨g9, 0, none⟩) N c9 [es, es'].flatten) := O2
            clear hown2 hg2 hb2 hF hRk OK2 O2 a9 fr9
            refine' takeW 8 (oi := _) (d := _) (v := _) ?ti10 ?td10 (by kernel_rfl) (by kernel_rfl) (by kernel_rfl) (by decide) (fun _ _ _ _ _ h => h) ?tg10 ?ty10 ?tf10 ?tr10
            case ti10 => (simp only [List.getElem?_toArray, List.getElem?_cons_succ, List.getElem?_cons_zero]; rfl)
            case td10 => exact rfl
            case tg10 => exact rfl
            case ty10 => (intro w; go_simp; try with_reducible rfl)
            case tf10 => first | (intro _; assumption) | (intro e; exact absurd e (by decide +kernel))
            simp only [List.setIfInBounds_toArray, List.set_cons_zero, List.set_cons_succ]
            refine' takeW 9 (oi := _) (d := _) (v := _) ?ti11 ?td11 (by kernel_rfl) (by kernel_rfl) (by kernel_rfl) (by decide) (fun _ _ _ _ _ h => h) ?tg11 ?ty11 ?tf11 ?tr11
            case ti11 => (simp only [List.getElem?_toArray, List.getElem?_cons_succ, List.getElem?_cons_zero]; rfl)
            case td11 => exact rfl
            case tg11 => exact rfl
            case ty11 => (intro w; go_simp; try with_reducible rfl)
            case tf11 => first | (intro _; assumption) | (intro e; exact absurd e (by decide +kernel))
            simp only [List.setIfInBounds_toArray, List.set_cons_zero, List.set_cons_succ]
            clear hHeld
            refine stepGate 10 (by kernel_rfl) (by kernel_rfl) (by simp only [List.getElem?_toArray, List.getElem?_cons_succ, List.getElem?_cons_zero]; rfl) (fun K hK => ?_)
            go_simp
            refine hK.out _ _ ?_
            clear hK K
            refine doneG (by kernel_rfl) ?_ _
            go_upto_region 6 with fail
            obtain ⟨w6, hw6⟩ : ∃ w6, w6 = v2.setCell ⟨g9, n * 9, none⟩ (.slice B1 nk d1) := ⟨_, rfl⟩
            rw [← hw6] at HKA HG2 ⊢
            clear hw6 a2 fr2
            have HO : Hid (OwnN w6 W.heap.size (some ⟨g9, 0, none⟩) N c9 L) := by rw [HLk.out]; exact HKA.out
            have HKM : Hid (Blk w6 g8 24 (ndA k l (some ⟨g9, 0, none⟩) N c9)) := by obtain ⟨css, hoe, _⟩ := HNE.out; exact hoe.keepBlk HK2.out (by decide) HG2.out
            have HBE : Hid (Below W.heap.size W w6) := HX2.out.grown HG2.out (by omega) (by intro q hq; simp at hq; omega)
            clear HKA HK2 HNE HX2 HK5 HO5 NA5 HB5 s5 hx1 hx2 b0
            have m0 : w6.cell? ⟨g8, 0, none⟩ = some (.int .u8 (k : Int)) := HKM.out.cell 0
            have m1 : w6.cell? ⟨g8, 1, none⟩ = some (.int .u8 (l : Int)) := HKM.out.cell 1
            have m2 : w6.cell? ⟨g8, 2, none⟩ = some (.slice (some ⟨g9, 0, none⟩) N c9) := HKM.out.cell 2
            refine region_gate 6 (fun V => V.cell? ⟨g8, 0, none⟩ = some (.int .u8 (k : Int)) ∧ V.cell? ⟨g8, 1, none⟩ = some (.int .u8 (l : Int)) ∧ V.cell? ⟨g8, 2, none⟩ = some (.slice (some ⟨g9, 0, none⟩) N c9)) (by kernel_rfl) ?th12 (fun hHeld => ?tk12)
            case th12 => ((try dsimp only); exact ⟨m0, m1, m2⟩)
            refine' takeV 0 (oi := _) (d := _) (v := _) ?ti13 ?td13 (by kernel_rfl) (by kernel_rfl) (by kernel_rfl) (by kernel_rfl) (by decide) (fun _ _ _ _ _ h => h) ?tg13 ?ty13 (by assumption) ?tr13
            case ti13 => (simp only [List.getElem?_toArray, List.getElem?_cons_succ, List.getElem?_cons_zero]; rfl)
            case td13 => exact rfl
            case tg13 => exact rfl
            case ty13 => (intro w hSw; (try dsimp only at hSw); go_split_ands; go_simp; try with_reducible rfl)
            simp only [List.setIfInBounds_toArray, List.set_cons_zero, List.set_cons_succ]
            refine' takeV 1 (oi := _) (d := _) (v := _) ?ti14 ?td14 (by kernel_rfl) (by kernel_rfl) (by kernel_rfl) (by kernel_rfl) (by decide) (fun _ _ _ _ _ h => h) ?tg14 ?ty14 (by assumption) ?tr14
            case ti14 => (simp only [List.getElem?_toArray, List.getElem?_cons_succ, List.getElem?_cons_zero]; rfl)
            case td14 => exact rfl
            case tg14 => exact rfl
            case ty14 => (intro w hSw; (try dsimp only at hSw); go_split_ands; go_simp; try with_reducible rfl)
            simp only [List.setIfInBounds_toArray, List.set_cons_zero, List.set_cons_succ]
            obtain ⟨V0, hV0⟩ : ∃ V0, V0 = w6.drew := ⟨_, rfl⟩
            have b0 : Below w6.heap.size w6 V0 := by rw [hV0]; exact (Below.refl _ _).drew
            rw [← hV0] at hHeld ⊢
            clear hV0 m0 m1 m2
            have k0 := Lib.hid (HKM.out.below b0 HKM.out.lt)
            have O0 := Lib.hid (HO.out.below b0)
            have B0 : Hid (Below W.heap.size W V0) := HBE.out.trans (b0.mono HBE.out.size)
            have s0 := B0.out.size
            have HC := right_any k l (some ⟨g9, 0, none⟩) N c9 L V0 (O0.out.rdl HLL.out.symm) hk hl
            rw [HEE.out] at HC
            clear hHeld b0
            refine stepG 2 (by kernel_rfl) (by simp only [List.getElem?_toArray, List.getElem?_cons_succ, List.getElem?_cons_zero]; rfl) (fun K hK => ?_)
            go_simp
            refine (HC).mono ?_
            rintro e v1 ⟨rfl, hb⟩
            refine hK.out _ _ ?ts15 (fun hHeld => ?_)
            case ts15 => ((try dsimp only); (have q := k0.out.below hb k0.out.lt; exact ⟨q.cell 0, q.cell 1, q.cell 2⟩))
            clear hK K
            have k1 := Lib.hid (k0.out.below hb k0.out.lt)
            have O1 := Lib.hid (O0.out.below hb)
            have B1 : Hid (Below W.heap.size W v1) := B0.out.trans (hb.mono s0)
            have s1 := B1.out.size
            have kz := Lib.hid (KZ.out.below B1.out KZ.out.lt)
            have tokE : (E == 0) = qq := HQQ.out
            clear HC hb
            refine' takeV 3 (oi := _) (d := _) (v := _) ?ti16 ?td16 (by kernel_rfl) (by kernel_rfl) (by kernel_rfl) (by kernel_rfl) (by decide) (fun _ _ _ _ _ h => h) ?tg16 ?ty16 (by assumption) ?tr16
            case ti16 => (simp only [List.getElem?_toArray, List.getElem?_cons_succ, List.getElem?_cons_zero]; rfl)
            case td16 => exact rfl
            case tg16 => exact rfl
            case ty16 => (intro w hSw; (try dsimp only at hSw); go_split_ands; go_simp; try with_reducible rfl)
            simp only [List.setIfInBounds_toArray, List.set_cons_zero, List.set_cons_succ]
            clear hHeld
            refine stepG 4 (by kernel_rfl) (by simp only [List.getElem?_toArray, List.getElem?_cons_succ, List.getElem?_cons_zero]; rfl) (fun K hK => ?_)
            refine step_store_blk rfl 24 (.tmp 6) (.tmp 55) rfl rfl (cs := [.int .u8 (k : Int), .int .u8 (l : Int), .slice (some ⟨g9, 0, none⟩) N c9]) rfl kz.out rfl infoNd (nd_one _ _ _ _ _) ?_
            intro wa hka hga
            refine hK.out _ _ ?ts17 (fun hHeld => ?_)
            case ts17 => ((try dsimp only); (have q := k1.out.keep_grown hga (by simp; omega); exact ⟨q.cell 0, q.cell 1, q.cell 2⟩))
            clear hK K
            refine' takeV 5 (oi := _) (d := _) (v := _) ?ti18 ?td18 (by kernel_rfl) (by kernel_rfl) (by kernel_rfl) (by kernel_rfl) (by decide) (fun _ _ _ _ _ h => h) ?tg18 ?ty18 (by assumption) ?tr18
            case ti18 => (simp only [List.getElem?_toArray, List.getElem?_cons_succ, List.getElem?_cons_zero]; rfl)
            case td18 => exact rfl
            case tg18 => exact rfl
            case ty18 => (intro w hSw; (try dsimp only at hSw); go_split_ands; go_simp; try with_reducible rfl)
            simp only [List.setIfInBounds_toArray, List.set_cons_zero, List.set_cons_succ]
            refine doneG (by kernel_rfl) ?_ _
            clear hHeld
            go_wp2_with fail
            have e0 := hka.cell 0
            have e1 := hka.cell 1
            have e2 := hka.cell 2
            refine bodyPost_ret (v := .tuple #[NdV k l (some ⟨g9, 0, none⟩) N c9, .bool qq]) ?_ rfl ?_
            · simp [results, Try.results49, go_sem, e0, e1, e2]
            · rw [HOK.out]
              refine NodB.some_ HLL.out.symm ?_ ((HWB.out.trans (B1.out.mono HWB.out.size)).grown hga (by omega) (by intro q hq; simp at hq; omega))
              exact (O1.out.keptE kz.out (by decide) (by decide) hga).mono (by omega)
          · have hd : ((k : Int) == 2) = false := by rw [beq_eq_false_iff_ne]; omega
            have HLk : Hid (L = [es, es'].flatten) := by show _ = _; rw [← HL.out, oneL, if_neg hk2]
            clear hk2
            go_upto_region 6 with fail
            clear m0 hd
            have HO : Hid (OwnN w5 W.heap.size A9 N c9 L) := by rw [HLk.out]; exact HO5.out
            have HKM := HK5
            have HBE := HB5
            clear HK5 HO5 NA5 HB5
            have m0 : w5.cell? ⟨g8, 0, none⟩ = some (.int .u8 (k : Int)) := HKM.out.cell 0
            have m1 : w5.cell? ⟨g8, 1, none⟩ = some (.int .u8 (l : Int)) := HKM.out.cell 1
            have m2 : w5.cell? ⟨g8, 2, none⟩ = some (.slice A9 N c9) := HKM.out.cell 2
            refine region_gate 6 (fun V => V.cell? ⟨g8, 0, none⟩ = some (.int .u8 (k : Int)) ∧ V.cell? ⟨g8, 1, none⟩ = some (.int .u8 (l : Int)) ∧ V.cell? ⟨g8, 2, none⟩ = some (.slice A9 N c9)) (by kernel_rfl) ?th19 (fun hHeld => ?tk19)
            case th19 => ((try dsimp only); exact ⟨m0, m1, m2⟩)
            refine' takeV 0 (oi := _) (d := _) (v := _) ?ti20 ?td20 (by kernel_rfl) (by kernel_rfl) (by kernel_rfl) (by kernel_rfl) (by decide) (fun _ _ _ _ _ h => h) ?tg20 ?ty20 (by assumption) ?tr20
            case ti20 => (simp only [List.getElem?_toArray, List.getElem?_cons_succ, List.getElem?_cons_zero]; rfl)
            case td20 => exact rfl
            case tg20 => exact rfl
            case ty20 => (intro w hSw; (try dsimp only at hSw); go_split_ands; go_simp; try with_reducible rfl)
            simp only [List.setIfInBounds_toArray, List.set_cons_zero, List.set_cons_succ]
            refine' takeV 1 (oi := _) (d := _) (v := _) ?ti21 ?td21 (by kernel_rfl) (by kernel_rfl) (by kernel_rfl) (by kernel_rfl) (by decide) (fun _ _ _ _ _ h => h) ?tg21 ?ty21 (by assumption) ?tr21
            case ti21 => (simp only [List.getElem?_toArray, List.getElem?_cons_succ, List.getElem?_cons_zero]; rfl)
            case td21 => exact rfl
            case tg21 => exact rfl
            case ty21 => (intro w hSw; (try dsimp only at hSw); go_split_ands; go_simp; try with_reducible rfl)
            simp only [List.setIfInBounds_toArray, List.set_cons_zero, List.set_cons_succ]
            obtain ⟨V0, hV0⟩ : ∃ V0, V0 = w5.drew := ⟨_, rfl⟩
            have b0 : Below w5.heap.size w5 V0 := by rw [hV0]; exact (Below.refl _ _).drew
            rw [← hV0] at hHeld ⊢
            clear hV0 m0 m1 m2
            have k0 := Lib.hid (HKM.out.below b0 HKM.out.lt)
            have O0 := Lib.hid (HO.out.below b0)
            have B0 : Hid (Below W.heap.size W V0) := HBE.out.trans (b0.mono HBE.out.size)
            have s0 := B0.out.size
            have HC := right_any k l A9 N c9 L V0 (O0.out.rdl HLL.out.symm) hk hl
            rw [HEE.out] at HC
            clear hHeld b0
            refine stepG 2 (by kernel_rfl) (by simp only [List.getElem?_toArray, List.getElem?_cons_succ, List.getElem?_cons_zero]; rfl) (fun K hK => ?_)
            go_simp
            refine (HC).mono ?_
            rintro e v1 ⟨rfl, hb⟩
            refine hK.out _ _ ?ts22 (fun hHeld => ?_)
            case ts22 => ((try dsimp only); (have q := k0.out.below hb k0.out.lt; exact ⟨q.cell 0, q.cell 1, q.cell 2⟩))
            clear hK K
            have k1 := Lib.hid (k0.out.below hb k0.out.lt)
            have O1 := Lib.hid (O0.out.below hb)
            have B1 : Hid (Below W.heap.size W v1) := B0.out.trans (hb.mono s0)
            have s1 := B1.out.size
            have kz := Lib.hid (KZ.out.below B1.out KZ.out.lt)
            have tokE : (E == 0) = qq := HQQ.out
            clear HC hb
            refine' takeV 3 (oi := _) (d := _) (v := _) ?ti23 ?td23 (by kernel_rfl) (by kernel_rfl) (by kernel_rfl) (by kernel_rfl) (by decide) (fun _ _ _ _ _ h => h) ?tg23 ?ty23 (by assumption) ?tr23
            case ti23 => (simp only [List.getElem?_toArray, List.getElem?_cons_succ, List.getElem?_cons_zero]; rfl)
            case td23 => exact rfl
            case tg23 => exact rfl
            case ty23 => (intro w hSw; (try dsimp only at hSw); go_split_ands; go_simp; try with_reducible rfl)
            simp only [List.setIfInBounds_toArray, List.set_cons_zero, List.set_cons_succ]
            clear hHeld
            refine stepG 4 (by kernel_rfl) (by simp only [List.getElem?_toArray, List.getElem?_cons_succ, List.getElem?_cons_zero]; rfl) (fun K hK => ?_)
            refine step_store_blk rfl 24 (.tmp 6) (.tmp 55) rfl rfl (cs := [.int .u8 (k : Int), .int .u8 (l : Int), .slice A9 N c9]) rfl kz.out rfl infoNd (nd_one _ _ _ _ _) ?_
            intro wa hka hga
            refine hK.out _ _ ?ts24 (fun hHeld => ?_)
            case ts24 => ((try dsimp only); (have q := k1.out.keep_grown hga (by simp; omega); exact ⟨q.cell 0, q.cell 1, q.cell 2⟩))
            clear hK K
            refine' takeV 5 (oi := _) (d := _) (v := _) ?ti25 ?td25 (by kernel_rfl) (by kernel_rfl) (by kernel_rfl) (by kernel_rfl) (by decide) (fun _ _ _ _ _ h => h) ?tg25 ?ty25 (by assumption) ?tr25
            case ti25 => (simp only [List.getElem?_toArray, List.getElem?_cons_succ, List.getElem?_cons_zero]; rfl)
            case td25 => exact rfl
            case tg25 => exact rfl
            case ty25 => (intro w hSw; (try dsimp only at hSw); go_split_ands; go_simp; try with_reducible rfl)
            simp only [List.setIfInBounds_toArray, List.set_cons_zero, List.set_cons_succ]
            refine doneG (by kernel_rfl) ?_ _
            clear hHeld
            go_wp2_with fail
            have e0 := hka.cell 0
            have e1 := hka.cell 1
            have e2 := hka.cell 2
            refine bodyPost_ret (v := .tuple #[NdV k l A9 N c9, .bool qq]) ?_ rfl ?_
            · simp [results, Try.results49, go_sem, e0, e1, e2]
            · rw [HOK.out]
              refine NodB.some_ HLL.out.symm ?_ ((HWB.out.trans (B1.out.mono HWB.out.size)).grown hga (by omega) (by intro q hq; simp at hq; omega))
              exact (O1.out.keptE kz.out (by decide) (by decide) hga).mono (by omega)
        · have HBAD : Hid (oneB k l es k' l' es' = false ∧ (oneB k l es k' l' es' && (rE k l (oneL k es es' key) == 0)) = false) := by
            have : oneB k l es k' l' es' = false := by simp [oneB, hll]
            exact ⟨this, by rw [this]; rfl⟩
          obtain ⟨b1, hb1⟩ : ∃ b1, b1 = oneB k l es k' l' es' := ⟨_, rfl⟩
          obtain ⟨b2, hb2⟩ : ∃ b2, b2 = (oneB k l es k' l' es' && (rE k l (oneL k es es' key) == 0)) := ⟨_, rfl⟩
          rw [← hb2, ← hb1] at HBAD ⊢
          clear hb1 hb2
          subst hkk
          have HR2 := Lib.hid (fun V (hb : Below W.heap.size W V) => right_any k l' A' n' c' es' V (NB.out.below hb).rd hk hl')
          rw [hr'] at HR2
          have j0 : ((k : Int) != (k : Int)) = false := by rw [bne_eq_false_iff_eq]
          have j1 : ((l : Int) != (l' : Int)) = true := by rw [bne_iff_ne]; omega
          clear hr hr'
          go_enter Try.func49, Try.ntmps49
          go_wp2_with fail
          rw [← HW.out]
          refine HM.out.mono ?_
          rintro e w1 ⟨rfl, hb1⟩
          have NB1 := Lib.hid (NB.out.below hb1)
          have HB1 := Lib.hid hb1
          have s1 := hb1.size
          have HCC := Lib.hid (HR2.out w1 hb1)
          clear d0 d1 d2 hb1 HM
          have d0 := NB1.out.c0
          have d1 := NB1.out.c1
          have d2 := NB1.out.c2
          go_wp2_with fail
          refine HCC.out.mono ?_
          rintro e w2 ⟨rfl, hb2⟩
          have HB2 : Hid (Below W.heap.size W w2) := HB1.out.trans (hb2.mono s1)
          have NB2 := Lib.hid (NB.out.below HB2.out)
          have NA2 := Lib.hid (NA.out.below HB2.out)
          clear d0 d1 d2 hb2 HCC HB1 NB1
          have d0 := NB2.out.c0
          have d1 := NB2.out.c1
          have d2 := NB2.out.c2
          have f0 := NA2.out.c0
          have f1 := NA2.out.c1
          have f2 := NA2.out.c2
          have kz := Lib.hid (KZ.out.below HB2.out KZ.out.lt)
          have hi0 : (Try.prog.info? 24).map (·.size) = some [Value.int .u8 0, .int .u8 0, .slice none 0 0].length := infoNd
          have ho0 : ∀ v ∈ [Value.int .u8 0, .int .u8 0, .slice none 0 0], v.oneCell' = true := nd_one 0 0 none 0 0
          go_wp2_with (with_reducible refine wpList_store_blk rfl 24 (.tmp 6) (.tmp 31) rfl rfl (cs := [Value.int .u8 0, .int .u8 0, .slice none 0 0]) rfl kz.out z3len hi0 ho0 ?_; intro w9 hk9 hg9)
          have e0 := hk9.cell 0
          have e1 := hk9.cell 1
          have e2 := hk9.cell 2
          refine bodyPost_ret (v := .tuple #[NdV 0 0 none 0 0, .bool false]) ?_ rfl (NodB.none_ HBAD.out ((HWB.out.trans ((HB2.out).mono HWB.out.size)).grown hg9 (by have := (HB2.out).size; omega) (by intro q hq; simp at hq; omega)))
          simp [results, Try.results49, go_sem, e0, e1, e2]
      · have HBAD : Hid (oneB k l es k' l' es' = false ∧ (oneB k l es k' l' es' && (rE k l (oneL k es es' key) == 0)) = false) := by
          have : oneB k l es k' l' es' = false := by simp [oneB, hkk]
          exact ⟨this, by rw [this]; rfl⟩
        obtain ⟨b1, hb1⟩ : ∃ b1, b1 = oneB k l es k' l' es' := ⟨_, rfl⟩
        obtain ⟨b2, hb2⟩ : ∃ b2, b2 = (oneB k l es k' l' es' && (rE k l (oneL k es es' key) == 0)) := ⟨_, rfl⟩
        rw [← hb2, ← hb1] at HBAD ⊢
        clear hb1 hb2
        have HR2 := Lib.hid (fun V (hb : Below W.heap.size W V) => right_any k' l' A' n' c' es' V (NB.out.below hb).rd hk' hl')
        rw [hr'] at HR2
        have j0 : ((k : Int) != (k' : Int)) = true := by rw [bne_iff_ne]; omega
        clear hr hr'
        go_enter Try.func49, Try.ntmps49
        go_wp2_with fail
        rw [← HW.out]
        refine HM.out.mono ?_
        rintro e w1 ⟨rfl, hb1⟩
        have NB1 := Lib.hid (NB.out.below hb1)
        have HB1 := Lib.hid hb1
        have s1 := hb1.size
        have HCC := Lib.hid (HR2.out w1 hb1)
        clear d0 d1 d2 hb1 HM
        have d0 := NB1.out.c0
        have d1 := NB1.out.c1
        have d2 := NB1.out.c2
        go_wp2_with fail
        refine HCC.out.mono ?_
        rintro e w2 ⟨rfl, hb2⟩
        have HB2 : Hid (Below W.heap.size W w2) := HB1.out.trans (hb2.mono s1)
        have NB2 := Lib.hid (NB.out.below HB2.out)
        have NA2 := Lib.hid (NA.out.below HB2.out)
        clear d0 d1 d2 hb2 HCC HB1 NB1
        have d0 := NB2.out.c0
        have d1 := NB2.out.c1
        have d2 := NB2.out.c2
        have f0 := NA2.out.c0
        have f1 := NA2.out.c1
        have f2 := NA2.out.c2
        have kz := Lib.hid (KZ.out.below HB2.out KZ.out.lt)
        have hi0 : (Try.prog.info? 24).map (·.size) = some [Value.int .u8 0, .int .u8 0, .slice none 0 0].length := infoNd
        have ho0 : ∀ v ∈ [Value.int .u8 0, .int .u8 0, .slice none 0 0], v.oneCell' = true := nd_one 0 0 none 0 0
        go_wp2_with (with_reducible refine wpList_store_blk rfl 24 (.tmp 6) (.tmp 31) rfl rfl (cs := [Value.int .u8 0, .int .u8 0, .slice none 0 0]) rfl kz.out z3len hi0 ho0 ?_; intro w9 hk9 hg9)
        have e0 := hk9.cell 0
        have e1 := hk9.cell 1
        have e2 := hk9.cell 2
        refine bodyPost_ret (v := .tuple #[NdV 0 0 none 0 0, .bool false]) ?_ rfl (NodB.none_ HBAD.out ((HWB.out.trans ((HB2.out).mono HWB.out.size)).grown hg9 (by have := (HB2.out).size; omega) (by intro q hq; simp at hq; omega)))
        simp [results, Try.results49, go_sem, e0, e1, e2]
    · have HBAD : Hid (oneB k l es k' l' es' = false ∧ (oneB k l es k' l' es' && (rE k l (oneL k es es' key) == 0)) = false) := by
        have : oneB k l es k' l' es' = false := by simp [oneB, hr']
        exact ⟨this, by rw [this]; rfl⟩
      obtain ⟨b1, hb1⟩ : ∃ b1, b1 = oneB k l es k' l' es' := ⟨_, rfl⟩
      obtain ⟨b2, hb2⟩ : ∃ b2, b2 = (oneB k l es k' l' es' && (rE k l (oneL k es es' key) == 0)) := ⟨_, rfl⟩
      rw [← hb2, ← hb1] at HBAD ⊢
      clear hb1 hb2
      obtain ⟨E', HE'⟩ : ∃ E', Hid (rE k' l' es' = E') := ⟨_, rfl⟩
      have HR2 := Lib.hid (fun V (hb : Below W.heap.size W V) => right_any k' l' A' n' c' es' V (NB.out.below hb).rd hk' hl')
      rw [HE'.out] at HR2
      have jE : (E' != 0) = true := by rw [bne_iff_ne, ← HE'.out]; exact hr'
      clear hr hr'
      go_enter Try.func49, Try.ntmps49
      go_wp2_with fail
      rw [← HW.out]
      refine HM.out.mono ?_
      rintro e w1 ⟨rfl, hb1⟩
      have NB1 := Lib.hid (NB.out.below hb1)
      have HB1 := Lib.hid hb1
      have s1 := hb1.size
      have HCC := Lib.hid (HR2.out w1 hb1)
      clear d0 d1 d2 hb1 HM
      have d0 := NB1.out.c0
      have d1 := NB1.out.c1
      have d2 := NB1.out.c2
      go_wp2_with fail
      refine HCC.out.mono ?_
      rintro e w2 ⟨rfl, hb2⟩
      have HB2 : Hid (Below W.heap.size W w2) := HB1.out.trans (hb2.mono s1)
      have NB2 := Lib.hid (NB.out.below HB2.out)
      have NA2 := Lib.hid (NA.out.below HB2.out)
      clear d0 d1 d2 hb2 HCC HB1 NB1
      have d0 := NB2.out.c0
      have d1 := NB2.out.c1
      have d2 := NB2.out.c2
      have f0 := NA2.out.c0
      have f1 := NA2.out.c1
      have f2 := NA2.out.c2
      have kz := Lib.hid (KZ.out.below HB2.out KZ.out.lt)
      have hi0 : (Try.prog.info? 24).map (·.size) = some [Value.int .u8 0, .int .u8 0, .slice none 0 0].length := infoNd
      have ho0 : ∀ v ∈ [Value.int .u8 0, .int .u8 0, .slice none 0 0], v.oneCell' = true := nd_one 0 0 none 0 0
      go_wp2_with (with_reducible refine wpList_store_blk rfl 24 (.tmp 6) (.tmp 31) rfl rfl (cs := [Value.int .u8 0, .int .u8 0, .slice none 0 0]) rfl kz.out z3len hi0 ho0 ?_; intro w9 hk9 hg9)
      have e0 := hk9.cell 0
      have e1 := hk9.cell 1
      have e2 := hk9.cell 2
      refine bodyPost_ret (v := .tuple #[NdV 0 0 none 0 0, .bool false]) ?_ rfl (NodB.none_ HBAD.out ((HWB.out.trans ((HB2.out).mono HWB.out.size)).grown hg9 (by have := (HB2.out).size; omega) (by intro q hq; simp at hq; omega)))
      simp [results, Try.results49, go_sem, e0, e1, e2]
  · have HBAD : Hid (oneB k l es k' l' es' = false ∧ (oneB k l es k' l' es' && (rE k l (oneL k es es' key) == 0)) = false) := by
      have : oneB k l es k' l' es' = false := by simp [oneB, hr]
      exact ⟨this, by rw [this]; rfl⟩
    obtain ⟨b1, hb1⟩ : ∃ b1, b1 = oneB k l es k' l' es' := ⟨_, rfl⟩
    obtain ⟨b2, hb2⟩ : ∃ b2, b2 = (oneB k l es k' l' es' && (rE k l (oneL k es es' key) == 0)) := ⟨_, rfl⟩
    rw [← hb2, ← hb1] at HBAD ⊢
    clear hb1 hb2
    obtain ⟨E', HE'⟩ : ∃ E', Hid (rE k l es = E') := ⟨_, rfl⟩
    rw [HE'.out] at HM
    have jE : (E' != 0) = true := by rw [bne_iff_ne, ← HE'.out]; exact hr
    clear hr
    go_enter Try.func49, Try.ntmps49
    go_wp2_with fail
    rw [← HW.out]
    refine HM.out.mono ?_
    rintro e w1 ⟨rfl, hb1⟩
    have HB1 := Lib.hid hb1
    clear d0 d1 d2 hb1 HM
    have kz := Lib.hid (KZ.out.below HB1.out KZ.out.lt)
    have hi0 : (Try.prog.info? 24).map (·.size) = some [Value.int .u8 0, .int .u8 0, .slice none 0 0].length := infoNd
    have ho0 : ∀ v ∈ [Value.int .u8 0, .int .u8 0, .slice none 0 0], v.oneCell' = true := nd_one 0 0 none 0 0
    go_wp2_with (with_reducible refine wpList_store_blk rfl 24 (.tmp 6) (.tmp 31) rfl rfl (cs := [Value.int .u8 0, .int .u8 0, .slice none 0 0]) rfl kz.out z3len hi0 ho0 ?_; intro w9 hk9 hg9)
    have e0 := hk9.cell 0
    have e1 := hk9.cell 1
    have e2 := hk9.cell 2
    refine bodyPost_ret (v := .tuple #[NdV 0 0 none 0 0, .bool false]) ?_ rfl (NodB.none_ HBAD.out ((HWB.out.trans ((HB1.out).mono HWB.out.size)).grown hg9 (by have := (HB1.out).size; omega) (by intro q hq; simp at hq; omega)))
    simp [results, Try.results49, go_sem, e0, e1, e2]
end Go.Proofs.Ytgihcjmcefdkiaa
