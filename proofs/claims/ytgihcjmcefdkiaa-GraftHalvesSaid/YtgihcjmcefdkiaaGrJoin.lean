/- Contracts: Join, graft's and the reference's. -/
import Derived.Test.YtgihcjmcefdkiaaGrOneR
set_option linter.unusedVariables false
set_option linter.unusedSimpArgs false
namespace Go.Proofs.Ytgihcjmcefdkiaa
open Go.RowKit

theorem nd_len (k l : Nat) (A : Option Addr) (n c : Nat) : [Value.int .u8 (k : Int), .int .u8 (l : Int), .slice A n c].length = [Value.int .u8 (k : Int), .int .u8 (l : Int), .slice A n c].length := rfl
theorem NodB.ok {f : Nat} {args : Array Value} {w : World} {b q : Bool} {k l N : Nat} {L : List Ent} (h : Calls Try.prog f args w (NodB b q k l L w)) (hb : b = true) (hq : q = true) (hN : L.length = N) :
    Calls Try.prog f args w fun e w' => ∃ A c, e = .returned (.tuple #[NdV k l A N c, .bool true]) ∧ OwnN w' w.heap.size A N c L ∧ Below w.heap.size w w' := by
  subst hb; subst hq; subst hN
  exact h.mono fun e w' ⟨A, c, he, ho, hb⟩ => ⟨A, c, he, ho, hb⟩
theorem NodB.no {f : Nat} {args : Array Value} {w : World} {b q : Bool} {k l : Nat} {L : List Ent} (h : Calls Try.prog f args w (NodB b q k l L w)) (hq : q = false) :
    Calls Try.prog f args w fun e w' => ∃ k9 l9 A9 n9 c9, e = .returned (.tuple #[NdV k9 l9 A9 n9 c9, .bool false]) ∧ Below w.heap.size w w' := by
  subst hq
  exact h.mono fun e w' ⟨A, c, he, ho, hb⟩ => ⟨_, _, A, _, c, he, hb⟩
/-- Are two nodes joined? -/
def joinB (k l : Nat) (es : List Ent) (k' l' : Nat) (es' : List Ent) (key : List UInt8) : Bool := (oneB k l es k' l' es' && (rE k l (oneL k es es' key) == 0)) && decide (3 + (entsB k (oneL k es es' key)).length ≤ 224)
set_option maxRecDepth 100000 in
set_option maxHeartbeats 3200000 in
theorem join_any (k l : Nat) (A : Option Addr) (n c : Nat) (es : List Ent) (k' l' : Nat) (A' : Option Addr) (n' c' : Nat) (es' : List Ent) (Ak : Option Addr) (nk ck : Nat) (key : List UInt8) (w : World) (h : RdL w A n c es) (h' : RdL w A' n' c' es') (hky : Rd w Ak nk ck key)
    (hk : k < 256) (hl : l < 256) (hk' : k' < 256) (hl' : l' < 256) (hN : n ≤ 4000) (hN' : n' ≤ 4000) (hs : shortE es) (hc4 : ∀ j, j < es.length → (es.getD j ent0).key.length ≤ 4096 ∧ (es.getD j ent0).val.length ≤ 4096) (hs' : shortE es') (hin : esIn es) (hin' : esIn es') (hkn : nk ≤ 140737488355328) :
    Calls Try.prog 32 #[NdV k l A n c, NdV k' l' A' n' c', .slice Ak nk ck] w (NodB (joinB k l es k' l' es' key) (joinB k l es k' l' es' key) k l (oneL k es es' key) w) := by
  have hkn0 : key.length ≤ 140737488355328 := by rw [← hky.len]; exact hkn
  have hcap := h.cap
  have hcap' := h'.cap
  have HLn := Lib.hid h.len
  have HLn' := Lib.hid h'.len
  obtain ⟨L, HL⟩ : ∃ L, Hid (oneL k es es' key = L) := ⟨_, rfl⟩
  obtain ⟨N, HNN⟩ : ∃ N, Hid (n + n' = N) := ⟨_, rfl⟩
  have HLL : Hid (L.length = N) := by show _ = _; rw [← HL.out, oneL_length, ← HLn.out, ← HLn'.out]; exact HNN.out
  have HNle : Hid (N ≤ 9000) := by show _ ≤ _; rw [← HNN.out]; omega
  have HSL : Hid (shortE L) := by rw [← HL.out]; exact hs.one hs' hkn0
  have HIL : Hid (esIn L) := by rw [← HL.out]; exact hin.one hin'
  obtain ⟨W, hW⟩ : ∃ W, W = ((w.alloc (.cells #[.int .u8 (k : Int), .int .u8 (l : Int), .slice A n c] 24)).alloc (.cells #[.int .u8 (k' : Int), .int .u8 (l' : Int), .slice A' n' c'] 24)).alloc (.cells #[.int .u8 0, .int .u8 0, .slice none 0 0] 24) := ⟨_, rfl⟩
  have HWB : Hid (Below w.heap.size w W) := by rw [hW]; exact ((below_new _ _).alloc (by simp) _).alloc (by simp; omega) _
  have NA : Hid (Nin W w.heap.size k l A n c es) := ⟨by rw [hW]; exact ((Blk.new _ _ _).alloc _).alloc _, h.below HWB.out⟩
  have NB : Hid (Nin W (w.heap.size + 1) k' l' A' n' c' es') := ⟨by rw [hW]; exact (Blk.new' _ _ _ _ (by simp)).alloc _, h'.below HWB.out⟩
  have KZ : Hid (Blk W (w.heap.size + 1 + 1) 24 [Value.int .u8 0, .int .u8 0, .slice none 0 0].toArray) := by rw [hW]; exact Blk.new' _ _ _ _ (by simp)
  have HW := Lib.hid hW
  have hWs := KZ.out.lt
  have sW := HWB.out.size
  have HC := one_any k l A n c es k' l' A' n' c' es' Ak nk ck key W NA.out.rd NB.out.rd (hky.below HWB.out) hk hl hk' hl' hN hN' hs hs' hkn
  rw [HL.out] at HC ⊢
  obtain ⟨J, HJ⟩ : ∃ J, Hid (joinB k l es k' l' es' key = J) := ⟨_, rfl⟩
  rw [HJ.out]
  have hi0 : (Try.prog.info? 24).map (·.size) = some [Value.int .u8 0, .int .u8 0, .slice none 0 0].length := infoNd
  have ho0 : ∀ v ∈ [Value.int .u8 0, .int .u8 0, .slice none 0 0], v.oneCell' = true := nd_one 0 0 none 0 0
  have d0 := NA.out.c0
  have d1 := NA.out.c1
  have d2 := NA.out.c2
  have f0 := NB.out.c0
  have f1 := NB.out.c1
  have f2 := NB.out.c2
  clear h h' hky hW hs hs' hc4 hin hin'
  by_cases hq : (oneB k l es k' l' es' && (rE k l L == 0)) = true
  · have hbt : oneB k l es k' l' es' = true := by rw [Bool.and_eq_true] at hq; exact hq.1
    have hE0 : rE k l L = 0 := by rw [Bool.and_eq_true, beq_iff_eq] at hq; exact hq.2
    obtain ⟨t, ht⟩ : ∃ t, 3 + (entsB k L).length = t := ⟨_, rfl⟩
    have HJ2 : Hid (J = decide (t ≤ 224)) := by show _ = _; rw [← HJ.out, joinB, HL.out, hq, Bool.true_and, ht]
    have hNN2 : 3 + (entsB k L).length ≤ 140737488355328 := right_reach (by rw [HLL.out]; have := HNle.out; omega) hE0
    have hsz : sizeV k l L = t := by rw [sizeV, if_pos hE0, ht]
    have HSZ := Lib.hid hsz
    have HE0 := Lib.hid hE0
    have HN2 := Lib.hid hNN2
    have HOK := Lib.hid (NodB.ok HC hbt hq HLL.out)
    clear HC hq hbt hE0 ht hNN2 hsz
    go_enter Try.func32, Try.ntmps32
    go_wp2_with fail
    rw [← HW.out]
    refine HOK.out.mono ?_
    rintro e w1 ⟨A9, c9, rfl, ho, hb⟩
    have HB1 : Hid (Below W.heap.size W w1) := hb
    have HO1 := Lib.hid ho
    have kz := Lib.hid (KZ.out.below hb KZ.out.lt)
    have s1 := hb.size
    have hl9 : [Value.int .u8 0, .int .u8 0, .slice none 0 0].length = [Value.int .u8 (k : Int), .int .u8 (l : Int), .slice A9 N c9].length := rfl
    have hi9 : (Try.prog.info? 24).map (·.size) = some [Value.int .u8 (k : Int), .int .u8 (l : Int), .slice A9 N c9].length := infoNd
    have h19 : ∀ v ∈ [Value.int .u8 (k : Int), .int .u8 (l : Int), .slice A9 N c9], v.oneCell' = true := nd_one k l A9 N c9
    clear hb ho d0 d1 d2 f0 f1 f2 HOK
    go_upto_region 4 with (with_reducible refine wpList_store_blk rfl 24 (.tmp 6) (.tmp 16) rfl rfl (cs := [Value.int .u8 (k : Int), .int .u8 (l : Int), .slice A9 N c9]) rfl kz.out hl9 hi9 h19 ?_; intro wa hka hga)
    have HKa := Lib.hid hka
    have HOa := Lib.hid (HO1.out.keptE kz.out (by decide) (by decide) hga)
    have HBa : Hid (Below (w.heap.size + 1 + 1) W wa) := (HB1.out.mono (by omega)).grown hga (by omega) (by intro q hq; simp at hq; omega)
    have sga := hga.size
    have HCS := size_any k l A9 N c9 L wa (HOa.out.rdl HLL.out.symm) hk hl HIL.out (fun _ => HN2.out)
    rw [HSZ.out, HE0.out] at HCS
    have HCSS := Lib.hid HCS
    clear HCS hka hga HO1 HB1 kz hl9
    have d0 : wa.cell? ⟨w.heap.size + 1 + 1, 0, none⟩ = some (.int .u8 (k : Int)) := HKa.out.cell 0
    have d1 : wa.cell? ⟨w.heap.size + 1 + 1, 1, none⟩ = some (.int .u8 (l : Int)) := HKa.out.cell 1
    have d2 : wa.cell? ⟨w.heap.size + 1 + 1, 2, none⟩ = some (.slice A9 N c9) := HKa.out.cell 2
    go_wp2_with fail
    refine HCSS.out.mono ?_
    rintro e wb ⟨rfl, hb⟩
    have HBb : Hid (Below (w.heap.size + 1 + 1) W wb) := HBa.out.trans (hb.mono (by omega))
    have kb := Lib.hid (HKa.out.below hb HKa.out.lt)
    have HOb := Lib.hid (HOa.out.below hb)
    have sb := hb.size
    clear hb d0 d1 d2 HCSS HKa HOa HBa
    have hlb : [Value.int .u8 (k : Int), .int .u8 (l : Int), .slice A9 N c9].length = [Value.int .u8 0, .int .u8 0, .slice none 0 0].length := rfl
    by_cases h224 : t ≤ 224
    · have hd : decide ((t : Int) > 224) = false := decide_eq_false (by omega)
      have hd2 : decide ((224 : Int) < (t : Int)) = false := decide_eq_false (by omega)
      have HJT : Hid (J = true) := by show _ = _; rw [HJ2.out]; exact decide_eq_true h224
      have d0 : wb.cell? ⟨w.heap.size + 1 + 1, 0, none⟩ = some (.int .u8 (k : Int)) := kb.out.cell 0
      have d1 : wb.cell? ⟨w.heap.size + 1 + 1, 1, none⟩ = some (.int .u8 (l : Int)) := kb.out.cell 1
      have d2 : wb.cell? ⟨w.heap.size + 1 + 1, 2, none⟩ = some (.slice A9 N c9) := kb.out.cell 2
      have hl5 := nd_len k l A9 N c9
      clear h224
      go_wp2_with (with_reducible refine wpList_store_blk rfl 24 (.tmp 6) (.tmp 33) rfl rfl (cs := [Value.int .u8 (k : Int), .int .u8 (l : Int), .slice A9 N c9]) rfl kb.out (nd_len k l A9 N c9) hi9 h19 ?_; intro w9 hk9 hg9)
      have e0 := hk9.cell 0
      have e1 := hk9.cell 1
      have e2 := hk9.cell 2
      refine bodyPost_ret (v := .tuple #[NdV k l A9 N c9, .bool true]) ?_ rfl ?_
      · simp [results, Try.results32, go_sem, e0, e1, e2]
      · rw [HJT.out]
        exact NodB.some_ HLL.out.symm ((HOb.out.keptE kb.out (by decide) (by decide) hg9).mono (by omega)) ((HWB.out.trans (HBb.out.mono (by omega))).grown hg9 (by omega) (by intro q hq; simp at hq; omega))
    · have hd : decide ((t : Int) > 224) = true := decide_eq_true (by omega)
      have hd2 : decide ((224 : Int) < (t : Int)) = true := decide_eq_true (by omega)
      have HJF : Hid (J = false ∧ J = false) := by
        have : J = false := by rw [HJ2.out]; exact decide_eq_false h224
        exact ⟨this, this⟩
      clear h224
      go_wp2_with (with_reducible refine wpList_store_blk rfl 24 (.tmp 6) (.tmp 32) rfl rfl (cs := [Value.int .u8 0, .int .u8 0, .slice none 0 0]) rfl kb.out hlb hi0 ho0 ?_; intro w9 hk9 hg9)
      have e0 := hk9.cell 0
      have e1 := hk9.cell 1
      have e2 := hk9.cell 2
      refine bodyPost_ret (v := .tuple #[NdV 0 0 none 0 0, .bool false]) ?_ rfl (NodB.none_ HJF.out ((HWB.out.trans (HBb.out.mono (by omega))).grown hg9 (by omega) (by intro q hq; simp at hq; omega)))
      simp [results, Try.results32, go_sem, e0, e1, e2]
  · have hqf : (oneB k l es k' l' es' && (rE k l L == 0)) = false := by cases hx : (oneB k l es k' l' es' && (rE k l L == 0)) with
      | true => exact absurd hx hq
      | false => rfl
    have HJ2 : Hid (J = false ∧ J = false) := by
      have : J = false := by rw [← HJ.out, joinB, HL.out, hqf]; rfl
      exact ⟨this, this⟩
    have HNO := Lib.hid (NodB.no HC hqf)
    clear HC hq hqf
    go_enter Try.func32, Try.ntmps32
    go_wp2_with fail
    rw [← HW.out]
    refine HNO.out.mono ?_
    rintro e w1 ⟨k9, l9, A9, n9, c9, rfl, hb⟩
    have HB1 : Hid (Below W.heap.size W w1) := hb
    have kz := Lib.hid (KZ.out.below hb KZ.out.lt)
    have hl9 : [Value.int .u8 0, .int .u8 0, .slice none 0 0].length = [Value.int .u8 (k9 : Int), .int .u8 (l9 : Int), .slice A9 n9 c9].length := rfl
    have hz9 : [Value.int .u8 (k9 : Int), .int .u8 (l9 : Int), .slice A9 n9 c9].length = [Value.int .u8 0, .int .u8 0, .slice none 0 0].length := rfl
    have hi9 : (Try.prog.info? 24).map (·.size) = some [Value.int .u8 (k9 : Int), .int .u8 (l9 : Int), .slice A9 n9 c9].length := infoNd
    have h19 : ∀ v ∈ [Value.int .u8 (k9 : Int), .int .u8 (l9 : Int), .slice A9 n9 c9], v.oneCell' = true := nd_one k9 l9 A9 n9 c9
    clear hb d0 d1 d2 f0 f1 f2 HNO
    go_wp2_with (first
      | (with_reducible refine wpList_store_blk rfl 24 (.tmp 6) (.tmp 16) rfl rfl (cs := [Value.int .u8 (k9 : Int), .int .u8 (l9 : Int), .slice A9 n9 c9]) rfl kz.out hl9 hi9 h19 ?_; intro wa hka hga)
      | (with_reducible refine wpList_store_blk rfl 24 (.tmp 6) (.tmp 20) rfl rfl (cs := [Value.int .u8 0, .int .u8 0, .slice none 0 0]) rfl hka hz9 hi0 ho0 ?_; intro w9 hk9 hg9))
    have hBa := (HB1.out.mono (by omega : w.heap.size + 1 + 1 ≤ W.heap.size)).grown hga (by have := HB1.out.size; omega) (by intro q hq; simp at hq; omega)
    have e0 := hk9.cell 0
    have e1 := hk9.cell 1
    have e2 := hk9.cell 2
    refine bodyPost_ret (v := .tuple #[NdV 0 0 none 0 0, .bool false]) ?_ rfl (NodB.none_ HJ2.out ((HWB.out.trans ((hBa.mono (by omega : w.heap.size ≤ w.heap.size + 1 + 1)))).grown hg9 (by have := ((hBa.mono (by omega : w.heap.size ≤ w.heap.size + 1 + 1))).size; omega) (by intro q hq; simp at hq; omega)))
    simp [results, Try.results32, go_sem, e0, e1, e2]
set_option maxRecDepth 100000 in
set_option maxHeartbeats 3200000 in
theorem refjoin_any (k l : Nat) (A : Option Addr) (n c : Nat) (es : List Ent) (k' l' : Nat) (A' : Option Addr) (n' c' : Nat) (es' : List Ent) (Ak : Option Addr) (nk ck : Nat) (key : List UInt8) (w : World) (h : RdL w A n c es) (h' : RdL w A' n' c' es') (hky : Rd w Ak nk ck key)
    (hk : k < 256) (hl : l < 256) (hk' : k' < 256) (hl' : l' < 256) (hN : n ≤ 4000) (hN' : n' ≤ 4000) (hs : shortE es) (hc4 : ∀ j, j < es.length → (es.getD j ent0).key.length ≤ 4096 ∧ (es.getD j ent0).val.length ≤ 4096) (hs' : shortE es') (hin : esIn es) (hin' : esIn es') (hkn : nk ≤ 140737488355328) :
    Calls Try.prog 34 #[NdV k l A n c, NdV k' l' A' n' c', .slice Ak nk ck] w (NodB (joinB k l es k' l' es' key) (joinB k l es k' l' es' key) k l (oneL k es es' key) w) := by
  have hkn0 : key.length ≤ 140737488355328 := by rw [← hky.len]; exact hkn
  have hcap := h.cap
  have hcap' := h'.cap
  have HLn := Lib.hid h.len
  have HLn' := Lib.hid h'.len
  obtain ⟨L, HL⟩ : ∃ L, Hid (oneL k es es' key = L) := ⟨_, rfl⟩
  obtain ⟨N, HNN⟩ : ∃ N, Hid (n + n' = N) := ⟨_, rfl⟩
  have HLL : Hid (L.length = N) := by show _ = _; rw [← HL.out, oneL_length, ← HLn.out, ← HLn'.out]; exact HNN.out
  have HNle : Hid (N ≤ 9000) := by show _ ≤ _; rw [← HNN.out]; omega
  have HSL : Hid (shortE L) := by rw [← HL.out]; exact hs.one hs' hkn0
  have HIL : Hid (esIn L) := by rw [← HL.out]; exact hin.one hin'
  obtain ⟨W, hW⟩ : ∃ W, W = ((w.alloc (.cells #[.int .u8 (k : Int), .int .u8 (l : Int), .slice A n c] 24)).alloc (.cells #[.int .u8 (k' : Int), .int .u8 (l' : Int), .slice A' n' c'] 24)).alloc (.cells #[.int .u8 0, .int .u8 0, .slice none 0 0] 24) := ⟨_, rfl⟩
  have HWB : Hid (Below w.heap.size w W) := by rw [hW]; exact ((below_new _ _).alloc (by simp) _).alloc (by simp; omega) _
  have NA : Hid (Nin W w.heap.size k l A n c es) := ⟨by rw [hW]; exact ((Blk.new _ _ _).alloc _).alloc _, h.below HWB.out⟩
  have NB : Hid (Nin W (w.heap.size + 1) k' l' A' n' c' es') := ⟨by rw [hW]; exact (Blk.new' _ _ _ _ (by simp)).alloc _, h'.below HWB.out⟩
  have KZ : Hid (Blk W (w.heap.size + 1 + 1) 24 [Value.int .u8 0, .int .u8 0, .slice none 0 0].toArray) := by rw [hW]; exact Blk.new' _ _ _ _ (by simp)
  have HW := Lib.hid hW
  have hWs := KZ.out.lt
  have sW := HWB.out.size
  have HC := refone_any k l A n c es k' l' A' n' c' es' Ak nk ck key W NA.out.rd NB.out.rd (hky.below HWB.out) hk hl hk' hl' hN hN' hs hc4 hs' hkn
  rw [HL.out] at HC ⊢
  obtain ⟨J, HJ⟩ : ∃ J, Hid (joinB k l es k' l' es' key = J) := ⟨_, rfl⟩
  rw [HJ.out]
  have hi0 : (Try.prog.info? 24).map (·.size) = some [Value.int .u8 0, .int .u8 0, .slice none 0 0].length := infoNd
  have ho0 : ∀ v ∈ [Value.int .u8 0, .int .u8 0, .slice none 0 0], v.oneCell' = true := nd_one 0 0 none 0 0
  have d0 := NA.out.c0
  have d1 := NA.out.c1
  have d2 := NA.out.c2
  have f0 := NB.out.c0
  have f1 := NB.out.c1
  have f2 := NB.out.c2
  clear h h' hky hW hs hs' hc4 hin hin'
  by_cases hq : (oneB k l es k' l' es' && (rE k l L == 0)) = true
  · have hbt : oneB k l es k' l' es' = true := by rw [Bool.and_eq_true] at hq; exact hq.1
    have hE0 : rE k l L = 0 := by rw [Bool.and_eq_true, beq_iff_eq] at hq; exact hq.2
    obtain ⟨t, ht⟩ : ∃ t, 3 + (entsB k L).length = t := ⟨_, rfl⟩
    have HJ2 : Hid (J = decide (t ≤ 224)) := by show _ = _; rw [← HJ.out, joinB, HL.out, hq, Bool.true_and, ht]
    have hNN2 : 3 + (entsB k L).length ≤ 140737488355328 := right_reach (by rw [HLL.out]; have := HNle.out; omega) hE0
    have hsz : sizeV k l L = t := by rw [sizeV, if_pos hE0, ht]
    have HSZ := Lib.hid hsz
    have HE0 := Lib.hid hE0
    have HN2 := Lib.hid hNN2
    have HOK := Lib.hid (NodB.ok HC hbt hq HLL.out)
    clear HC hq hbt hE0 ht hNN2 hsz
    go_enter Try.func34, Try.ntmps34
    go_wp2_with fail
    rw [← HW.out]
    refine HOK.out.mono ?_
    rintro e w1 ⟨A9, c9, rfl, ho, hb⟩
    have HB1 : Hid (Below W.heap.size W w1) := hb
    have s1 := hb.size
    obtain ⟨g8, hg8e⟩ : ∃ g8, w1.heap.size = g8 := ⟨_, rfl⟩
    obtain ⟨w2, hw2⟩ : ∃ w2, w2 = w1.alloc (.cells #[.int .u8 (k : Int), .int .u8 (l : Int), .slice A9 N c9] 24) := ⟨_, rfl⟩
    have HB2 : Hid (Below W.heap.size W w2) := by rw [hw2]; exact HB1.out.alloc s1 _
    have HO2 : Hid (OwnN w2 W.heap.size A9 N c9 L) := by rw [hw2]; exact ho.below (below_new _ _)
    have HK2 : Hid (Blk w2 g8 24 (ndA k l A9 N c9)) := by rw [hw2]; exact Blk.new' _ _ _ _ hg8e
    have HW2 := Lib.hid hw2
    have HG8 := Lib.hid hg8e
    have s2 := HB2.out.size
    have HCS := refsize_any k l A9 N c9 L w2 (HO2.out.rdl HLL.out.symm) hk hl HIL.out HE0.out HN2.out
    rw [HSZ.out] at HCS
    have HCSS := Lib.hid HCS
    clear hb ho hw2 hg8e d0 d1 d2 f0 f1 f2 HOK HCS
    go_upto_region 2 with fail
    rw [← HW2.out, HG8.out]
    have d0 : w2.cell? ⟨g8, 0, none⟩ = some (.int .u8 (k : Int)) := HK2.out.cell 0
    have d1 : w2.cell? ⟨g8, 1, none⟩ = some (.int .u8 (l : Int)) := HK2.out.cell 1
    have d2 : w2.cell? ⟨g8, 2, none⟩ = some (.slice A9 N c9) := HK2.out.cell 2
    go_wp2_with fail
    refine HCSS.out.mono ?_
    rintro e wb ⟨rfl, hb⟩
    have HBb : Hid (Below W.heap.size W wb) := HB2.out.trans (hb.mono s2)
    have kb := Lib.hid (HK2.out.below hb HK2.out.lt)
    have HOb := Lib.hid (HO2.out.below hb)
    have kz := Lib.hid (KZ.out.below HBb.out KZ.out.lt)
    have sb := HBb.out.size
    clear hb d0 d1 d2 HCSS HK2 HO2 HB2
    by_cases h224 : t ≤ 224
    · have hd : decide ((t : Int) > 224) = false := decide_eq_false (by omega)
      have hd2 : decide ((224 : Int) < (t : Int)) = false := decide_eq_false (by omega)
      have HJT : Hid (J = true) := by show _ = _; rw [HJ2.out]; exact decide_eq_true h224
      have d0 : wb.cell? ⟨g8, 0, none⟩ = some (.int .u8 (k : Int)) := kb.out.cell 0
      have d1 : wb.cell? ⟨g8, 1, none⟩ = some (.int .u8 (l : Int)) := kb.out.cell 1
      have d2 : wb.cell? ⟨g8, 2, none⟩ = some (.slice A9 N c9) := kb.out.cell 2
      have hl9 : [Value.int .u8 0, .int .u8 0, .slice none 0 0].length = [Value.int .u8 (k : Int), .int .u8 (l : Int), .slice A9 N c9].length := rfl
      have hi9 : (Try.prog.info? 24).map (·.size) = some [Value.int .u8 (k : Int), .int .u8 (l : Int), .slice A9 N c9].length := infoNd
      have h19 : ∀ v ∈ [Value.int .u8 (k : Int), .int .u8 (l : Int), .slice A9 N c9], v.oneCell' = true := nd_one k l A9 N c9
      clear h224
      go_wp2_with (with_reducible refine wpList_store_blk rfl 24 (.tmp 6) (.tmp 25) rfl rfl (cs := [Value.int .u8 (k : Int), .int .u8 (l : Int), .slice A9 N c9]) rfl kz.out hl9 hi9 h19 ?_; intro w9 hk9 hg9)
      have e0 := hk9.cell 0
      have e1 := hk9.cell 1
      have e2 := hk9.cell 2
      refine bodyPost_ret (v := .tuple #[NdV k l A9 N c9, .bool true]) ?_ rfl ?_
      · simp [results, Try.results34, go_sem, e0, e1, e2]
      · rw [HJT.out]
        exact NodB.some_ HLL.out.symm ((HOb.out.keptE kz.out (by decide) (by decide) hg9).mono (by omega)) ((HWB.out.trans (HBb.out.mono sW)).grown hg9 (by omega) (by intro q hq; simp at hq; omega))
    · have hd : decide ((t : Int) > 224) = true := decide_eq_true (by omega)
      have hd2 : decide ((224 : Int) < (t : Int)) = true := decide_eq_true (by omega)
      have HJF : Hid (J = false ∧ J = false) := by
        have : J = false := by rw [HJ2.out]; exact decide_eq_false h224
        exact ⟨this, this⟩
      clear h224
      go_wp2_with (with_reducible refine wpList_store_blk rfl 24 (.tmp 6) (.tmp 24) rfl rfl (cs := [Value.int .u8 0, .int .u8 0, .slice none 0 0]) rfl kz.out z3len hi0 ho0 ?_; intro w9 hk9 hg9)
      have e0 := hk9.cell 0
      have e1 := hk9.cell 1
      have e2 := hk9.cell 2
      refine bodyPost_ret (v := .tuple #[NdV 0 0 none 0 0, .bool false]) ?_ rfl (NodB.none_ HJF.out ((HWB.out.trans (HBb.out.mono sW)).grown hg9 (by have := (HBb.out).size; omega) (by intro q hq; simp at hq; omega)))
      simp [results, Try.results34, go_sem, e0, e1, e2]
  · have hqf : (oneB k l es k' l' es' && (rE k l L == 0)) = false := by cases hx : (oneB k l es k' l' es' && (rE k l L == 0)) with
      | true => exact absurd hx hq
      | false => rfl
    have HJ2 : Hid (J = false ∧ J = false) := by
      have : J = false := by rw [← HJ.out, joinB, HL.out, hqf]; rfl
      exact ⟨this, this⟩
    have HNO := Lib.hid (NodB.no HC hqf)
    clear HC hq hqf
    go_enter Try.func34, Try.ntmps34
    go_wp2_with fail
    rw [← HW.out]
    refine HNO.out.mono ?_
    rintro e w1 ⟨k9, l9, A9, n9, c9, rfl, hb⟩
    have HB1 : Hid (Below W.heap.size W w1) := hb
    have s1 := hb.size
    obtain ⟨w2, hw2⟩ : ∃ w2, w2 = w1.alloc (.cells #[.int .u8 (k9 : Int), .int .u8 (l9 : Int), .slice A9 n9 c9] 24) := ⟨_, rfl⟩
    have HB2 : Hid (Below W.heap.size W w2) := by rw [hw2]; exact HB1.out.alloc s1 _
    have kz := Lib.hid (KZ.out.below HB2.out KZ.out.lt)
    clear hb d0 d1 d2 f0 f1 f2 HNO
    go_upto_region 2 with fail
    rw [← hw2]
    clear hw2
    go_wp2_with (with_reducible refine wpList_store_blk rfl 24 (.tmp 6) (.tmp 24) rfl rfl (cs := [Value.int .u8 0, .int .u8 0, .slice none 0 0]) rfl kz.out z3len hi0 ho0 ?_; intro w9 hk9 hg9)
    have e0 := hk9.cell 0
    have e1 := hk9.cell 1
    have e2 := hk9.cell 2
    refine bodyPost_ret (v := .tuple #[NdV 0 0 none 0 0, .bool false]) ?_ rfl (NodB.none_ HJ2.out ((HWB.out.trans (HB2.out.mono sW)).grown hg9 (by have := (HB2.out).size; omega) (by intro q hq; simp at hq; omega)))
    simp [results, Try.results34, go_sem, e0, e1, e2]
end Go.Proofs.Ytgihcjmcefdkiaa
