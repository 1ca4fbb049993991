/- Contracts: whether two nodes are the same, as slot has it. -/
import Derived.Test.YtihbpmceggghgaaCmp
import Derived.Test.YtihbpmceggghgaaSameR
set_option linter.unusedVariables false
set_option linter.unusedSimpArgs false
namespace Go.Proofs.Ytihbpmceggghgaa
open Go.RowKit

attribute [local go_sem ↓] eqRf
set_option maxHeartbeats 3200000 in
theorem eqent_any (A1 : Option Addr) (n1 c1 : Nat) (A2 : Option Addr) (n2 c2 : Nat) (A1' : Option Addr) (n1' c1' : Nat) (A2' : Option Addr) (n2' c2' : Nat) (K V : List UInt8) (L : Int) (r s : Rf) (K' V' : List UInt8) (L' : Int) (r' s' : Rf) (w : World)
    (h1 : Rd w A1 n1 c1 K) (h2 : Rd w A2 n2 c2 V) (h1' : Rd w A1' n1' c1' K') (h2' : Rd w A2' n2' c2' V') :
    Calls Try.prog 36 #[EnV A1 n1 c1 A2 n2 c2 L r s, EnV A1' n1' c1' A2' n2' c2' L' r' s'] w fun e w' => e = .returned (.bool (entEq ⟨K, V, L, r, s⟩ ⟨K', V', L', r', s'⟩)) ∧ Below w.heap.size w w' := by
  obtain ⟨W, hW⟩ : ∃ W, W = (w.alloc (.cells (enC A1 n1 c1 A2 n2 c2 L r s).toArray 49)).alloc (.cells (enC A1' n1' c1' A2' n2' c2' L' r' s').toArray 49) := ⟨_, rfl⟩
  have hb : Below w.heap.size w W := by rw [hW]; exact (below_new _ _).alloc (by simp) _
  have KX : Blk W w.heap.size 49 (enC A1 n1 c1 A2 n2 c2 L r s).toArray := by rw [hW]; exact (Blk.new _ _ _).alloc _
  have KY : Blk W (w.heap.size + 1) 49 (enC A1' n1' c1' A2' n2' c2' L' r' s').toArray := by rw [hW]; exact Blk.new' _ _ _ _ (by simp)
  have a0 : W.cell? ⟨w.heap.size, 0, none⟩ = some (.slice A1 n1 c1) := KX.cell 0
  have a1 : W.cell? ⟨w.heap.size, 1, none⟩ = some (.slice A2 n2 c2) := KX.cell 1
  have a2 : W.cell? ⟨w.heap.size, 2, none⟩ = some (.int .i64 L) := KX.cell 2
  have a3 : W.cell? ⟨w.heap.size, 3, none⟩ = some (.int .u32 (r.1 : Int)) := KX.cell 3
  have a4 : W.cell? ⟨w.heap.size, 4, none⟩ = some (.int .u64 (r.2.1 : Int)) := KX.cell 4
  have a5 : W.cell? ⟨w.heap.size, 5, none⟩ = some (.int .u16 (r.2.2 : Int)) := KX.cell 5
  have a6 : W.cell? ⟨w.heap.size, 6, none⟩ = some (.int .u32 (s.1 : Int)) := KX.cell 6
  have a7 : W.cell? ⟨w.heap.size, 7, none⟩ = some (.int .u64 (s.2.1 : Int)) := KX.cell 7
  have a8 : W.cell? ⟨w.heap.size, 8, none⟩ = some (.int .u16 (s.2.2 : Int)) := KX.cell 8
  have b0 : W.cell? ⟨w.heap.size + 1, 0, none⟩ = some (.slice A1' n1' c1') := KY.cell 0
  have b1 : W.cell? ⟨w.heap.size + 1, 1, none⟩ = some (.slice A2' n2' c2') := KY.cell 1
  have b2 : W.cell? ⟨w.heap.size + 1, 2, none⟩ = some (.int .i64 L') := KY.cell 2
  have b3 : W.cell? ⟨w.heap.size + 1, 3, none⟩ = some (.int .u32 (r'.1 : Int)) := KY.cell 3
  have b4 : W.cell? ⟨w.heap.size + 1, 4, none⟩ = some (.int .u64 (r'.2.1 : Int)) := KY.cell 4
  have b5 : W.cell? ⟨w.heap.size + 1, 5, none⟩ = some (.int .u16 (r'.2.2 : Int)) := KY.cell 5
  have b6 : W.cell? ⟨w.heap.size + 1, 6, none⟩ = some (.int .u32 (s'.1 : Int)) := KY.cell 6
  have b7 : W.cell? ⟨w.heap.size + 1, 7, none⟩ = some (.int .u64 (s'.2.1 : Int)) := KY.cell 7
  have b8 : W.cell? ⟨w.heap.size + 1, 8, none⟩ = some (.int .u16 (s'.2.2 : Int)) := KY.cell 8
  have HS1 := Lib.hid (equal_any A1 n1 c1 K A1' n1' c1' K' W (h1.below hb) (h1'.below hb))
  have HS2 := Lib.hid (equal_any A2 n2 c2 V A2' n2' c2' V' W (h2.below hb) (h2'.below hb))
  obtain ⟨e1, k1⟩ : ∃ e, (K == K') = e := ⟨_, rfl⟩
  obtain ⟨e2, k2⟩ : ∃ e, (V == V') = e := ⟨_, rfl⟩
  obtain ⟨e3, k3⟩ : ∃ e, (L == L') = e := ⟨_, rfl⟩
  obtain ⟨e4, k4⟩ : ∃ e, (r == r') = e := ⟨_, rfl⟩
  obtain ⟨e5, k5⟩ : ∃ e, (s == s') = e := ⟨_, rfl⟩
  have HEQ : Hid (entEq ⟨K, V, L, r, s⟩ ⟨K', V', L', r', s'⟩ = (e1 && (e2 && (e3 && (e4 && e5))))) := by
    show _ = _
    rw [← k1, ← k2, ← k3, ← k4, ← k5]; rfl
  rw [HEQ.out]
  rw [k1] at HS1
  rw [k2] at HS2
  have HB := Lib.hid hb
  have HW := Lib.hid hW
  clear HEQ KX KY hb hW h1 h2 h1' h2' k1 k2
  go_enter Try.func36, Try.ntmps36
  go_wp2_with fail
  rw [← HW.out]
  cases e1 with
  | false =>
    go_wp2_with (first | (rw [← HW.out]; go_at_call_of 37 (Value.slice A1 n1 c1); refine HS1.out.mono ?_; rintro e w' ⟨rfl, rfl⟩) | (go_at_call_of 37 (Value.slice A1 n1 c1); refine HS1.out.mono ?_; rintro e w' ⟨rfl, rfl⟩) | (go_at_call_of 37 (Value.slice A2 n2 c2); refine HS2.out.mono ?_; rintro e w' ⟨rfl, rfl⟩))
    go_ret
    exact ⟨rfl, HB.out⟩
  | true =>
    cases e2 with
    | false =>
      go_wp2_with (first | (rw [← HW.out]; go_at_call_of 37 (Value.slice A1 n1 c1); refine HS1.out.mono ?_; rintro e w' ⟨rfl, rfl⟩) | (go_at_call_of 37 (Value.slice A1 n1 c1); refine HS1.out.mono ?_; rintro e w' ⟨rfl, rfl⟩) | (go_at_call_of 37 (Value.slice A2 n2 c2); refine HS2.out.mono ?_; rintro e w' ⟨rfl, rfl⟩))
      go_ret
      exact ⟨rfl, HB.out⟩
    | true =>
      cases e3 with
      | false =>
        go_wp2_with (first | (rw [← HW.out]; go_at_call_of 37 (Value.slice A1 n1 c1); refine HS1.out.mono ?_; rintro e w' ⟨rfl, rfl⟩) | (go_at_call_of 37 (Value.slice A1 n1 c1); refine HS1.out.mono ?_; rintro e w' ⟨rfl, rfl⟩) | (go_at_call_of 37 (Value.slice A2 n2 c2); refine HS2.out.mono ?_; rintro e w' ⟨rfl, rfl⟩))
        go_ret
        exact ⟨rfl, HB.out⟩
      | true =>
        cases e4 with
        | false =>
          go_wp2_with (first | (rw [← HW.out]; go_at_call_of 37 (Value.slice A1 n1 c1); refine HS1.out.mono ?_; rintro e w' ⟨rfl, rfl⟩) | (go_at_call_of 37 (Value.slice A1 n1 c1); refine HS1.out.mono ?_; rintro e w' ⟨rfl, rfl⟩) | (go_at_call_of 37 (Value.slice A2 n2 c2); refine HS2.out.mono ?_; rintro e w' ⟨rfl, rfl⟩))
          go_ret
          exact ⟨rfl, HB.out⟩
        | true =>
          cases e5 with
          | false =>
            go_wp2_with (first | (rw [← HW.out]; go_at_call_of 37 (Value.slice A1 n1 c1); refine HS1.out.mono ?_; rintro e w' ⟨rfl, rfl⟩) | (go_at_call_of 37 (Value.slice A1 n1 c1); refine HS1.out.mono ?_; rintro e w' ⟨rfl, rfl⟩) | (go_at_call_of 37 (Value.slice A2 n2 c2); refine HS2.out.mono ?_; rintro e w' ⟨rfl, rfl⟩))
            go_ret
            exact ⟨rfl, HB.out⟩
          | true =>
            go_wp2_with (first | (rw [← HW.out]; go_at_call_of 37 (Value.slice A1 n1 c1); refine HS1.out.mono ?_; rintro e w' ⟨rfl, rfl⟩) | (go_at_call_of 37 (Value.slice A1 n1 c1); refine HS1.out.mono ?_; rintro e w' ⟨rfl, rfl⟩) | (go_at_call_of 37 (Value.slice A2 n2 c2); refine HS2.out.mono ?_; rintro e w' ⟨rfl, rfl⟩))
            go_ret
            exact ⟨rfl, HB.out⟩
set_option maxHeartbeats 3200000 in
theorem eqfunc_any (A : Option Addr) (n c : Nat) (es : List Ent) (A' : Option Addr) (n' c' : Nat) (es' : List Ent) (w : World) (h : RdL w A n c es) (h' : RdL w A' n' c' es') :
    Calls Try.prog 35 #[.slice A n c, .slice A' n' c', .func (.func 36) #[] #[]] w fun e w' => e = .returned (.bool (es.length == es'.length && sTo es es' es.length)) ∧ Below w.heap.size w w' := by
  have hcap := h.cap
  have hmax := h.max
  have hcap' := h'.cap
  have hmax' := h'.max
  unfold maxLen at hmax hmax'
  have HLn := Lib.hid h.len
  have HLn' := Lib.hid h'.len
  have HR := Lib.hid h
  have HR' := Lib.hid h'
  clear h h'
  by_cases hnn : n = n'
  · subst hnn
    have HE : Hid ((es.length == es'.length && sTo es es' es.length) = sTo es es' es.length) := by
      show _ = _
      rw [← HLn.out, ← HLn'.out]; simp
    rw [HE.out]
    go_enter Try.func35, Try.ntmps35
    go_wp2_with fail
    go_loopw [17] (fun z wr => ∃ i : Nat, i ≤ n ∧ z = .int .i64 (i : Int) ∧ sTo es es' i = true ∧ Below w.heap.size w wr) (fun z _ => n - (intOf z).toNat)
    case atStart => exact ⟨0, Nat.zero_le _, rfl, rfl, Below.refl _ _⟩
    case round =>
      obtain ⟨i, hi, rfl, hto, hbel⟩ := hrel
      have HTO := Lib.hid hto
      have HBE := Lib.hid hbel
      have hbs := hbel.size
      have HRr := Lib.hid (HR.out.below hbel)
      have HRr' := Lib.hid (HR'.out.below hbel)
      clear hto hbel
      by_cases hlt : i < n
      · obtain ⟨b, o, A1, n1, c1, A2, n2, c2, L, r, s, K, V, rfl, hat, hrk, hrv, hent⟩ := HRr.out.pair i hlt
        obtain ⟨b', o', A1', n1', c1', A2', n2', c2', L', r', s', K', V', rfl, hat', hrk', hrv', hent'⟩ := HRr'.out.pair i hlt
        have a0 := hat.c0
        have a1 := hat.c1
        have a2 := hat.c2
        have a3 := hat.c3
        have a4 := hat.c4
        have a5 := hat.c5
        have a6 := hat.c6
        have a7 := hat.c7
        have a8 := hat.c8
        have i1 : (0 : Int) ≤ (i : Int) := by omega
        have i2 : (i : Int) < (n : Int) := by omega
        have HAT' := Lib.hid hat'
        have HENT := Lib.hid hent
        have HENT' := Lib.hid hent'
        have HRK := Lib.hid hrk
        have HRV := Lib.hid hrv
        have HRK' := Lib.hid hrk'
        have HRV' := Lib.hid hrv'
        clear hat hat' hrk hrv hrk' hrv' hent hent'
        go_upto_region 6 with fail
        obtain ⟨X1, hX1⟩ : ∃ V, V = wr.alloc (.cells #[.slice A1 n1 c1, .slice A2 n2 c2, .int .i64 L, .int .u32 (r.1 : Int), .int .u64 (r.2.1 : Int), .int .u16 (r.2.2 : Int), .int .u32 (s.1 : Int), .int .u64 (s.2.1 : Int), .int .u16 (s.2.2 : Int)] 49) := ⟨_, rfl⟩
        have hb1 : Below wr.heap.size wr X1 := by rw [hX1]; exact below_new1 _ _
        have KX : Hid (Blk X1 wr.heap.size 49 (enC A1 n1 c1 A2 n2 c2 L r s).toArray) := by rw [hX1]; exact Blk.new _ _ _
        rw [← hX1]
        have HB1 := Lib.hid hb1
        have HAT2 := Lib.hid (HAT'.out.below hb1)
        clear hX1 hb1 a0 a1 a2 a3 a4 a5 a6 a7 a8
        have a0 := HAT2.out.c0
        have a1 := HAT2.out.c1
        have a2 := HAT2.out.c2
        have a3 := HAT2.out.c3
        have a4 := HAT2.out.c4
        have a5 := HAT2.out.c5
        have a6 := HAT2.out.c6
        have a7 := HAT2.out.c7
        have a8 := HAT2.out.c8
        go_upto_region 7 with fail
        obtain ⟨X2, hX2⟩ : ∃ V, V = X1.alloc (.cells #[.slice A1' n1' c1', .slice A2' n2' c2', .int .i64 L', .int .u32 (r'.1 : Int), .int .u64 (r'.2.1 : Int), .int .u16 (r'.2.2 : Int), .int .u32 (s'.1 : Int), .int .u64 (s'.2.1 : Int), .int .u16 (s'.2.2 : Int)] 49) := ⟨_, rfl⟩
        have hb2 : Below X1.heap.size X1 X2 := by rw [hX2]; exact below_new1 _ _
        have KX2 : Hid (Blk X2 wr.heap.size 49 (enC A1 n1 c1 A2 n2 c2 L r s).toArray) := by rw [hX2]; exact KX.out.alloc _
        have KY2 : Hid (Blk X2 X1.heap.size 49 (enC A1' n1' c1' A2' n2' c2' L' r' s').toArray) := by rw [hX2]; exact Blk.new _ _ _
        rw [← hX2]
        have HB2 : Hid (Below wr.heap.size wr X2) := HB1.out.trans (hb2.mono HB1.out.size)
        clear hX2 hb2 a0 a1 a2 a3 a4 a5 a6 a7 a8
        have HC := Lib.hid (eqent_any A1 n1 c1 A2 n2 c2 A1' n1' c1' A2' n2' c2' K V L r s K' V' L' r' s' X2 (HRK.out.below HB2.out) (HRV.out.below HB2.out) (HRK'.out.below HB2.out) (HRV'.out.below HB2.out))
        obtain ⟨e0, he0⟩ : ∃ e, entEq ⟨K, V, L, r, s⟩ ⟨K', V', L', r', s'⟩ = e := ⟨_, rfl⟩
        rw [he0] at HC
        have HEQ : Hid (entEq (es.getD i ent0) (es'.getD i ent0) = e0) := by
          show _ = _
          rw [HENT.out, HENT'.out]; exact he0
        clear he0
        have a0 : X2.cell? ⟨wr.heap.size, 0, none⟩ = some (.slice A1 n1 c1) := KX2.out.cell 0
        have a1 : X2.cell? ⟨wr.heap.size, 1, none⟩ = some (.slice A2 n2 c2) := KX2.out.cell 1
        have a2 : X2.cell? ⟨wr.heap.size, 2, none⟩ = some (.int .i64 L) := KX2.out.cell 2
        have a3 : X2.cell? ⟨wr.heap.size, 3, none⟩ = some (.int .u32 (r.1 : Int)) := KX2.out.cell 3
        have a4 : X2.cell? ⟨wr.heap.size, 4, none⟩ = some (.int .u64 (r.2.1 : Int)) := KX2.out.cell 4
        have a5 : X2.cell? ⟨wr.heap.size, 5, none⟩ = some (.int .u16 (r.2.2 : Int)) := KX2.out.cell 5
        have a6 : X2.cell? ⟨wr.heap.size, 6, none⟩ = some (.int .u32 (s.1 : Int)) := KX2.out.cell 6
        have a7 : X2.cell? ⟨wr.heap.size, 7, none⟩ = some (.int .u64 (s.2.1 : Int)) := KX2.out.cell 7
        have a8 : X2.cell? ⟨wr.heap.size, 8, none⟩ = some (.int .u16 (s.2.2 : Int)) := KX2.out.cell 8
        have b0 : X2.cell? ⟨X1.heap.size, 0, none⟩ = some (.slice A1' n1' c1') := KY2.out.cell 0
        have b1 : X2.cell? ⟨X1.heap.size, 1, none⟩ = some (.slice A2' n2' c2') := KY2.out.cell 1
        have b2 : X2.cell? ⟨X1.heap.size, 2, none⟩ = some (.int .i64 L') := KY2.out.cell 2
        have b3 : X2.cell? ⟨X1.heap.size, 3, none⟩ = some (.int .u32 (r'.1 : Int)) := KY2.out.cell 3
        have b4 : X2.cell? ⟨X1.heap.size, 4, none⟩ = some (.int .u64 (r'.2.1 : Int)) := KY2.out.cell 4
        have b5 : X2.cell? ⟨X1.heap.size, 5, none⟩ = some (.int .u16 (r'.2.2 : Int)) := KY2.out.cell 5
        have b6 : X2.cell? ⟨X1.heap.size, 6, none⟩ = some (.int .u32 (s'.1 : Int)) := KY2.out.cell 6
        have b7 : X2.cell? ⟨X1.heap.size, 7, none⟩ = some (.int .u64 (s'.2.1 : Int)) := KY2.out.cell 7
        have b8 : X2.cell? ⟨X1.heap.size, 8, none⟩ = some (.int .u16 (s'.2.2 : Int)) := KY2.out.cell 8
        go_wp2_with fail
        refine HC.out.mono ?_
        rintro e X3 ⟨rfl, hb3⟩
        have HB3 : Hid (Below w.heap.size w X3) := (HBE.out.trans (HB2.out.mono hbs)).trans (hb3.mono (by have := HB2.out.size; omega))
        clear HC hb3
        cases e0 with
        | false =>
          have HF := Lib.hid (sTo_bad HEQ.out es.length (by rw [← HLn.out]; exact hlt))
          go_wp2_with fail
          go_ret
          exact ⟨by rw [HF.out]; rfl, HB3.out⟩
        | true =>
          have HF : Hid (sTo es es' (i + 1) = true) := by show _ = _; rw [sTo, HTO.out, HEQ.out]; rfl
          go_wp2_with fail
          go_roundw
          case rel => exact ⟨i + 1, by omega, by go_num, HF.out, HB3.out⟩
          case measure => first | (simp [intOf]; done) | (simp [intOf]; omega)
      · obtain rfl : i = n := by omega
        have HT := HTO.out
        rw [HLn.out] at HT
        have HF := Lib.hid HT
        clear HT hi hlt
        go_wp2_with fail
        go_ret
        exact ⟨by rw [HF.out]; rfl, HBE.out⟩
  · have HF : Hid ((es.length == es'.length && sTo es es' es.length) = false) := by
      show _ = _
      rw [← HLn.out, ← HLn'.out, beq_eq_false_iff_ne.2 hnn]; rfl
    have hb : ((n : Int) != (n' : Int)) = true := by rw [bne_iff_ne]; omega
    rw [HF.out]
    go_enter Try.func35, Try.ntmps35
    go_wp2_with fail
    go_ret
    exact ⟨rfl, Below.refl _ _⟩
set_option maxHeartbeats 3200000 in
theorem slotsame_any (k l : Nat) (A : Option Addr) (n c : Nat) (es : List Ent) (k' l' : Nat) (A' : Option Addr) (n' c' : Nat) (es' : List Ent) (w : World) (h : RdL w A n c es) (h' : RdL w A' n' c' es') :
    Calls Try.prog 20 #[NdV k l A n c, NdV k' l' A' n' c'] w fun e w' => e = .returned (.bool (sameN k l es k' l' es')) ∧ Below w.heap.size w w' := by
  obtain ⟨W, hW⟩ : ∃ W, W = (w.alloc (.cells #[.int .u8 (k : Int), .int .u8 (l : Int), .slice A n c] 24)).alloc (.cells #[.int .u8 (k' : Int), .int .u8 (l' : Int), .slice A' n' c'] 24) := ⟨_, rfl⟩
  have HWB : Hid (Below w.heap.size w W) := by rw [hW]; exact (below_new _ _).alloc (by simp) _
  have KN : Hid (Blk W w.heap.size 24 (ndA k l A n c)) := by rw [hW]; exact (Blk.new _ _ _).alloc _
  have KN' : Hid (Blk W (w.heap.size + 1) 24 (ndA k' l' A' n' c')) := by rw [hW]; exact Blk.new' _ _ _ _ (by simp)
  have HC := Lib.hid (eqfunc_any A n c es A' n' c' es' W (h.below HWB.out) (h'.below HWB.out))
  have HW := Lib.hid hW
  have d0 : W.cell? ⟨w.heap.size, 0, none⟩ = some (.int .u8 (k : Int)) := KN.out.cell 0
  have d1 : W.cell? ⟨w.heap.size, 1, none⟩ = some (.int .u8 (l : Int)) := KN.out.cell 1
  have d2 : W.cell? ⟨w.heap.size, 2, none⟩ = some (.slice A n c) := KN.out.cell 2
  have e0 : W.cell? ⟨w.heap.size + 1, 0, none⟩ = some (.int .u8 (k' : Int)) := KN'.out.cell 0
  have e1 : W.cell? ⟨w.heap.size + 1, 1, none⟩ = some (.int .u8 (l' : Int)) := KN'.out.cell 1
  have e2 : W.cell? ⟨w.heap.size + 1, 2, none⟩ = some (.slice A' n' c') := KN'.out.cell 2
  clear h h' hW
  by_cases hkk : k = k'
  · by_cases hll : l = l'
    · subst hkk hll
      have HE : Hid (sameN k l es k l es' = (es.length == es'.length && sTo es es' es.length)) := by show _ = _; simp [sameN]
      rw [HE.out]
      go_enter Try.func20, Try.ntmps20
      go_wp2_with fail
      rw [← HW.out]
      go_wp2_with fail
      refine HC.out.mono ?_
      rintro e w3 ⟨rfl, hb⟩
      have HB := Lib.hid (HWB.out.trans (hb.mono HWB.out.size))
      clear hb HC
      go_wp2_with fail
      go_ret
      exact ⟨rfl, HB.out⟩
    · have HF := Lib.hid (sameN_bad (k := k) (l := l) (es := es) (k' := k') (l' := l') (es' := es') (.inr (.inl hll)))
      have hb : ((l : Int) == (l' : Int)) = false := by rw [beq_eq_false_iff_ne]; omega
      rw [HF.out]
      subst hkk
      clear hll
      go_enter Try.func20, Try.ntmps20
      go_wp2_with fail
      rw [← HW.out]
      go_wp2_with fail
      go_ret
      exact ⟨rfl, HWB.out⟩
  · have HF := Lib.hid (sameN_bad (k := k) (l := l) (es := es) (k' := k') (l' := l') (es' := es') (.inl hkk))
    have hb : ((k : Int) == (k' : Int)) = false := by rw [beq_eq_false_iff_ne]; omega
    rw [HF.out]
    clear hkk
    go_enter Try.func20, Try.ntmps20
    go_wp2_with fail
    rw [← HW.out]
    go_wp2_with fail
    go_ret
    exact ⟨rfl, HWB.out⟩
end Go.Proofs.Ytihbpmceggghgaa
