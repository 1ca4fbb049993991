/- Contracts: where a key would stand in a node: graft.Find, graft.Child. -/
import Derived.Test.YtgihcjmcefdkiaaSplP
set_option linter.unusedVariables false
set_option linter.unusedSimpArgs false
namespace Go.Proofs.Ytgihcjmcefdkiaa
open Go.RowKit

theorem cmp_eq : ∀ a b : List UInt8, (Lib.compareBytes a b == 0) = (a == b)
  | [], [] => rfl
  | [], _ :: _ => rfl
  | _ :: _, [] => rfl
  | x :: a, y :: b => by
    unfold Lib.compareBytes
    by_cases h1 : x < y
    · have hn : x ≠ y := fun e => UInt8.lt_irrefl y (by rw [e] at h1; exact h1)
      rw [if_pos h1]
      have : (x :: a == y :: b) = false := by rw [beq_eq_false_iff_ne]; intro e; injection e with e; exact hn e
      rw [this]; rfl
    · rw [if_neg h1]
      by_cases h2 : y < x
      · have hn : x ≠ y := fun e => UInt8.lt_irrefl y (by rw [e] at h2; exact h2)
        rw [if_pos h2]
        have : (x :: a == y :: b) = false := by rw [beq_eq_false_iff_ne]; intro e; injection e with e; exact hn e
        rw [this]; rfl
      · have he : x = y := UInt8.le_antisymm (UInt8.not_lt.1 h2) (UInt8.not_lt.1 h1)
        rw [if_neg h2, cmp_eq a b, he]
        simp
theorem cmp_gtr : ∀ a b : List UInt8, decide (Lib.compareBytes a b > 0) = less b a
  | [], [] => rfl
  | [], _ :: _ => rfl
  | _ :: _, [] => rfl
  | x :: a, y :: b => by
    unfold Lib.compareBytes less
    by_cases h1 : x < y
    · have hn : y ≠ x := fun e => UInt8.lt_irrefl y (by rw [← e] at h1; exact h1)
      rw [if_pos h1, if_neg hn, decide_eq_false (p := y.toNat < x.toNat) (by have := UInt8.lt_iff_toNat_lt.1 h1; omega)]
      rfl
    · rw [if_neg h1]
      by_cases h2 : y < x
      · have hn : y ≠ x := fun e => UInt8.lt_irrefl y (by rw [← e] at h2; exact h2)
        rw [if_pos h2, if_neg hn, decide_eq_true (UInt8.lt_iff_toNat_lt.1 h2)]
        rfl
      · have he : y = x := UInt8.le_antisymm (UInt8.not_lt.1 h1) (UInt8.not_lt.1 h2)
        rw [if_neg h2, if_pos he]
        exact cmp_gtr a b
/-- The first of the places from i on, m of them, where p holds; else the end. -/
def firstAt (p : Nat → Bool) (i : Nat) : Nat → Nat
  | 0 => i
  | m + 1 => if p i then i else firstAt p (i + 1) m
theorem firstAt_skip {p : Nat → Bool} : ∀ (i m : Nat), (∀ j, j < i → p j = false) → i ≤ m → firstAt p 0 m = firstAt p i (m - i)
  | 0, m, _, _ => rfl
  | i + 1, m, h, hm => by
    rw [firstAt_skip i m (fun j hj => h j (by omega)) (by omega)]
    obtain ⟨q, hq⟩ : ∃ q, m - i = q + 1 := ⟨m - i - 1, by omega⟩
    rw [hq, firstAt, h i (by omega), show m - (i + 1) = q by omega]
    rfl
theorem firstAt_here {p : Nat → Bool} {i m : Nat} (h : ∀ j, j < i → p j = false) (hi : i < m) (hp : p i = true) : firstAt p 0 m = i := by
  rw [firstAt_skip i m h (by omega)]
  obtain ⟨q, hq⟩ : ∃ q, m - i = q + 1 := ⟨m - i - 1, by omega⟩
  rw [hq, firstAt, if_pos hp]
theorem firstAt_none {p : Nat → Bool} {m : Nat} (h : ∀ j, j < m → p j = false) : firstAt p 0 m = m := by
  rw [firstAt_skip m m h (Nat.le_refl _), Nat.sub_self]; rfl
/-- Where a key would stand. -/
def fndA (es : List Ent) (key : List UInt8) : Nat := firstAt (fun j => !less (es.getD j ent0).key key) 0 es.length
/-- Does it stand there? -/
def fndB (es : List Ent) (key : List UInt8) : Bool := decide (fndA es key < es.length) && ((es.getD (fndA es key) ent0).key == key)
/-- The child that it belongs to. -/
def chdA (es : List Ent) (key : List UInt8) : Int := (firstAt (fun j => less key (es.getD j ent0).key) 0 es.length : Nat) - 1
set_option maxRecDepth 100000 in
set_option maxHeartbeats 3200000 in
theorem find_any (k l : Nat) (A : Option Addr) (n c : Nat) (es : List Ent) (A' : Option Addr) (n' c' : Nat) (key : List UInt8) (w : World) (h : RdL w A n c es) (h' : Rd w A' n' c' key) :
    Calls Try.prog 22 #[NdV k l A n c, .slice A' n' c'] w fun e w' => e = .returned (.tuple #[.int .i64 (fndA es key : Int), .bool (fndB es key)]) ∧ Below w.heap.size w w' := by
  have hcap := h.cap
  have hmax := h.max
  unfold maxLen at hmax
  have HLn := Lib.hid h.len
  obtain ⟨W, hW⟩ : ∃ W, W = w.alloc (.cells #[.int .u8 (k : Int), .int .u8 (l : Int), .slice A n c] 24) := ⟨_, rfl⟩
  have HWB : Hid (Below w.heap.size w W) := by rw [hW]; exact below_new1 _ _
  have KN : Hid (Blk W w.heap.size 24 (ndA k l A n c)) := by rw [hW]; exact Blk.new _ _ _
  have HR := Lib.hid (h.below HWB.out)
  have HK := Lib.hid (h'.below HWB.out)
  have HW := Lib.hid hW
  clear h h' hW
  have hWs := KN.out.lt
  have d2 : W.cell? ⟨w.heap.size, 2, none⟩ = some (.slice A n c) := KN.out.cell 2
  go_enter Try.func22, Try.ntmps22
  go_wp2_with fail
  rw [← HW.out]
  go_wp2_with fail
  go_loopw [12] (fun z wr => ∃ i : Nat, i ≤ n ∧ z = .int .i64 (i : Int) ∧ (∀ j, j < i → (!less (es.getD j ent0).key key) = false) ∧ Below W.heap.size W wr) (fun z _ => n - (intOf z).toNat)
  case atStart => exact ⟨0, Nat.zero_le _, rfl, fun j hj => absurd hj (by omega), Below.refl _ _⟩
  case round =>
    clear d2
    obtain ⟨i, hi, rfl, hto, hbel⟩ := hrel
    have HTO := Lib.hid hto
    have HBE := Lib.hid hbel
    have hbs := hbel.size
    have KNr := Lib.hid (KN.out.below hbel KN.out.lt)
    have HRr := Lib.hid (HR.out.below hbel)
    have HKr := Lib.hid (HK.out.below hbel)
    clear hto hbel
    by_cases hlt : i < n
    · obtain ⟨b, o, A1, n1, c1, A2, n2, c2, L, r, s, Ky, Va, rfl, hat, hrk, hrv, hent⟩ := HRr.out.pair i hlt
      have a0 := hat.c0
      have a1 := hat.c1
      have a2 := hat.c2
      have a3 := hat.c3
      have a4 := hat.c4
      have a5 := hat.c5
      have a6 := hat.c6
      have a7 := hat.c7
      have a8 := hat.c8
      have i1 : (0 : Int) ≤ (i : Int) := by omega
      have i2 : (i : Int) < (n : Int) := by omega
      have HEN : Hid ((es.getD i ent0).key = Ky) := by show _ = _; rw [hent]
      have HRK := Lib.hid hrk
      clear hat hrk hrv hent
      go_upto_region 4 with fail
      obtain ⟨V, hV⟩ : ∃ V, V = wr.alloc (.cells #[.slice A1 n1 c1, .slice A2 n2 c2, .int .i64 L, .int .u32 (r.1 : Int), .int .u64 (r.2.1 : Int), .int .u16 (r.2.2 : Int), .int .u32 (s.1 : Int), .int .u64 (s.2.1 : Int), .int .u16 (s.2.2 : Int)] 46) := ⟨_, rfl⟩
      have hbV : Below wr.heap.size wr V := by rw [hV]; exact below_new1 _ _
      have KX : Hid (Blk V wr.heap.size 46 (enC A1 n1 c1 A2 n2 c2 L r s).toArray) := by rw [hV]; exact Blk.new _ _ _
      rw [← hV]
      have HBV : Hid (Below W.heap.size W V) := HBE.out.trans (hbV.mono hbs)
      have x0 : V.cell? ⟨wr.heap.size, 0, none⟩ = some (.slice A1 n1 c1) := KX.out.cell 0
      have HC := Lib.hid (compare_any A1 n1 c1 Ky A' n' c' key V (HRK.out.below hbV) (HKr.out.below hbV))
      clear hV hbV a0 a1 a2 a3 a4 a5 a6 a7 a8
      have hcl := cmp_less Ky key
      have hce := cmp_eq Ky key
      obtain ⟨C, HCC⟩ : ∃ C, Hid (Lib.compareBytes Ky key = C) := ⟨_, rfl⟩
      rw [HCC.out] at HC hcl hce
      by_cases hge : C ≥ 0
      · have hl : (!less Ky key) = true := by rw [← hcl]; exact decide_eq_true hge
        have hA : fndA es key = i := firstAt_here HTO.out (by rw [← HLn.out]; exact hlt) (by rw [HEN.out]; exact hl)
        have hB : fndB es key = (Ky == key) := by
          rw [fndB, hA, HEN.out, decide_eq_true (by rw [← HLn.out]; exact hlt), Bool.true_and]
        have HA := Lib.hid hA
        have HB := Lib.hid (hB.trans hce.symm)
        have hd : decide (C ≥ 0) = true := decide_eq_true hge
        have hd2 : decide (0 ≤ C) = true := decide_eq_true hge
        clear hA hB hl hcl hce
        go_wp2_with (go_at_call 37; refine HC.out.mono ?_; rintro e w' ⟨rfl, rfl⟩)
        go_ret2
        exact ⟨by rw [HA.out, HB.out]; rfl, HWB.out.trans (HBV.out.mono (Nat.le_of_lt hWs))⟩
      · have hl : (!less Ky key) = false := by rw [← hcl]; exact decide_eq_false hge
        have HN : Hid (∀ j, j < i + 1 → (!less (es.getD j ent0).key key) = false) := fun j hj => by
          by_cases e : j = i
          · rw [e, HEN.out]; exact hl
          · exact HTO.out j (by omega)
        have hd : decide (C ≥ 0) = false := decide_eq_false hge
        have hd2 : decide (0 ≤ C) = false := decide_eq_false hge
        clear hl hcl hce
        go_wp2_with (go_at_call 37; refine HC.out.mono ?_; rintro e w' ⟨rfl, rfl⟩)
        go_roundw
        case rel => exact ⟨i + 1, by omega, by go_num, HN.out, HBV.out⟩
        case measure => first | (simp [intOf]; done) | (simp [intOf]; omega)
    · obtain rfl : i = n := by omega
      have d2 : wr.cell? ⟨w.heap.size, 2, none⟩ = some (.slice A i c) := KNr.out.cell 2
      have hA : fndA es key = i := by
        rw [fndA, ← HLn.out]; exact firstAt_none HTO.out
      have hB : fndB es key = false := by rw [fndB, hA, decide_eq_false (by rw [← HLn.out]; omega)]; rfl
      have HA := Lib.hid hA
      have HB := Lib.hid hB
      clear hA hB hi hlt
      go_wp2_with fail
      go_ret2
      exact ⟨by rw [HA.out, HB.out]; rfl, HWB.out.trans (HBE.out.mono (Nat.le_of_lt hWs))⟩
set_option maxRecDepth 100000 in
set_option maxHeartbeats 3200000 in
theorem child_any (k l : Nat) (A : Option Addr) (n c : Nat) (es : List Ent) (A' : Option Addr) (n' c' : Nat) (key : List UInt8) (w : World) (h : RdL w A n c es) (h' : Rd w A' n' c' key) :
    Calls Try.prog 24 #[NdV k l A n c, .slice A' n' c'] w fun e w' => e = .returned (.int .i64 (chdA es key)) ∧ Below w.heap.size w w' := by
  have hcap := h.cap
  have hmax := h.max
  unfold maxLen at hmax
  have HLn := Lib.hid h.len
  obtain ⟨W, hW⟩ : ∃ W, W = w.alloc (.cells #[.int .u8 (k : Int), .int .u8 (l : Int), .slice A n c] 24) := ⟨_, rfl⟩
  have HWB : Hid (Below w.heap.size w W) := by rw [hW]; exact below_new1 _ _
  have KN : Hid (Blk W w.heap.size 24 (ndA k l A n c)) := by rw [hW]; exact Blk.new _ _ _
  have HR := Lib.hid (h.below HWB.out)
  have HK := Lib.hid (h'.below HWB.out)
  have HW := Lib.hid hW
  clear h h' hW
  have hWs := KN.out.lt
  have d2 : W.cell? ⟨w.heap.size, 2, none⟩ = some (.slice A n c) := KN.out.cell 2
  go_enter Try.func24, Try.ntmps24
  go_wp2_with fail
  rw [← HW.out]
  go_wp2_with fail
  go_loopw [10] (fun z wr => ∃ i : Nat, i ≤ n ∧ z = .int .i64 (i : Int) ∧ (∀ j, j < i → less key (es.getD j ent0).key = false) ∧ Below W.heap.size W wr) (fun z _ => n - (intOf z).toNat)
  case atStart => exact ⟨0, Nat.zero_le _, rfl, fun j hj => absurd hj (by omega), Below.refl _ _⟩
  case round =>
    clear d2
    obtain ⟨i, hi, rfl, hto, hbel⟩ := hrel
    have HTO := Lib.hid hto
    have HBE := Lib.hid hbel
    have hbs := hbel.size
    have KNr := Lib.hid (KN.out.below hbel KN.out.lt)
    have HRr := Lib.hid (HR.out.below hbel)
    have HKr := Lib.hid (HK.out.below hbel)
    clear hto hbel
    by_cases hlt : i < n
    · obtain ⟨b, o, A1, n1, c1, A2, n2, c2, L, r, s, Ky, Va, rfl, hat, hrk, hrv, hent⟩ := HRr.out.pair i hlt
      have a0 := hat.c0
      have a1 := hat.c1
      have a2 := hat.c2
      have a3 := hat.c3
      have a4 := hat.c4
      have a5 := hat.c5
      have a6 := hat.c6
      have a7 := hat.c7
      have a8 := hat.c8
      have i1 : (0 : Int) ≤ (i : Int) := by omega
      have i2 : (i : Int) < (n : Int) := by omega
      have HEN : Hid ((es.getD i ent0).key = Ky) := by show _ = _; rw [hent]
      have HRK := Lib.hid hrk
      clear hat hrk hrv hent
      go_upto_region 4 with fail
      obtain ⟨V, hV⟩ : ∃ V, V = wr.alloc (.cells #[.slice A1 n1 c1, .slice A2 n2 c2, .int .i64 L, .int .u32 (r.1 : Int), .int .u64 (r.2.1 : Int), .int .u16 (r.2.2 : Int), .int .u32 (s.1 : Int), .int .u64 (s.2.1 : Int), .int .u16 (s.2.2 : Int)] 46) := ⟨_, rfl⟩
      have hbV : Below wr.heap.size wr V := by rw [hV]; exact below_new1 _ _
      have KX : Hid (Blk V wr.heap.size 46 (enC A1 n1 c1 A2 n2 c2 L r s).toArray) := by rw [hV]; exact Blk.new _ _ _
      rw [← hV]
      have HBV : Hid (Below W.heap.size W V) := HBE.out.trans (hbV.mono hbs)
      have x0 : V.cell? ⟨wr.heap.size, 0, none⟩ = some (.slice A1 n1 c1) := KX.out.cell 0
      have HC := Lib.hid (compare_any A1 n1 c1 Ky A' n' c' key V (HRK.out.below hbV) (HKr.out.below hbV))
      clear hV hbV a0 a1 a2 a3 a4 a5 a6 a7 a8
      have hcl := cmp_gtr Ky key
      obtain ⟨C, HCC⟩ : ∃ C, Hid (Lib.compareBytes Ky key = C) := ⟨_, rfl⟩
      rw [HCC.out] at HC hcl
      by_cases hge : C > 0
      · have hl : less key Ky = true := by rw [← hcl]; exact decide_eq_true hge
        have HA : Hid (chdA es key = (i : Int) - 1) := by show _ = _; rw [chdA, firstAt_here HTO.out (by rw [← HLn.out]; exact hlt) (by rw [HEN.out]; exact hl)]
        have hd : decide (C > 0) = true := decide_eq_true hge
        have hd2 : decide (0 < C) = true := decide_eq_true hge
        have hw1 : IntKind.i64.wrap ((i : Int) - 1) = (i : Int) - 1 := IntWalk.i64_in _ (by omega)
        clear hl hcl
        go_wp2_with (go_at_call 37; refine HC.out.mono ?_; rintro e w' ⟨rfl, rfl⟩)
        go_ret
        exact ⟨by rw [HA.out]; rfl, HWB.out.trans (HBV.out.mono (Nat.le_of_lt hWs))⟩
      · have hl : less key Ky = false := by rw [← hcl]; exact decide_eq_false hge
        have HN : Hid (∀ j, j < i + 1 → less key (es.getD j ent0).key = false) := fun j hj => by
          by_cases e : j = i
          · rw [e, HEN.out]; exact hl
          · exact HTO.out j (by omega)
        have hd : decide (C > 0) = false := decide_eq_false hge
        have hd2 : decide (0 < C) = false := decide_eq_false hge
        clear hl hcl
        go_wp2_with (go_at_call 37; refine HC.out.mono ?_; rintro e w' ⟨rfl, rfl⟩)
        go_roundw
        case rel => exact ⟨i + 1, by omega, by go_num, HN.out, HBV.out⟩
        case measure => first | (simp [intOf]; done) | (simp [intOf]; omega)
    · obtain rfl : i = n := by omega
      have d2 : wr.cell? ⟨w.heap.size, 2, none⟩ = some (.slice A i c) := KNr.out.cell 2
      have HA : Hid (chdA es key = (i : Int) - 1) := by show _ = _; rw [chdA, ← HLn.out, firstAt_none HTO.out]
      have hw1 : IntKind.i64.wrap ((i : Int) - 1) = (i : Int) - 1 := IntWalk.i64_in _ (by omega)
      clear hi hlt
      go_wp2_with fail
      go_ret
      exact ⟨by rw [HA.out]; rfl, HWB.out.trans (HBE.out.mono (Nat.le_of_lt hWs))⟩
end Go.Proofs.Ytgihcjmcefdkiaa
