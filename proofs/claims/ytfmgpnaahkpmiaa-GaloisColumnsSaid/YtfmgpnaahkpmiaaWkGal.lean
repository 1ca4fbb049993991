/- The walks of the statements of galois that take elements alone. -/
import Derived.Test.YtfmgpnaahkpmiaaGalD
set_option linter.unusedVariables false
namespace Go.Proofs.Ytfmgpnaahkpmiaa
open Go.RowKit Gal

theorem known_b (w : World) : Calls Try.prog 15 #[] w fun e w' => e = .returned (.bool true) ∧ Below w.heap.size w w' :=
  (known_any w).mono fun e w' ⟨he, hd⟩ => ⟨he, hd.below⟩
theorem sub_x (a x : Nat) (ha : a < 256) (hx : sub a = x) (w : World) : Calls Try.prog 20 #[.int .u8 a] w fun e w' => e = .returned (.int .u8 x) ∧ Below w.heap.size w w' := by
  subst hx
  exact (sub_any a ha w).mono fun e w' ⟨he, hd⟩ => ⟨he, hd.below⟩
theorem back_x (a x : Nat) (ha : a < 256) (hx : back a = x) (w : World) : Calls Try.prog 22 #[.int .u8 a] w fun e w' => e = .returned (.int .u8 x) ∧ Below w.heap.size w w' := by
  subst hx
  exact (back_any a ha w).mono fun e w' ⟨he, hd⟩ => ⟨he, hd.below⟩
theorem mul_z (a b : Nat) (y z : Int) (ha : a < 256) (hb : b < 256) (hy : y = (b : Int)) (hz : z = (gm a b : Nat)) (w : World) : Calls Try.prog 13 #[.int .u8 a, .int .u8 y] w fun e w' => e = .returned (.int .u8 z) ∧ w = w' := by
  subst hz; subst hy
  exact mul_any a b ha hb w
theorem power_z (a n : Nat) (y z : Int) (ha : a < 256) (hn : n < 4294967296) (hy : y = (n : Int)) (hz : z = (pw a n : Nat)) (w : World) : Calls Try.prog 18 #[.int .u8 a, .int .u32 y] w fun e w' => e = .returned (.int .u8 z) ∧ w = w' := by
  subst hz; subst hy
  exact power_any a n ha hn w

theorem galoisMul_walk (a b : Nat) (w : World) (ha : a < 256) (hb : b < 256) :
    Calls Try.prog 3 #[.int .u8 a, .int .u8 b] w fun e w' => e = .returned (.bool true) ∧ Below w.heap.size w w' := by
  obtain ⟨x, hx⟩ : ∃ x, gm a b = x := ⟨_, rfl⟩
  have M := mul_any a b ha hb w
  have R := refmul_any a b ha hb w
  rw [hx] at M R
  have M1 := Lib.hid M
  have R1 := Lib.hid R
  clear M R hx
  go_enter Try.func3, Try.ntmps3
  go_wp2_with fail
  refine M1.out.mono ?_
  rintro e w1 ⟨rfl, rfl⟩
  go_wp2_with fail
  refine R1.out.mono ?_
  rintro e w1 ⟨rfl, rfl⟩
  go_wp2_with (go_at_call 15; refine (known_b _).mono ?_; rintro e w3 ⟨rfl, hb3⟩)
  go_ret
  exact ⟨rfl, hb3⟩
theorem galoisInv_walk (a : Nat) (w : World) (ha : a < 256) :
    Calls Try.prog 4 #[.int .u8 a] w fun e w' => e = .returned (.bool true) ∧ Below w.heap.size w w' := by
  obtain ⟨x, hx⟩ : ∃ x, inv a = x := ⟨_, rfl⟩
  have M := inv_any a ha w
  have R := refinv_any a ha w
  rw [hx] at M R
  have M1 := Lib.hid M
  have R1 := Lib.hid R
  clear M R hx
  go_enter Try.func4, Try.ntmps4
  go_wp2_with fail
  refine M1.out.mono ?_
  rintro e w1 ⟨rfl, rfl⟩
  go_wp2_with fail
  refine R1.out.mono ?_
  rintro e w1 ⟨rfl, rfl⟩
  go_wp2_with (go_at_call 15; refine (known_b _).mono ?_; rintro e w3 ⟨rfl, hb3⟩)
  go_ret
  exact ⟨rfl, hb3⟩
theorem galoisPower_walk (a n : Nat) (w : World) (ha : a < 256) (hn : n < 4294967296) :
    Calls Try.prog 5 #[.int .u8 a, .int .u32 n] w fun e w' => e = .returned (.bool true) ∧ Below w.heap.size w w' := by
  obtain ⟨x, hx⟩ : ∃ x, pw a n = x := ⟨_, rfl⟩
  have M := power_any a n ha hn w
  have R := refpower_any a n ha hn w
  rw [hx] at M R
  have M1 := Lib.hid M
  have R1 := Lib.hid R
  clear M R hx
  go_enter Try.func5, Try.ntmps5
  go_wp2_with fail
  refine M1.out.mono ?_
  rintro e w1 ⟨rfl, rfl⟩
  go_wp2_with fail
  refine R1.out.mono ?_
  rintro e w1 ⟨rfl, rfl⟩
  go_wp2_with (go_at_call 15; refine (known_b _).mono ?_; rintro e w3 ⟨rfl, hb3⟩)
  go_ret
  exact ⟨rfl, hb3⟩
theorem galoisSub_walk (a : Nat) (w : World) (ha : a < 256) :
    Calls Try.prog 6 #[.int .u8 a] w fun e w' => e = .returned (.bool true) ∧ Below w.heap.size w w' := by
  obtain ⟨x, hx⟩ : ∃ x, sub a = x := ⟨_, rfl⟩
  have M1 := Lib.hid (sub_x a x ha hx w)
  have R := fun W => refsub_any a ha W
  rw [hx] at R
  have R1 := Lib.hid R
  clear R hx
  go_enter Try.func6, Try.ntmps6
  go_wp2_with fail
  refine M1.out.mono ?_
  rintro e w1 ⟨rfl, hb1⟩
  go_wp2_with fail
  refine (R1.out w1).mono ?_
  rintro e w2 ⟨rfl, rfl⟩
  go_wp2_with (go_at_call 15; refine (known_b _).mono ?_; rintro e w3 ⟨rfl, hb3⟩)
  go_ret
  exact ⟨rfl, hb1.trans (hb3.mono hb1.size)⟩
theorem galoisBack_walk (a : Nat) (w : World) (ha : a < 256) :
    Calls Try.prog 9 #[.int .u8 a] w fun e w' => e = .returned (.bool true) ∧ Below w.heap.size w w' := by
  obtain ⟨x, hx⟩ : ∃ x, back a = x := ⟨_, rfl⟩
  have M1 := Lib.hid (back_x a x ha hx w)
  have R := fun W => refback_any a ha W
  rw [hx] at R
  have R1 := Lib.hid R
  clear R hx
  go_enter Try.func9, Try.ntmps9
  go_wp2_with fail
  refine M1.out.mono ?_
  rintro e w1 ⟨rfl, hb1⟩
  go_wp2_with fail
  refine (R1.out w1).mono ?_
  rintro e w2 ⟨rfl, rfl⟩
  go_wp2_with (go_at_call 15; refine (known_b _).mono ?_; rintro e w3 ⟨rfl, hb3⟩)
  go_ret
  exact ⟨rfl, hb1.trans (hb3.mono hb1.size)⟩

set_option maxHeartbeats 1600000 in
theorem galoisThere_walk (a b : Nat) (w : World) (ha : a < 256) (hb : b < 256) :
    Calls Try.prog 10 #[.int .u8 a, .int .u8 b] w fun e w' => e = .returned (.bool true) ∧ Below w.heap.size w w' := by
  have hsa := sub_lt a ha
  have hba := back_lt a ha
  have h1 := back_sub a ha
  have h2 := sub_back a ha
  have h3 := sub_inj a b ha hb
  have h4 := sub_own a ha
  obtain ⟨s, hs⟩ : ∃ x, sub a = x := ⟨_, rfl⟩
  obtain ⟨t, ht⟩ : ∃ x, sub b = x := ⟨_, rfl⟩
  obtain ⟨q, hq⟩ : ∃ x, back a = x := ⟨_, rfl⟩
  rw [hs] at hsa h1 h3 h4
  rw [ht] at h3
  rw [hq] at hba h2
  have S1 := Lib.hid (fun W => sub_x a s ha hs W)
  have S2 := Lib.hid (fun W => sub_x b t hb ht W)
  have B1 := Lib.hid (fun W => back_x s a hsa h1 W)
  have B2 := Lib.hid (fun W => back_x a q ha hq W)
  have S3 := Lib.hid (fun W => sub_x q a hba h2 W)
  have hne1 : ((s : Int) != (a : Int)) = true := by rw [bne_iff_ne]; have := h4.1; omega
  have hne2 : ((s : Int) != (255 - (a : Int))) = true := by rw [bne_iff_ne]; have := h4.2; omega
  have heq : (((s : Int) == (t : Int)) == ((a : Int) == (b : Int))) = true := by
    by_cases h : a = b
    · have h' := h3.2 h
      subst h; subst h'; simp
    · have h' : s ≠ t := fun e => h (h3.1 e)
      have e1 : ((s : Int) == (t : Int)) = false := by rw [beq_eq_false_iff_ne]; omega
      have e2 : ((a : Int) == (b : Int)) = false := by rw [beq_eq_false_iff_ne]; omega
      rw [e1, e2]; rfl
  have hsg : IntKind.u8.signed = false := rfl
  have hnot : bits .xor .u8 IntKind.u8.max (a : Int) = 255 - (a : Int) := by
    have h : ∀ a : Fin 256, 255 ^^^ a.val = 255 - a.val := by decide +kernel
    have h1 := u8_xor_nat 255 a (by omega) ha
    rw [h ⟨a, ha⟩] at h1
    show bits .xor .u8 255 (a : Int) = _
    have h2 : bits .xor .u8 255 (a : Int) = ((255 - a : Nat) : Int) := h1
    rw [h2]; omega
  clear hs ht hq h1 h2 h3 h4
  go_enter Try.func10, Try.ntmps10
  go_wp2_with fail
  refine (S1.out w).mono ?_
  rintro e w1 ⟨rfl, hb1⟩
  go_wp2_with fail
  refine (S2.out w1).mono ?_
  rintro e w2 ⟨rfl, hb2⟩
  go_wp2_with fail
  refine (B1.out w2).mono ?_
  rintro e w3 ⟨rfl, hb3⟩
  go_wp2_with fail
  refine (B2.out w3).mono ?_
  rintro e w4 ⟨rfl, hb4⟩
  go_wp2_with fail
  refine (S3.out w4).mono ?_
  rintro e w5 ⟨rfl, hb5⟩
  go_wp2_with fail
  refine (known_b w5).mono ?_
  rintro e w6 ⟨rfl, hb6⟩
  go_wp2
  go_ret
  have s1 := hb1.size
  have s2 := hb2.size
  have s3 := hb3.size
  have s4 := hb4.size
  have s5 := hb5.size
  exact ⟨rfl, ((((hb1.trans (hb2.mono (by omega))).trans (hb3.mono (by omega))).trans (hb4.mono (by omega))).trans (hb5.mono (by omega))).trans (hb6.mono (by omega))⟩

set_option maxRecDepth 20000 in
set_option maxHeartbeats 1600000 in
theorem galoisPowers_walk (a m n : Nat) (w : World) (ha : a < 256) (hm : m < 65536) (hn : n < 65536) :
    Calls Try.prog 8 #[.int .u8 a, .int .u16 m, .int .u16 n] w fun e w' => e = .returned (.bool true) ∧ Below w.heap.size w w' := by
  have hadd := pw_add a ha m n
  have hpm := pw_lt a ha m
  have hpn := pw_lt a ha n
  have hone := pw_one a ha
  have hf := fermat a ha
  obtain ⟨x, hx⟩ : ∃ x, pw a m = x := ⟨_, rfl⟩
  obtain ⟨y, hy⟩ : ∃ x, pw a n = x := ⟨_, rfl⟩
  obtain ⟨z, hz⟩ : ∃ x, pw a (m + n) = x := ⟨_, rfl⟩
  obtain ⟨v, hv⟩ : ∃ x, pw a 255 = x := ⟨_, rfl⟩
  rw [hx] at hadd hpm
  rw [hy] at hadd hpn
  rw [hz] at hadd
  rw [hv] at hf
  have P1 := Lib.hid (power_z a m m x ha (by omega) rfl (by rw [hx]) w)
  have P2 := Lib.hid (power_z a n n y ha (by omega) rfl (by rw [hy]) w)
  have P3 := Lib.hid (power_z a (m + n) ((m : Int) + (n : Int)) z ha (by omega) rfl (by rw [hz]) w)
  have P4 := Lib.hid (power_z a 1 1 a ha (by omega) rfl (by rw [hone]) w)
  have P5 : Hid (Calls Try.prog 18 #[.int .u8 a, .int .u32 255] w fun e w' => e = .returned (.int .u8 v) ∧ w = w') := by
    have h := power_any a 255 ha (by decide) w
    rw [hv] at h
    exact h
  have M := Lib.hid (mul_z x y y z hpm hpn rfl (by rw [hadd]) w)
  have heq : (((v : Int) == 1) == ((a : Int) != 0)) = true := by
    by_cases h : a = 0
    · rw [if_pos h] at hf
      subst h; subst hf; rfl
    · rw [if_neg h] at hf
      subst hf
      have : ((a : Int) != 0) = true := by rw [bne_iff_ne]; omega
      rw [this]; rfl
  clear hx hy hz hv hone hf hadd
  go_enter Try.func8, Try.ntmps8
  go_wp2_with fail
  refine P1.out.mono ?_
  rintro e w1 ⟨rfl, rfl⟩
  go_wp2_with fail
  refine P2.out.mono ?_
  rintro e w1 ⟨rfl, rfl⟩
  go_wp2_with fail
  refine P3.out.mono ?_
  rintro e w1 ⟨rfl, rfl⟩
  go_wp2_with fail
  refine M.out.mono ?_
  rintro e w1 ⟨rfl, rfl⟩
  go_wp2_with fail
  refine P4.out.mono ?_
  rintro e w1 ⟨rfl, rfl⟩
  go_wp2_with fail
  refine P5.out.mono ?_
  rintro e w1 ⟨rfl, rfl⟩
  go_wp2_with fail
  refine (known_b w).mono ?_
  rintro e w6 ⟨rfl, hb6⟩
  go_wp2
  go_ret
  exact ⟨rfl, hb6⟩

set_option maxHeartbeats 3200000 in
theorem galoisField_core (a b c : Nat) (w : World) (ha : a < 256) (hb : b < 256) (hc : c < 256) (p o : Nat) (hp : gm a b = p) (ho : gm a (inv a) = o)
    (ea : Bool) (eb : Bool) (ep : Bool) (hea : ((a : Int) == 0) = ea) (hea' : ((a : Int) != 0) = !ea) (heb : ((b : Int) == 0) = eb) (hep : ((p : Int) != 0) = ep)
    (ho0 : ((o : Int) == 0) = ea) (ho1 : ((o : Int) == 1) = !ea) (hall : (ep || ea || eb) = true) :
    Calls Try.prog 7 #[.int .u8 a, .int .u8 b, .int .u8 c] w fun e w' => e = .returned (.bool true) ∧ Below w.heap.size w w' := by
  have hpl : p < 256 := by rw [← hp]; exact gm_lt a b ha
  have hil := inv_lt a ha
  have hba : gm b a = p := by rw [gm_comm b a hb ha, hp]
  obtain ⟨q, hq⟩ : ∃ x, gm p c = x := ⟨_, rfl⟩
  obtain ⟨r, hr⟩ : ∃ x, gm b c = x := ⟨_, rfl⟩
  have hrl : r < 256 := by rw [← hr]; exact gm_lt b c hb
  have har : gm a r = q := by rw [← hr, ← gm_assoc a b c ha hb hc, hp, hq]
  obtain ⟨s, hs⟩ : ∃ x, b ^^^ c = x := ⟨_, rfl⟩
  have hsl : s < 256 := by rw [← hs]; exact xor_lt b c hb hc
  obtain ⟨u, hu⟩ : ∃ x, gm a c = x := ⟨_, rfl⟩
  have hul : u < 256 := by rw [← hu]; exact gm_lt a c ha
  obtain ⟨t, ht⟩ : ∃ x, gm a s = x := ⟨_, rfl⟩
  have hxt : p ^^^ u = t := by rw [← ht, ← hs, gm_right, hp, hu]
  have g1 := bxor b c s hb hc hs
  have g2 := bxor p u t hpl hul hxt
  have M1 := Lib.hid (mul_z a b b p ha hb rfl (by rw [hp]) w)
  have M2 := Lib.hid (mul_z b a a p hb ha rfl (by rw [hba]) w)
  have M3 := Lib.hid (mul_z p c c q hpl hc rfl (by rw [hq]) w)
  have M4 := Lib.hid (mul_z b c c r hb hc rfl (by rw [hr]) w)
  have M5 := Lib.hid (mul_z a r r q ha hrl rfl (by rw [har]) w)
  have M6 := Lib.hid (mul_z a s s t ha hsl rfl (by rw [ht]) w)
  have M7 := Lib.hid (mul_z a c c u ha hc rfl (by rw [hu]) w)
  have hi := inv_any a ha w
  obtain ⟨i, hi2⟩ : ∃ x, inv a = x := ⟨_, rfl⟩
  rw [hi2] at hi hil ho
  have I1 := Lib.hid hi
  have M8 := Lib.hid (mul_z a i i o ha hil rfl (by rw [ho]) w)
  have M9 := Lib.hid (mul_z a 1 1 a ha (by omega) rfl (by rw [gm_one a ha]) w)
  clear hi hi2 ho hp hba hq hr har hs hu ht hxt
  cases ea <;> cases eb <;> cases ep <;> first | (exfalso; revert hall; decide) | skip
  all_goals
    clear hall
    go_enter Try.func7, Try.ntmps7
    go_wp2_with fail
    refine M1.out.mono ?_
    rintro e w1 ⟨rfl, rfl⟩
    go_wp2_with fail
    refine M2.out.mono ?_
    rintro e w1 ⟨rfl, rfl⟩
    go_wp2_with fail
    refine M3.out.mono ?_
    rintro e w1 ⟨rfl, rfl⟩
    go_wp2_with fail
    refine M4.out.mono ?_
    rintro e w1 ⟨rfl, rfl⟩
    go_wp2_with fail
    refine M5.out.mono ?_
    rintro e w1 ⟨rfl, rfl⟩
    go_wp2_with fail
    refine M6.out.mono ?_
    rintro e w1 ⟨rfl, rfl⟩
    go_wp2_with fail
    refine M7.out.mono ?_
    rintro e w1 ⟨rfl, rfl⟩
    go_wp2_with fail
    refine I1.out.mono ?_
    rintro e w1 ⟨rfl, rfl⟩
    go_wp2_with fail
    refine M8.out.mono ?_
    rintro e w1 ⟨rfl, rfl⟩
    go_wp2_with fail
    refine M9.out.mono ?_
    rintro e w1 ⟨rfl, rfl⟩
    go_wp2_with fail
    refine (known_b w).mono ?_
    rintro e w6 ⟨rfl, hb6⟩
    go_wp2
    go_ret
    exact ⟨rfl, hb6⟩
theorem galoisField_walk (a b c : Nat) (w : World) (ha : a < 256) (hb : b < 256) (hc : c < 256) :
    Calls Try.prog 7 #[.int .u8 a, .int .u8 b, .int .u8 c] w fun e w' => e = .returned (.bool true) ∧ Below w.heap.size w w' := by
  have hz := gm_eq_zero a b ha hb
  refine galoisField_core a b c w ha hb hc _ _ rfl rfl ((a : Int) == 0) ((b : Int) == 0) ((gm a b : Int) != 0) rfl rfl rfl rfl ?_ ?_ ?_
  · by_cases h : a = 0
    · subst h; rw [zero_gm _ (inv_lt 0 ha)]
    · rw [gm_inv a ha h]
      have : ((a : Int) == 0) = false := by rw [beq_eq_false_iff_ne]; omega
      rw [this]; rfl
  · by_cases h : a = 0
    · subst h; rw [zero_gm _ (inv_lt 0 ha)]; rfl
    · rw [gm_inv a ha h]
      have : ((a : Int) == 0) = false := by rw [beq_eq_false_iff_ne]; omega
      rw [this]; rfl
  · rw [Bool.or_eq_true, Bool.or_eq_true, bne_iff_ne, beq_iff_eq, beq_iff_eq]
    by_cases h : gm a b = 0
    · rcases hz h with h | h <;> omega
    · omega
end Go.Proofs.Ytfmgpnaahkpmiaa
