/- The walk of OctetRing: bytes by themselves are noughts, by noughts they stay, and no order counts. -/
import Derived.Test.YtlmlalogadlefaaOctKnown
import Derived.Test.YtlmlalogadlefaaOctX
import Derived.WalkLawsBesides
set_option linter.unusedVariables false
namespace Go.Proofs.Ytlmlalogadlefaa
open Go.RowKit

theorem octsame_yes (A : Option Addr) (n c : Nat) (A' : Option Addr) (c' : Nat) (l : List UInt8) (w : World) (h : Rd w A n c l) (h' : Rd w A' n c' l) :
    Calls Try.prog 24 #[.slice A n c, .slice A' n c'] w fun e w' => e = .returned (.bool true) ∧ Below w.heap.size w w' :=
  (octsame_eq A n c l A' c' l w h h').mono fun e w' ⟨he, m, hw⟩ => ⟨by rw [he]; simp, by rw [hw]; exact below_drewN (Below.refl _ _) m⟩
theorem octsame_any (A : Option Addr) (n c : Nat) (l : List UInt8) (A' : Option Addr) (c' : Nat) (l' : List UInt8) (w : World) (h : Rd w A n c l) (h' : Rd w A' n c' l') :
    Calls Try.prog 24 #[.slice A n c, .slice A' n c'] w fun e w' => e = .returned (.bool (l == l')) ∧ Below w.heap.size w w' :=
  (octsame_eq A n c l A' c' l' w h h').mono fun e w' ⟨he, m, hw⟩ => ⟨he, by rw [hw]; exact below_drewN (Below.refl _ _) m⟩
theorem xor_row (A : Option Addr) (n c : Nat) (l : List UInt8) (A' : Option Addr) (c' : Nat) (l' : List UInt8) (w : World) (h : Rd w A n c l) (h' : Rd w A' n c' l') (hn : n ≤ 140737488355328) :
    Calls Try.prog 23 #[.slice A n c, .slice A' n c'] w fun e w' => ∃ B d, e = .returned (.tuple #[.slice B n d, .int .i64 0]) ∧ Rd w' B n d (xors l l') ∧ Below w.heap.size w w' :=
  (xor_eq A n c l A' c' l' w h h' hn).mono fun e w' ⟨B, d, he, hown, hb⟩ => ⟨B, d, he, Rd.of_own hown, hb⟩

set_option maxHeartbeats 6400000 in
theorem octetRing_first (A : Option Addr) (n c : Nat) (l : List UInt8) (A' : Option Addr) (n' c' : Nat) (l' : List UInt8) (A'' : Option Addr) (n'' c'' : Nat) (l'' : List UInt8) (w : World)
    (h : Rd w A n c l) (hr : c ≤ 140737488351232) (h' : Rd w A' n' c' l') (hr' : c' ≤ 140737488351232) (h'' : Rd w A'' n'' c'' l'') (hr'' : c'' ≤ 140737488351232)
    (h1 : ¬ (n' : Int) < n) (h2 : ¬ (n'' : Int) < n) :
    Calls Try.prog 10 #[.slice A n c, .slice A' n' c', .slice A'' n'' c''] w fun e w' => e = .returned (.bool true) ∧ Below w.heap.size w w' := by
  have hcm := h.cap
  have hcm' := h'.cap
  have hcm'' := h''.cap
  obtain ⟨a, Ha⟩ : ∃ a, Hid (a = l.take n) := ⟨_, rfl⟩
  obtain ⟨b, Hb⟩ : ∃ b, Hid (b = l'.take n) := ⟨_, rfl⟩
  obtain ⟨d, Hd⟩ : ∃ d, Hid (d = l''.take n) := ⟨_, rfl⟩
  have ra := h.take_ n (by omega)
  have rb := h'.take_ n (by omega)
  have rd := h''.take_ n (by omega)
  rw [← Ha.out] at ra
  rw [← Hb.out] at rb
  rw [← Hd.out] at rd
  have la := ra.len
  have lb := rb.len
  have E1 : Hid (xors b a = xors a b) := xors_comm b a
  have E2 : Hid (xors a (xors b d) = xors (xors a b) d) := (xors_assoc a b d).symm
  have E3 : Hid (zeros (xors a a) = true) := xors_self_zeros a
  have E4 : Hid (xors (xors a b) b = a) := xors_back a b (by rw [← la, ← lb])
  have E5 : Hid (zeros (xors a b) = (a == b)) := zeros_xors_beq a b (by rw [← la, ← lb])
  have Ra := Lib.hid ra
  have Rb := Lib.hid rb
  have Rd0 := Lib.hid rd
  have hnn : n ≤ 140737488351232 := by omega
  clear h h' h'' ra rb rd la lb Ha Hb Hd
  go_enter Try.func10, Try.ntmps10
  go_wp2_with fail
  go_quiet (fail)
  have hbq : Below w.heap.size w (w.drewN nq) := below_drewN (Below.refl _ _) nq
  have Ra0 := Lib.hid (Ra.out.below hbq)
  have Rb0 := Lib.hid (Rb.out.below hbq)
  have Rd1 := Lib.hid (Rd0.out.below hbq)
  clear Ra Rb Rd0
  obtain ⟨w0, hw0⟩ : ∃ w0, w0 = w.drewN nq := ⟨_, rfl⟩
  rw [← hw0] at Ra0 Rb0 Rd1 hbq
  rw [← hw0]
  clear hw0
  go_wp2_with fail
  refine (xor_row A n c a A' c' b w0 Ra0.out Rb0.out (by omega)).mono ?_
  rintro e w1 ⟨X, xc, rfl, rX, hb1⟩
  have RX1 := Lib.hid rX
  have Ra1 := Lib.hid (Ra0.out.below hb1)
  have Rb1 := Lib.hid (Rb0.out.below hb1)
  have Rd2 := Lib.hid (Rd1.out.below hb1)
  clear rX Ra0 Rb0 Rd1
  go_wp2_with fail
  refine (xor_row A' n c' b A c a w1 Rb1.out Ra1.out (by omega)).mono ?_
  rintro e w2 ⟨Y, yc, rfl, rY, hb2⟩
  rw [E1.out] at rY
  have RY2 := Lib.hid rY
  have RX2 := Lib.hid (RX1.out.below hb2)
  have Ra2 := Lib.hid (Ra1.out.below hb2)
  have Rb2 := Lib.hid (Rb1.out.below hb2)
  have Rd3 := Lib.hid (Rd2.out.below hb2)
  clear rY RX1 Ra1 Rb1 Rd2
  go_wp2_with fail
  refine (xor_row X n xc (xors a b) A'' c'' d w2 RX2.out Rd3.out (by omega)).mono ?_
  rintro e w3 ⟨Z, zc, rfl, rZ, hb3⟩
  have RZ3 := Lib.hid rZ
  have RX3 := Lib.hid (RX2.out.below hb3)
  have RY3 := Lib.hid (RY2.out.below hb3)
  have Ra3 := Lib.hid (Ra2.out.below hb3)
  have Rb3 := Lib.hid (Rb2.out.below hb3)
  have Rd4 := Lib.hid (Rd3.out.below hb3)
  clear rZ RX2 RY2 Ra2 Rb2 Rd3
  go_wp2_with fail
  refine (xor_row A' n c' b A'' c'' d w3 Rb3.out Rd4.out (by omega)).mono ?_
  rintro e w4 ⟨U, uc, rfl, rU, hb4⟩
  have RU4 := Lib.hid rU
  have RX4 := Lib.hid (RX3.out.below hb4)
  have RY4 := Lib.hid (RY3.out.below hb4)
  have RZ4 := Lib.hid (RZ3.out.below hb4)
  have Ra4 := Lib.hid (Ra3.out.below hb4)
  have Rb4 := Lib.hid (Rb3.out.below hb4)
  clear rU RX3 RY3 RZ3 Ra3 Rb3 Rd4
  go_wp2_with fail
  refine (xor_row A n c a U uc (xors b d) w4 Ra4.out RU4.out (by omega)).mono ?_
  rintro e w5 ⟨V, vc, rfl, rV, hb5⟩
  rw [E2.out] at rV
  have RV5 := Lib.hid rV
  have RX5 := Lib.hid (RX4.out.below hb5)
  have RY5 := Lib.hid (RY4.out.below hb5)
  have RZ5 := Lib.hid (RZ4.out.below hb5)
  have Ra5 := Lib.hid (Ra4.out.below hb5)
  have Rb5 := Lib.hid (Rb4.out.below hb5)
  clear rV RX4 RY4 RZ4 Ra4 Rb4 RU4
  go_wp2_with fail
  refine (xor_row A n c a A c a w5 Ra5.out Ra5.out (by omega)).mono ?_
  rintro e w6 ⟨O, oc, rfl, rO, hb6⟩
  have RO6 := Lib.hid rO
  have RX6 := Lib.hid (RX5.out.below hb6)
  have RY6 := Lib.hid (RY5.out.below hb6)
  have RZ6 := Lib.hid (RZ5.out.below hb6)
  have RV6 := Lib.hid (RV5.out.below hb6)
  have Ra6 := Lib.hid (Ra5.out.below hb6)
  have Rb6 := Lib.hid (Rb5.out.below hb6)
  clear rO RX5 RY5 RZ5 RV5 Ra5 Rb5
  go_wp2_with fail
  refine (xor_row X n xc (xors a b) A' c' b w6 RX6.out Rb6.out (by omega)).mono ?_
  rintro e w7 ⟨K, kc, rfl, rK, hb7⟩
  rw [E4.out] at rK
  have RK7 := Lib.hid rK
  have RX7 := Lib.hid (RX6.out.below hb7)
  have RY7 := Lib.hid (RY6.out.below hb7)
  have RZ7 := Lib.hid (RZ6.out.below hb7)
  have RV7 := Lib.hid (RV6.out.below hb7)
  have RO7 := Lib.hid (RO6.out.below hb7)
  have Ra7 := Lib.hid (Ra6.out.below hb7)
  have Rb7 := Lib.hid (Rb6.out.below hb7)
  clear rK RX6 RY6 RZ6 RV6 RO6 Ra6 Rb6
  go_wp2_with fail
  refine (octsame_yes X n xc Y yc (xors a b) w7 RX7.out RY7.out).mono ?_
  rintro e w8 ⟨rfl, hb8⟩
  have RX8 := Lib.hid (RX7.out.below hb8)
  have RZ8 := Lib.hid (RZ7.out.below hb8)
  have RV8 := Lib.hid (RV7.out.below hb8)
  have RO8 := Lib.hid (RO7.out.below hb8)
  have RK8 := Lib.hid (RK7.out.below hb8)
  have Ra8 := Lib.hid (Ra7.out.below hb8)
  have Rb8 := Lib.hid (Rb7.out.below hb8)
  clear RX7 RY7 RZ7 RV7 RO7 RK7 Ra7 Rb7
  go_wp2_with fail
  refine (octsame_yes Z n zc V vc (xors (xors a b) d) w8 RZ8.out RV8.out).mono ?_
  rintro e w9 ⟨rfl, hb9⟩
  have RX9 := Lib.hid (RX8.out.below hb9)
  have RO9 := Lib.hid (RO8.out.below hb9)
  have RK9 := Lib.hid (RK8.out.below hb9)
  have Ra9 := Lib.hid (Ra8.out.below hb9)
  have Rb9 := Lib.hid (Rb8.out.below hb9)
  clear RX8 RZ8 RV8 RO8 RK8 Ra8 Rb8
  go_wp2_with fail
  refine (nought_any O n oc (xors a a) w9 RO9.out).mono ?_
  rintro e w10 ⟨rfl, rfl⟩
  rw [E3.out]
  go_wp2_with fail
  refine (octsame_yes K n kc A c a w9 RK9.out Ra9.out).mono ?_
  rintro e w10 ⟨rfl, hb10⟩
  have RX10 := Lib.hid (RX9.out.below hb10)
  have Ra10 := Lib.hid (Ra9.out.below hb10)
  have Rb10 := Lib.hid (Rb9.out.below hb10)
  clear RX9 RO9 RK9 Ra9 Rb9
  go_wp2_with fail
  refine (nought_any X n xc (xors a b) w10 RX10.out).mono ?_
  rintro e w11 ⟨rfl, rfl⟩
  rw [E5.out]
  obtain ⟨q, HQ⟩ : ∃ q, Hid (q = (a == b)) := ⟨_, rfl⟩
  rw [← HQ.out]
  have hqq : (q == q) = true := by simp
  go_wp2_with fail
  refine (octsame_any A n c a A' c' b w10 Ra10.out Rb10.out).mono ?_
  rintro e w11 ⟨rfl, hb11⟩
  rw [← HQ.out]
  go_wp2_with fail
  refine (known_any w11).mono ?_
  rintro e w12 ⟨rfl, hb12⟩
  go_wp2
  go_ret
  have s0 := hbq.size
  have s1 := hb1.size
  have s2 := hb2.size
  have s3 := hb3.size
  have s4 := hb4.size
  have s5 := hb5.size
  have s6 := hb6.size
  have s7 := hb7.size
  have s8 := hb8.size
  have s9 := hb9.size
  have s10 := hb10.size
  have s11 := hb11.size
  have t1 := hbq.trans (hb1.mono s0)
  have t2 := t1.trans (hb2.mono (by omega))
  have t3 := t2.trans (hb3.mono (by omega))
  have t4 := t3.trans (hb4.mono (by omega))
  have t5 := t4.trans (hb5.mono (by omega))
  have t6 := t5.trans (hb6.mono (by omega))
  have t7 := t6.trans (hb7.mono (by omega))
  have t8 := t7.trans (hb8.mono (by omega))
  have t9 := t8.trans (hb9.mono (by omega))
  have t10 := t9.trans (hb10.mono (by omega))
  have t11 := t10.trans (hb11.mono (by omega))
  exact ⟨rfl, t11.trans (hb12.mono (by omega))⟩

set_option maxHeartbeats 6400000 in
theorem octetRing_second (A : Option Addr) (n c : Nat) (l : List UInt8) (A' : Option Addr) (n' c' : Nat) (l' : List UInt8) (A'' : Option Addr) (n'' c'' : Nat) (l'' : List UInt8) (w : World)
    (h : Rd w A n c l) (hr : c ≤ 140737488351232) (h' : Rd w A' n' c' l') (hr' : c' ≤ 140737488351232) (h'' : Rd w A'' n'' c'' l'') (hr'' : c'' ≤ 140737488351232)
    (h1 : (n' : Int) < n) (h2 : ¬ (n'' : Int) < n') :
    Calls Try.prog 10 #[.slice A n c, .slice A' n' c', .slice A'' n'' c''] w fun e w' => e = .returned (.bool true) ∧ Below w.heap.size w w' := by
  have hcm := h.cap
  have hcm' := h'.cap
  have hcm'' := h''.cap
  obtain ⟨a, Ha⟩ : ∃ a, Hid (a = l.take n') := ⟨_, rfl⟩
  obtain ⟨b, Hb⟩ : ∃ b, Hid (b = l'.take n') := ⟨_, rfl⟩
  obtain ⟨d, Hd⟩ : ∃ d, Hid (d = l''.take n') := ⟨_, rfl⟩
  have ra := h.take_ n' (by omega)
  have rb := h'.take_ n' (by omega)
  have rd := h''.take_ n' (by omega)
  rw [← Ha.out] at ra
  rw [← Hb.out] at rb
  rw [← Hd.out] at rd
  have la := ra.len
  have lb := rb.len
  have E1 : Hid (xors b a = xors a b) := xors_comm b a
  have E2 : Hid (xors a (xors b d) = xors (xors a b) d) := (xors_assoc a b d).symm
  have E3 : Hid (zeros (xors a a) = true) := xors_self_zeros a
  have E4 : Hid (xors (xors a b) b = a) := xors_back a b (by rw [← la, ← lb])
  have E5 : Hid (zeros (xors a b) = (a == b)) := zeros_xors_beq a b (by rw [← la, ← lb])
  have Ra := Lib.hid ra
  have Rb := Lib.hid rb
  have Rd0 := Lib.hid rd
  have hnn : n' ≤ 140737488351232 := by omega
  clear h h' h'' ra rb rd la lb Ha Hb Hd
  go_enter Try.func10, Try.ntmps10
  go_wp2_with fail
  go_quiet (fail)
  have hbq : Below w.heap.size w (w.drewN nq) := below_drewN (Below.refl _ _) nq
  have Ra0 := Lib.hid (Ra.out.below hbq)
  have Rb0 := Lib.hid (Rb.out.below hbq)
  have Rd1 := Lib.hid (Rd0.out.below hbq)
  clear Ra Rb Rd0
  obtain ⟨w0, hw0⟩ : ∃ w0, w0 = w.drewN nq := ⟨_, rfl⟩
  rw [← hw0] at Ra0 Rb0 Rd1 hbq
  rw [← hw0]
  clear hw0
  go_wp2_with fail
  refine (xor_row A n' c a A' c' b w0 Ra0.out Rb0.out (by omega)).mono ?_
  rintro e w1 ⟨X, xc, rfl, rX, hb1⟩
  have RX1 := Lib.hid rX
  have Ra1 := Lib.hid (Ra0.out.below hb1)
  have Rb1 := Lib.hid (Rb0.out.below hb1)
  have Rd2 := Lib.hid (Rd1.out.below hb1)
  clear rX Ra0 Rb0 Rd1
  go_wp2_with fail
  refine (xor_row A' n' c' b A c a w1 Rb1.out Ra1.out (by omega)).mono ?_
  rintro e w2 ⟨Y, yc, rfl, rY, hb2⟩
  rw [E1.out] at rY
  have RY2 := Lib.hid rY
  have RX2 := Lib.hid (RX1.out.below hb2)
  have Ra2 := Lib.hid (Ra1.out.below hb2)
  have Rb2 := Lib.hid (Rb1.out.below hb2)
  have Rd3 := Lib.hid (Rd2.out.below hb2)
  clear rY RX1 Ra1 Rb1 Rd2
  go_wp2_with fail
  refine (xor_row X n' xc (xors a b) A'' c'' d w2 RX2.out Rd3.out (by omega)).mono ?_
  rintro e w3 ⟨Z, zc, rfl, rZ, hb3⟩
  have RZ3 := Lib.hid rZ
  have RX3 := Lib.hid (RX2.out.below hb3)
  have RY3 := Lib.hid (RY2.out.below hb3)
  have Ra3 := Lib.hid (Ra2.out.below hb3)
  have Rb3 := Lib.hid (Rb2.out.below hb3)
  have Rd4 := Lib.hid (Rd3.out.below hb3)
  clear rZ RX2 RY2 Ra2 Rb2 Rd3
  go_wp2_with fail
  refine (xor_row A' n' c' b A'' c'' d w3 Rb3.out Rd4.out (by omega)).mono ?_
  rintro e w4 ⟨U, uc, rfl, rU, hb4⟩
  have RU4 := Lib.hid rU
  have RX4 := Lib.hid (RX3.out.below hb4)
  have RY4 := Lib.hid (RY3.out.below hb4)
  have RZ4 := Lib.hid (RZ3.out.below hb4)
  have Ra4 := Lib.hid (Ra3.out.below hb4)
  have Rb4 := Lib.hid (Rb3.out.below hb4)
  clear rU RX3 RY3 RZ3 Ra3 Rb3 Rd4
  go_wp2_with fail
  refine (xor_row A n' c a U uc (xors b d) w4 Ra4.out RU4.out (by omega)).mono ?_
  rintro e w5 ⟨V, vc, rfl, rV, hb5⟩
  rw [E2.out] at rV
  have RV5 := Lib.hid rV
  have RX5 := Lib.hid (RX4.out.below hb5)
  have RY5 := Lib.hid (RY4.out.below hb5)
  have RZ5 := Lib.hid (RZ4.out.below hb5)
  have Ra5 := Lib.hid (Ra4.out.below hb5)
  have Rb5 := Lib.hid (Rb4.out.below hb5)
  clear rV RX4 RY4 RZ4 Ra4 Rb4 RU4
  go_wp2_with fail
  refine (xor_row A n' c a A c a w5 Ra5.out Ra5.out (by omega)).mono ?_
  rintro e w6 ⟨O, oc, rfl, rO, hb6⟩
  have RO6 := Lib.hid rO
  have RX6 := Lib.hid (RX5.out.below hb6)
  have RY6 := Lib.hid (RY5.out.below hb6)
  have RZ6 := Lib.hid (RZ5.out.below hb6)
  have RV6 := Lib.hid (RV5.out.below hb6)
  have Ra6 := Lib.hid (Ra5.out.below hb6)
  have Rb6 := Lib.hid (Rb5.out.below hb6)
  clear rO RX5 RY5 RZ5 RV5 Ra5 Rb5
  go_wp2_with fail
  refine (xor_row X n' xc (xors a b) A' c' b w6 RX6.out Rb6.out (by omega)).mono ?_
  rintro e w7 ⟨K, kc, rfl, rK, hb7⟩
  rw [E4.out] at rK
  have RK7 := Lib.hid rK
  have RX7 := Lib.hid (RX6.out.below hb7)
  have RY7 := Lib.hid (RY6.out.below hb7)
  have RZ7 := Lib.hid (RZ6.out.below hb7)
  have RV7 := Lib.hid (RV6.out.below hb7)
  have RO7 := Lib.hid (RO6.out.below hb7)
  have Ra7 := Lib.hid (Ra6.out.below hb7)
  have Rb7 := Lib.hid (Rb6.out.below hb7)
  clear rK RX6 RY6 RZ6 RV6 RO6 Ra6 Rb6
  go_wp2_with fail
  refine (octsame_yes X n' xc Y yc (xors a b) w7 RX7.out RY7.out).mono ?_
  rintro e w8 ⟨rfl, hb8⟩
  have RX8 := Lib.hid (RX7.out.below hb8)
  have RZ8 := Lib.hid (RZ7.out.below hb8)
  have RV8 := Lib.hid (RV7.out.below hb8)
  have RO8 := Lib.hid (RO7.out.below hb8)
  have RK8 := Lib.hid (RK7.out.below hb8)
  have Ra8 := Lib.hid (Ra7.out.below hb8)
  have Rb8 := Lib.hid (Rb7.out.below hb8)
  clear RX7 RY7 RZ7 RV7 RO7 RK7 Ra7 Rb7
  go_wp2_with fail
  refine (octsame_yes Z n' zc V vc (xors (xors a b) d) w8 RZ8.out RV8.out).mono ?_
  rintro e w9 ⟨rfl, hb9⟩
  have RX9 := Lib.hid (RX8.out.below hb9)
  have RO9 := Lib.hid (RO8.out.below hb9)
  have RK9 := Lib.hid (RK8.out.below hb9)
  have Ra9 := Lib.hid (Ra8.out.below hb9)
  have Rb9 := Lib.hid (Rb8.out.below hb9)
  clear RX8 RZ8 RV8 RO8 RK8 Ra8 Rb8
  go_wp2_with fail
  refine (nought_any O n' oc (xors a a) w9 RO9.out).mono ?_
  rintro e w10 ⟨rfl, rfl⟩
  rw [E3.out]
  go_wp2_with fail
  refine (octsame_yes K n' kc A c a w9 RK9.out Ra9.out).mono ?_
  rintro e w10 ⟨rfl, hb10⟩
  have RX10 := Lib.hid (RX9.out.below hb10)
  have Ra10 := Lib.hid (Ra9.out.below hb10)
  have Rb10 := Lib.hid (Rb9.out.below hb10)
  clear RX9 RO9 RK9 Ra9 Rb9
  go_wp2_with fail
  refine (nought_any X n' xc (xors a b) w10 RX10.out).mono ?_
  rintro e w11 ⟨rfl, rfl⟩
  rw [E5.out]
  obtain ⟨q, HQ⟩ : ∃ q, Hid (q = (a == b)) := ⟨_, rfl⟩
  rw [← HQ.out]
  have hqq : (q == q) = true := by simp
  go_wp2_with fail
  refine (octsame_any A n' c a A' c' b w10 Ra10.out Rb10.out).mono ?_
  rintro e w11 ⟨rfl, hb11⟩
  rw [← HQ.out]
  go_wp2_with fail
  refine (known_any w11).mono ?_
  rintro e w12 ⟨rfl, hb12⟩
  go_wp2
  go_ret
  have s0 := hbq.size
  have s1 := hb1.size
  have s2 := hb2.size
  have s3 := hb3.size
  have s4 := hb4.size
  have s5 := hb5.size
  have s6 := hb6.size
  have s7 := hb7.size
  have s8 := hb8.size
  have s9 := hb9.size
  have s10 := hb10.size
  have s11 := hb11.size
  have t1 := hbq.trans (hb1.mono s0)
  have t2 := t1.trans (hb2.mono (by omega))
  have t3 := t2.trans (hb3.mono (by omega))
  have t4 := t3.trans (hb4.mono (by omega))
  have t5 := t4.trans (hb5.mono (by omega))
  have t6 := t5.trans (hb6.mono (by omega))
  have t7 := t6.trans (hb7.mono (by omega))
  have t8 := t7.trans (hb8.mono (by omega))
  have t9 := t8.trans (hb9.mono (by omega))
  have t10 := t9.trans (hb10.mono (by omega))
  have t11 := t10.trans (hb11.mono (by omega))
  exact ⟨rfl, t11.trans (hb12.mono (by omega))⟩

set_option maxHeartbeats 6400000 in
theorem octetRing_third (A : Option Addr) (n c : Nat) (l : List UInt8) (A' : Option Addr) (n' c' : Nat) (l' : List UInt8) (A'' : Option Addr) (n'' c'' : Nat) (l'' : List UInt8) (w : World)
    (h : Rd w A n c l) (hr : c ≤ 140737488351232) (h' : Rd w A' n' c' l') (hr' : c' ≤ 140737488351232) (h'' : Rd w A'' n'' c'' l'') (hr'' : c'' ≤ 140737488351232)
    (h1 : (n'' : Int) < n) (h2 : (n'' : Int) < n') :
    Calls Try.prog 10 #[.slice A n c, .slice A' n' c', .slice A'' n'' c''] w fun e w' => e = .returned (.bool true) ∧ Below w.heap.size w w' := by
  have hcm := h.cap
  have hcm' := h'.cap
  have hcm'' := h''.cap
  obtain ⟨a, Ha⟩ : ∃ a, Hid (a = l.take n'') := ⟨_, rfl⟩
  obtain ⟨b, Hb⟩ : ∃ b, Hid (b = l'.take n'') := ⟨_, rfl⟩
  obtain ⟨d, Hd⟩ : ∃ d, Hid (d = l''.take n'') := ⟨_, rfl⟩
  have ra := h.take_ n'' (by omega)
  have rb := h'.take_ n'' (by omega)
  have rd := h''.take_ n'' (by omega)
  rw [← Ha.out] at ra
  rw [← Hb.out] at rb
  rw [← Hd.out] at rd
  have la := ra.len
  have lb := rb.len
  have E1 : Hid (xors b a = xors a b) := xors_comm b a
  have E2 : Hid (xors a (xors b d) = xors (xors a b) d) := (xors_assoc a b d).symm
  have E3 : Hid (zeros (xors a a) = true) := xors_self_zeros a
  have E4 : Hid (xors (xors a b) b = a) := xors_back a b (by rw [← la, ← lb])
  have E5 : Hid (zeros (xors a b) = (a == b)) := zeros_xors_beq a b (by rw [← la, ← lb])
  have Ra := Lib.hid ra
  have Rb := Lib.hid rb
  have Rd0 := Lib.hid rd
  have hnn : n'' ≤ 140737488351232 := by omega
  clear h h' h'' ra rb rd la lb Ha Hb Hd
  go_enter Try.func10, Try.ntmps10
  go_wp2_with fail
  go_quiet (fail)
  have hbq : Below w.heap.size w (w.drewN nq) := below_drewN (Below.refl _ _) nq
  have Ra0 := Lib.hid (Ra.out.below hbq)
  have Rb0 := Lib.hid (Rb.out.below hbq)
  have Rd1 := Lib.hid (Rd0.out.below hbq)
  clear Ra Rb Rd0
  obtain ⟨w0, hw0⟩ : ∃ w0, w0 = w.drewN nq := ⟨_, rfl⟩
  rw [← hw0] at Ra0 Rb0 Rd1 hbq
  rw [← hw0]
  clear hw0
  go_wp2_with fail
  refine (xor_row A n'' c a A' c' b w0 Ra0.out Rb0.out (by omega)).mono ?_
  rintro e w1 ⟨X, xc, rfl, rX, hb1⟩
  have RX1 := Lib.hid rX
  have Ra1 := Lib.hid (Ra0.out.below hb1)
  have Rb1 := Lib.hid (Rb0.out.below hb1)
  have Rd2 := Lib.hid (Rd1.out.below hb1)
  clear rX Ra0 Rb0 Rd1
  go_wp2_with fail
  refine (xor_row A' n'' c' b A c a w1 Rb1.out Ra1.out (by omega)).mono ?_
  rintro e w2 ⟨Y, yc, rfl, rY, hb2⟩
  rw [E1.out] at rY
  have RY2 := Lib.hid rY
  have RX2 := Lib.hid (RX1.out.below hb2)
  have Ra2 := Lib.hid (Ra1.out.below hb2)
  have Rb2 := Lib.hid (Rb1.out.below hb2)
  have Rd3 := Lib.hid (Rd2.out.below hb2)
  clear rY RX1 Ra1 Rb1 Rd2
  go_wp2_with fail
  refine (xor_row X n'' xc (xors a b) A'' c'' d w2 RX2.out Rd3.out (by omega)).mono ?_
  rintro e w3 ⟨Z, zc, rfl, rZ, hb3⟩
  have RZ3 := Lib.hid rZ
  have RX3 := Lib.hid (RX2.out.below hb3)
  have RY3 := Lib.hid (RY2.out.below hb3)
  have Ra3 := Lib.hid (Ra2.out.below hb3)
  have Rb3 := Lib.hid (Rb2.out.below hb3)
  have Rd4 := Lib.hid (Rd3.out.below hb3)
  clear rZ RX2 RY2 Ra2 Rb2 Rd3
  go_wp2_with fail
  refine (xor_row A' n'' c' b A'' c'' d w3 Rb3.out Rd4.out (by omega)).mono ?_
  rintro e w4 ⟨U, uc, rfl, rU, hb4⟩
  have RU4 := Lib.hid rU
  have RX4 := Lib.hid (RX3.out.below hb4)
  have RY4 := Lib.hid (RY3.out.below hb4)
  have RZ4 := Lib.hid (RZ3.out.below hb4)
  have Ra4 := Lib.hid (Ra3.out.below hb4)
  have Rb4 := Lib.hid (Rb3.out.below hb4)
  clear rU RX3 RY3 RZ3 Ra3 Rb3 Rd4
  go_wp2_with fail
  refine (xor_row A n'' c a U uc (xors b d) w4 Ra4.out RU4.out (by omega)).mono ?_
  rintro e w5 ⟨V, vc, rfl, rV, hb5⟩
  rw [E2.out] at rV
  have RV5 := Lib.hid rV
  have RX5 := Lib.hid (RX4.out.below hb5)
  have RY5 := Lib.hid (RY4.out.below hb5)
  have RZ5 := Lib.hid (RZ4.out.below hb5)
  have Ra5 := Lib.hid (Ra4.out.below hb5)
  have Rb5 := Lib.hid (Rb4.out.below hb5)
  clear rV RX4 RY4 RZ4 Ra4 Rb4 RU4
  go_wp2_with fail
  refine (xor_row A n'' c a A c a w5 Ra5.out Ra5.out (by omega)).mono ?_
  rintro e w6 ⟨O, oc, rfl, rO, hb6⟩
  have RO6 := Lib.hid rO
  have RX6 := Lib.hid (RX5.out.below hb6)
  have RY6 := Lib.hid (RY5.out.below hb6)
  have RZ6 := Lib.hid (RZ5.out.below hb6)
  have RV6 := Lib.hid (RV5.out.below hb6)
  have Ra6 := Lib.hid (Ra5.out.below hb6)
  have Rb6 := Lib.hid (Rb5.out.below hb6)
  clear rO RX5 RY5 RZ5 RV5 Ra5 Rb5
  go_wp2_with fail
  refine (xor_row X n'' xc (xors a b) A' c' b w6 RX6.out Rb6.out (by omega)).mono ?_
  rintro e w7 ⟨K, kc, rfl, rK, hb7⟩
  rw [E4.out] at rK
  have RK7 := Lib.hid rK
  have RX7 := Lib.hid (RX6.out.below hb7)
  have RY7 := Lib.hid (RY6.out.below hb7)
  have RZ7 := Lib.hid (RZ6.out.below hb7)
  have RV7 := Lib.hid (RV6.out.below hb7)
  have RO7 := Lib.hid (RO6.out.below hb7)
  have Ra7 := Lib.hid (Ra6.out.below hb7)
  have Rb7 := Lib.hid (Rb6.out.below hb7)
  clear rK RX6 RY6 RZ6 RV6 RO6 Ra6 Rb6
  go_wp2_with fail
  refine (octsame_yes X n'' xc Y yc (xors a b) w7 RX7.out RY7.out).mono ?_
  rintro e w8 ⟨rfl, hb8⟩
  have RX8 := Lib.hid (RX7.out.below hb8)
  have RZ8 := Lib.hid (RZ7.out.below hb8)
  have RV8 := Lib.hid (RV7.out.below hb8)
  have RO8 := Lib.hid (RO7.out.below hb8)
  have RK8 := Lib.hid (RK7.out.below hb8)
  have Ra8 := Lib.hid (Ra7.out.below hb8)
  have Rb8 := Lib.hid (Rb7.out.below hb8)
  clear RX7 RY7 RZ7 RV7 RO7 RK7 Ra7 Rb7
  go_wp2_with fail
  refine (octsame_yes Z n'' zc V vc (xors (xors a b) d) w8 RZ8.out RV8.out).mono ?_
  rintro e w9 ⟨rfl, hb9⟩
  have RX9 := Lib.hid (RX8.out.below hb9)
  have RO9 := Lib.hid (RO8.out.below hb9)
  have RK9 := Lib.hid (RK8.out.below hb9)
  have Ra9 := Lib.hid (Ra8.out.below hb9)
  have Rb9 := Lib.hid (Rb8.out.below hb9)
  clear RX8 RZ8 RV8 RO8 RK8 Ra8 Rb8
  go_wp2_with fail
  refine (nought_any O n'' oc (xors a a) w9 RO9.out).mono ?_
  rintro e w10 ⟨rfl, rfl⟩
  rw [E3.out]
  go_wp2_with fail
  refine (octsame_yes K n'' kc A c a w9 RK9.out Ra9.out).mono ?_
  rintro e w10 ⟨rfl, hb10⟩
  have RX10 := Lib.hid (RX9.out.below hb10)
  have Ra10 := Lib.hid (Ra9.out.below hb10)
  have Rb10 := Lib.hid (Rb9.out.below hb10)
  clear RX9 RO9 RK9 Ra9 Rb9
  go_wp2_with fail
  refine (nought_any X n'' xc (xors a b) w10 RX10.out).mono ?_
  rintro e w11 ⟨rfl, rfl⟩
  rw [E5.out]
  obtain ⟨q, HQ⟩ : ∃ q, Hid (q = (a == b)) := ⟨_, rfl⟩
  rw [← HQ.out]
  have hqq : (q == q) = true := by simp
  go_wp2_with fail
  refine (octsame_any A n'' c a A' c' b w10 Ra10.out Rb10.out).mono ?_
  rintro e w11 ⟨rfl, hb11⟩
  rw [← HQ.out]
  go_wp2_with fail
  refine (known_any w11).mono ?_
  rintro e w12 ⟨rfl, hb12⟩
  go_wp2
  go_ret
  have s0 := hbq.size
  have s1 := hb1.size
  have s2 := hb2.size
  have s3 := hb3.size
  have s4 := hb4.size
  have s5 := hb5.size
  have s6 := hb6.size
  have s7 := hb7.size
  have s8 := hb8.size
  have s9 := hb9.size
  have s10 := hb10.size
  have s11 := hb11.size
  have t1 := hbq.trans (hb1.mono s0)
  have t2 := t1.trans (hb2.mono (by omega))
  have t3 := t2.trans (hb3.mono (by omega))
  have t4 := t3.trans (hb4.mono (by omega))
  have t5 := t4.trans (hb5.mono (by omega))
  have t6 := t5.trans (hb6.mono (by omega))
  have t7 := t6.trans (hb7.mono (by omega))
  have t8 := t7.trans (hb8.mono (by omega))
  have t9 := t8.trans (hb9.mono (by omega))
  have t10 := t9.trans (hb10.mono (by omega))
  have t11 := t10.trans (hb11.mono (by omega))
  exact ⟨rfl, t11.trans (hb12.mono (by omega))⟩

theorem octetRing_walk (A : Option Addr) (n c : Nat) (l : List UInt8) (A' : Option Addr) (n' c' : Nat) (l' : List UInt8) (A'' : Option Addr) (n'' c'' : Nat) (l'' : List UInt8) (w : World)
    (h : Rd w A n c l) (hr : c ≤ 140737488351232) (h' : Rd w A' n' c' l') (hr' : c' ≤ 140737488351232) (h'' : Rd w A'' n'' c'' l'') (hr'' : c'' ≤ 140737488351232) :
    Calls Try.prog 10 #[.slice A n c, .slice A' n' c', .slice A'' n'' c''] w fun e w' => e = .returned (.bool true) ∧ Below w.heap.size w w' := by
  by_cases h1 : (n' : Int) < n
  · by_cases h2 : (n'' : Int) < n'
    · exact octetRing_third A n c l A' n' c' l' A'' n'' c'' l'' w h hr h' hr' h'' hr'' (by omega) h2
    · exact octetRing_second A n c l A' n' c' l' A'' n'' c'' l'' w h hr h' hr' h'' hr'' h1 h2
  · by_cases h2 : (n'' : Int) < n
    · exact octetRing_third A n c l A' n' c' l' A'' n'' c'' l'' w h hr h' hr' h'' hr'' h2 (by omega)
    · exact octetRing_first A n c l A' n' c' l' A'' n'' c'' l'' w h hr h' hr' h'' hr'' h1 h2
end Go.Proofs.Ytlmlalogadlefaa
