/- Plain: what is mixed is unmixed; both spread over sums. -/
import Derived.Test.YtfmgpnaahkpmiaaGalG
set_option linter.unusedVariables false
namespace Go.Proofs.Ytfmgpnaahkpmiaa
open Gal

theorem dot_xor (r c d : Nat → Nat) : ∀ n, dot r (fun k => c k ^^^ d k) n = dot r c n ^^^ dot r d n
  | 0 => by simp [dot]
  | n + 1 => by
    show dot r (fun k => c k ^^^ d k) n ^^^ gm (r n) (c n ^^^ d n) = (dot r c n ^^^ gm (r n) (c n)) ^^^ (dot r d n ^^^ gm (r n) (d n))
    rw [dot_xor r c d n, gm_right]
    exact x4 _ _ _ _
theorem mix_xor (c d : Nat → Nat) (i : Nat) : mix (fun k => c k ^^^ d k) i = mix c i ^^^ mix d i := dot_xor _ c d 4
theorem unmix_xor (c d : Nat → Nat) (i : Nat) : unmix (fun k => c k ^^^ d k) i = unmix c i ^^^ unmix d i := dot_xor _ c d 4
theorem lin4 (u m0 m1 m2 m3 : Nat → Nat) (c : Nat → Nat) (hu : ∀ k, u k < 256) (h0 : ∀ k, m0 k < 256) (h1 : ∀ k, m1 k < 256) (h2 : ∀ k, m2 k < 256) (h3 : ∀ k, m3 k < 256) (hc : ∀ k, c k < 256) (k : Nat) :
    gm (u 0) (gm (m0 k) (c k)) ^^^ gm (u 1) (gm (m1 k) (c k)) ^^^ gm (u 2) (gm (m2 k) (c k)) ^^^ gm (u 3) (gm (m3 k) (c k)) = gm (gm (u 0) (m0 k) ^^^ gm (u 1) (m1 k) ^^^ gm (u 2) (m2 k) ^^^ gm (u 3) (m3 k)) (c k) := by
  rw [gm_left, gm_left, gm_left, gm_assoc _ _ _ (hu 0) (h0 k) (hc k), gm_assoc _ _ _ (hu 1) (h1 k) (hc k), gm_assoc _ _ _ (hu 2) (h2 k) (hc k), gm_assoc _ _ _ (hu 3) (h3 k) (hc k)]
theorem dot4 (r c : Nat → Nat) : dot r c 4 = gm (r 0) (c 0) ^^^ gm (r 1) (c 1) ^^^ gm (r 2) (c 2) ^^^ gm (r 3) (c 3) := by
  show 0 ^^^ gm (r 0) (c 0) ^^^ gm (r 1) (c 1) ^^^ gm (r 2) (c 2) ^^^ gm (r 3) (c 3) = _
  rw [Nat.zero_xor]
theorem x16 (a b c d e f g h i j k l m n o p : Nat) : (a ^^^ b ^^^ c ^^^ d) ^^^ (e ^^^ f ^^^ g ^^^ h) ^^^ (i ^^^ j ^^^ k ^^^ l) ^^^ (m ^^^ n ^^^ o ^^^ p) = (a ^^^ e ^^^ i ^^^ m) ^^^ (b ^^^ f ^^^ j ^^^ n) ^^^ (c ^^^ g ^^^ k ^^^ o) ^^^ (d ^^^ h ^^^ l ^^^ p) := by
  ac_rfl
/-- Rows times rows. -/
theorem dot_dot (u : Nat → Nat) (m : Nat → Nat → Nat) (c : Nat → Nat) (hu : ∀ k, u k < 256) (hm : ∀ j k, m j k < 256) (hc : ∀ k, c k < 256) :
    dot u (fun j => dot (m j) c 4) 4 = dot (fun k => dot u (fun j => m j k) 4) c 4 := by
  simp only [dot4]
  simp only [gm_right]
  rw [x16, lin4 u (m 0) (m 1) (m 2) (m 3) c hu (hm 0) (hm 1) (hm 2) (hm 3) hc 0, lin4 u (m 0) (m 1) (m 2) (m 3) c hu (hm 0) (hm 1) (hm 2) (hm 3) hc 1, lin4 u (m 0) (m 1) (m 2) (m 3) c hu (hm 0) (hm 1) (hm 2) (hm 3) hc 2, lin4 u (m 0) (m 1) (m 2) (m 3) c hu (hm 0) (hm 1) (hm 2) (hm 3) hc 3]
theorem um_one : ∀ i : Fin 4, ∀ k : Fin 4, dot (turned unmixF i.val) (fun j => turned mixF j k.val) 4 = if i = k then 1 else 0 := by decide +kernel
theorem mu_one : ∀ i : Fin 4, ∀ k : Fin 4, dot (turned mixF i.val) (fun j => turned unmixF j k.val) 4 = if i = k then 1 else 0 := by decide +kernel
theorem dot_unit (r c : Nat → Nat) (hc : ∀ k, c k < 256) (i : Fin 4) (h : ∀ k : Fin 4, r k.val = if i = k then 1 else 0) : dot r c 4 = c i.val := by
  have h0 := h 0
  have h1 := h 1
  have h2 := h 2
  have h3 := h 3
  rw [dot4]
  change r 0 = _ at h0
  change r 1 = _ at h1
  change r 2 = _ at h2
  change r 3 = _ at h3
  rw [h0, h1, h2, h3]
  match i with
  | 0 => simp [one_gm _ (hc 0), zero_gm _ (hc 1), zero_gm _ (hc 2), zero_gm _ (hc 3)]
  | 1 => simp [zero_gm _ (hc 0), one_gm _ (hc 1), zero_gm _ (hc 2), zero_gm _ (hc 3)]
  | 2 => simp [zero_gm _ (hc 0), zero_gm _ (hc 1), one_gm _ (hc 2), zero_gm _ (hc 3)]
  | 3 =>
    simp [zero_gm _ (hc 0), zero_gm _ (hc 1), zero_gm _ (hc 2), one_gm _ (hc 3)]
    rfl
theorem unmix_mix (c : Nat → Nat) (hc : ∀ k, c k < 256) (i : Nat) (hi : i < 4) : unmix (mix c) i = c i := by
  show dot (turned unmixF i) (fun j => dot (turned mixF j) c 4) 4 = c i
  rw [dot_dot (turned unmixF i) (turned mixF) c (fun _ => unmixF_lt _) (fun _ _ => mixF_lt _) hc]
  exact dot_unit _ c hc ⟨i, hi⟩ (fun k => um_one ⟨i, hi⟩ k)
theorem mix_unmix (c : Nat → Nat) (hc : ∀ k, c k < 256) (i : Nat) (hi : i < 4) : mix (unmix c) i = c i := by
  show dot (turned mixF i) (fun j => dot (turned unmixF j) c 4) 4 = c i
  rw [dot_dot (turned mixF i) (turned unmixF) c (fun _ => mixF_lt _) (fun _ _ => unmixF_lt _) hc]
  exact dot_unit _ c hc ⟨i, hi⟩ (fun k => mu_one ⟨i, hi⟩ k)
end Go.Proofs.Ytfmgpnaahkpmiaa
