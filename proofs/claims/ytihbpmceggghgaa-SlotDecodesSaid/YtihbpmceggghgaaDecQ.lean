/- Plain: bytes that an entry has are read as it, and whole nodes. No program in sight. -/
import Derived.Test.YtihbpmceggghgaaDecP
set_option linter.unusedVariables false
set_option linter.unusedSimpArgs false
namespace Go.Proofs.Ytihbpmceggghgaa

/-- The bytes at p begin so. -/
def ats (b : List UInt8) (p : Nat) (l : List UInt8) : Prop := (b.drop p).take l.length = l
theorem ats_app {b l m : List UInt8} {p : Nat} : ats b p (l ++ m) ↔ ats b p l ∧ ats b (p + l.length) m := by
  unfold ats
  rw [List.length_append, take_split]
  constructor
  · intro h
    have hl : ((b.drop p).take l.length).length = l.length := by
      have h2 := congrArg List.length h
      rw [List.length_append, List.length_append, List.length_take, List.length_drop, List.length_take, List.length_drop] at h2
      rw [List.length_take, List.length_drop]; omega
    exact List.append_inj h hl
  · rintro ⟨h1, h2⟩
    rw [h1, h2]
theorem en_mk {b : List UInt8} (hb : b.length = 224) {kind i : Nat} {ahead : List UInt8} {p q : Nat} {x : Ent} (h : EnOk b kind i ahead p x q) : en b kind i ahead p = .ok (x, q) := by
  obtain ⟨hm, ho, ht, hle, hby, hch, hcl⟩ := h
  obtain ⟨key, val, len, chain, child⟩ := x
  dsimp only at ho hch hcl
  subst ht
  have ha : ats b p (entB kind ⟨key, val, len, chain, child⟩) := hby
  unfold emay emayL at hm
  rw [Bool.and_eq_true] at hm
  dsimp only at hm
  obtain ⟨hk, hm⟩ := hm
  have hord : ¬ (0 < i ∧ less ahead key = false) := fun hh => by have := ho hh.1; rw [hh.2] at this; cases this
  have hlen : 1 + key.length ≤ (entB kind ⟨key, val, len, chain, child⟩).length := by unfold entB; rw [List.length_append, List.length_cons]; dsimp only; omega
  have hkey : tx b (kmay kind i) p = .ok (key, p + (1 + key.length)) := by
    have h1 : ats b p (UInt8.ofNat key.length :: key) := by unfold entB at ha; exact (ats_app.1 ha).1
    refine tx_mk hb hk (by omega) ?_
    unfold ats at h1
    rw [List.length_cons, Nat.add_comm] at h1
    exact h1
  unfold en
  rw [hkey]
  dsimp only
  rw [if_neg hord]
  by_cases hk2 : kind = 2
  · rw [if_pos hk2] at hm
    simp only [Bool.and_eq_true, bne_iff_ne, beq_iff_eq, List.length_eq_zero_iff] at hm
    obtain ⟨m1, m2, m3, m4⟩ := hm
    subst m2; subst m3; subst m4
    have he : entB kind ⟨key, [], 0, r0, child⟩ = (UInt8.ofNat key.length :: key) ++ rfB child := by unfold entB; rw [if_pos hk2]
    rw [he] at ha hle ⊢
    have h2 := (ats_app.1 ha).2
    unfold ats at h2
    rw [rfB_length, List.length_cons, Nat.add_comm key.length 1] at h2
    rw [List.length_append, rfB_length, List.length_cons] at hle ⊢
    rw [if_pos hk2, pn_mk (by omega) h2 m1 hcl]
    dsimp only
    congr 2
    omega
  · rw [if_neg hk2] at hm ⊢
    by_cases h0 : len = 0
    · rw [if_pos h0] at hm
      simp only [Bool.and_eq_true, beq_iff_eq, decide_eq_true_iff] at hm
      obtain ⟨m1, m2, m3⟩ := hm
      subst m1; subst m2; subst h0
      have he : entB kind ⟨key, val, 0, r0, r0⟩ = (UInt8.ofNat key.length :: key) ++ ([0] ++ (UInt8.ofNat val.length :: val)) := by
        unfold entB; rw [if_neg hk2]; dsimp only; rw [if_pos rfl]; rfl
      rw [he] at ha hle ⊢
      have h2 := (ats_app.1 ha).2
      have h3 := (ats_app.1 h2).1
      have h4 := (ats_app.1 h2).2
      unfold ats at h3 h4
      simp only [List.length_cons, List.length_append, List.length_nil] at h3 h4 hle ⊢
      rw [Nat.add_comm key.length 1] at h3 h4
      rw [Nat.add_comm val.length 1] at h4
      have hf : tk b 1 (fun v => decide (v < 2)) (p + (1 + key.length)) = .ok (0, p + (1 + key.length) + 1) := tk_mk (by omega) (by rw [h3]; rfl) (by rfl)
      rw [hf]
      dsimp only
      rw [if_neg (by decide), tx_mk hb (by rw [decide_eq_true_iff]; exact m3) (by omega) h4]
      dsimp only
      congr 2
      omega
    · rw [if_neg h0] at hm
      simp only [Bool.and_eq_true, bne_iff_ne, beq_iff_eq, decide_eq_true_iff, List.length_eq_zero_iff] at hm
      obtain ⟨m1, m2, m3, m4, m5⟩ := hm
      subst m1; subst m5
      have he : entB kind ⟨key, [], len, chain, r0⟩ = (UInt8.ofNat key.length :: key) ++ ([1] ++ (be len.toNat 2 ++ rfB chain)) := by
        unfold entB; rw [if_neg hk2]; dsimp only; rw [if_neg h0, be_two]; rfl
      rw [he] at ha hle ⊢
      have h2 := (ats_app.1 ha).2
      have h3 := (ats_app.1 h2).1
      have h4 := (ats_app.1 (ats_app.1 h2).2).1
      have h5 := (ats_app.1 (ats_app.1 h2).2).2
      unfold ats at h3 h4 h5
      simp only [List.length_cons, List.length_append, List.length_nil, be_length, rfB_length] at h3 h4 h5 hle ⊢
      rw [Nat.add_comm key.length 1] at h3 h4 h5
      have hf : tk b 1 (fun v => decide (v < 2)) (p + (1 + key.length)) = .ok (1, p + (1 + key.length) + 1) := tk_mk (by omega) (by rw [h3]; rfl) (by rfl)
      have hl : tk b 2 (fun v => decide (64 < v) && decide (v ≤ 1024)) (p + (1 + key.length) + 1) = .ok (len.toNat, p + (1 + key.length) + 1 + 2) :=
        tk_mk (by omega) (by rw [h4]; exact num_be_lt _ 2 (by omega)) (by rw [Bool.and_eq_true, decide_eq_true_iff, decide_eq_true_iff]; omega)
      rw [hf]
      dsimp only
      rw [if_pos rfl, hl]
      dsimp only
      rw [pn_mk (by omega) h5 m4 hch]
      dsimp only
      rw [Int.toNat_of_nonneg (by omega)]
      congr 2
      omega
end Go.Proofs.Ytihbpmceggghgaa
