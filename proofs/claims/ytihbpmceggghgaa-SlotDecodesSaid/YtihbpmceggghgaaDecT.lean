/- Plain: reading on, past a fault. No program in sight. -/
import Derived.Test.YtihbpmceggghgaaDecS
set_option linter.unusedVariables false
set_option linter.unusedSimpArgs false
namespace Go.Proofs.Ytihbpmceggghgaa

/-- A place, or a fault's place. -/
abbrev RdSt := Except Nat Nat
def tkR (b : List UInt8) (size : Nat) (may : Nat → Bool) : RdSt → Nat × RdSt
  | .error f => (0, .error f)
  | .ok p => match tk b size may p with
    | .ok (v, q) => (v, .ok q)
    | .error f => (0, .error f)
def txR (b : List UInt8) (may : Nat → Bool) : RdSt → List UInt8 × RdSt
  | .error f => ([], .error f)
  | .ok p => match tx b may p with
    | .ok (t, q) => (t, .ok q)
    | .error f => ([], .error f)
def pnR (b : List UInt8) : RdSt → Rf × RdSt
  | .error f => (r0, .error f)
  | .ok p => match pn b p with
    | .ok (r, q) => (r, .ok q)
    | .error f => (r0, .error f)
def ordR (i : Nat) (ahead key : List UInt8) : RdSt → RdSt
  | .error f => .error f
  | .ok p => if 0 < i ∧ less ahead key = false then .error (p - key.length) else .ok p
/-- An entry's rest, behind its key. -/
def restR (b : List UInt8) (kind : Nat) (key : List UInt8) (s : RdSt) : Ent × RdSt :=
  if kind = 2 then (⟨key, [], 0, r0, (pnR b s).1⟩, (pnR b s).2)
  else if (tkR b 1 (fun v => decide (v < 2)) s).1 = 1 then
    (⟨key, [], ((tkR b 2 (fun v => decide (64 < v) && decide (v ≤ 1024)) (tkR b 1 (fun v => decide (v < 2)) s).2).1 : Int), (pnR b (tkR b 2 (fun v => decide (64 < v) && decide (v ≤ 1024)) (tkR b 1 (fun v => decide (v < 2)) s).2).2).1, r0⟩,
      (pnR b (tkR b 2 (fun v => decide (64 < v) && decide (v ≤ 1024)) (tkR b 1 (fun v => decide (v < 2)) s).2).2).2)
  else (⟨key, (txR b (fun v => decide (v ≤ 64)) (tkR b 1 (fun v => decide (v < 2)) s).2).1, 0, r0, r0⟩, (txR b (fun v => decide (v ≤ 64)) (tkR b 1 (fun v => decide (v < 2)) s).2).2)
/-- An entry, to its end. -/
def enR (b : List UInt8) (kind i : Nat) (ahead : List UInt8) (s : RdSt) : Ent × RdSt :=
  restR b kind (txR b (kmay kind i) s).1 (ordR i ahead (txR b (kmay kind i) s).1 (txR b (kmay kind i) s).2)
theorem tkR_ok {b : List UInt8} {size : Nat} {may : Nat → Bool} {p v q : Nat} (h : tk b size may p = .ok (v, q)) : tkR b size may (.ok p) = (v, .ok q) := by simp only [tkR, h]
theorem tkR_bad {b : List UInt8} {size : Nat} {may : Nat → Bool} {p f : Nat} (h : tk b size may p = .error f) : tkR b size may (.ok p) = (0, .error f) := by simp only [tkR, h]
theorem txR_ok {b : List UInt8} {may : Nat → Bool} {p q : Nat} {t : List UInt8} (h : tx b may p = .ok (t, q)) : txR b may (.ok p) = (t, .ok q) := by simp only [txR, h]
theorem txR_bad {b : List UInt8} {may : Nat → Bool} {p f : Nat} (h : tx b may p = .error f) : txR b may (.ok p) = ([], .error f) := by simp only [txR, h]
theorem pnR_ok {b : List UInt8} {p q : Nat} {r : Rf} (h : pn b p = .ok (r, q)) : pnR b (.ok p) = (r, .ok q) := by simp only [pnR, h]
theorem pnR_bad {b : List UInt8} {p f : Nat} (h : pn b p = .error f) : pnR b (.ok p) = (r0, .error f) := by simp only [pnR, h]
theorem restR_bad (b : List UInt8) (kind : Nat) (key : List UInt8) (f : Nat) : restR b kind key (.error f) = (⟨key, [], 0, r0, r0⟩, .error f) := by
  unfold restR
  by_cases h2 : kind = 2
  · rw [if_pos h2]; rfl
  · rw [if_neg h2]; rfl
theorem enR_eq (b : List UInt8) (kind i : Nat) (ahead : List UInt8) (p : Nat) :
    en b kind i ahead p = match (enR b kind i ahead (.ok p)).2 with | .ok q => .ok ((enR b kind i ahead (.ok p)).1, q) | .error f => .error f := by
  unfold en enR
  cases hk : tx b (kmay kind i) p with
  | error f =>
    rw [txR_bad hk]
    dsimp only [ordR]
    rw [restR_bad]
  | ok a =>
    obtain ⟨key, p1⟩ := a
    rw [txR_ok hk]
    dsimp only [ordR]
    by_cases ho : 0 < i ∧ less ahead key = false
    · rw [if_pos ho, if_pos ho, restR_bad]
    · rw [if_neg ho, if_neg ho]
      unfold restR
      by_cases h2 : kind = 2
      · rw [if_pos h2, if_pos h2]
        cases hp : pn b p1 with
        | error f => rw [pnR_bad hp]
        | ok a => obtain ⟨r, q⟩ := a; rw [pnR_ok hp]
      · rw [if_neg h2, if_neg h2]
        cases hf : tk b 1 (fun v => decide (v < 2)) p1 with
        | error f => rw [tkR_bad hf]; rfl
        | ok a =>
          obtain ⟨form, p2⟩ := a
          rw [tkR_ok hf]
          dsimp only
          by_cases h1 : form = 1
          · rw [if_pos h1, if_pos h1]
            cases hl : tk b 2 (fun v => decide (64 < v) && decide (v ≤ 1024)) p2 with
            | error f => rw [tkR_bad hl]; rfl
            | ok a =>
              obtain ⟨len, p3⟩ := a
              rw [tkR_ok hl]
              dsimp only
              cases hp : pn b p3 with
              | error f => rw [pnR_bad hp]
              | ok a => obtain ⟨r, q⟩ := a; rw [pnR_ok hp]
          · rw [if_neg h1, if_neg h1]
            cases hp : tx b (fun v => decide (v ≤ 64)) p2 with
            | error f => rw [txR_bad hp]
            | ok a => obtain ⟨r, q⟩ := a; rw [txR_ok hp]
/-- The first so many entries, with what was read last. -/
def ensR (b : List UInt8) (kind : Nat) (s0 : RdSt) : Nat → List Ent × RdSt
  | 0 => ([], s0)
  | i + 1 => match (ensR b kind s0 i).2 with
    | .error f => ((ensR b kind s0 i).1, .error f)
    | .ok p => ((ensR b kind s0 i).1 ++ [(enR b kind i ((ensR b kind s0 i).1.getD (i - 1) ent0).key (.ok p)).1], (enR b kind i ((ensR b kind s0 i).1.getD (i - 1) ent0).key (.ok p)).2)
theorem ensR_ok {b : List UInt8} {kind : Nat} {s0 : RdSt} {i p : Nat} (h : (ensR b kind s0 i).2 = .ok p) :
    ensR b kind s0 (i + 1) = ((ensR b kind s0 i).1 ++ [(enR b kind i ((ensR b kind s0 i).1.getD (i - 1) ent0).key (.ok p)).1], (enR b kind i ((ensR b kind s0 i).1.getD (i - 1) ent0).key (.ok p)).2) := by
  rw [ensR, h]
theorem ensR_bad {b : List UInt8} {kind : Nat} {s0 : RdSt} {i f : Nat} (h : (ensR b kind s0 i).2 = .error f) : ∀ m, (ensR b kind s0 (i + m)).2 = .error f
  | 0 => h
  | m + 1 => by rw [← Nat.add_assoc, ensR, ensR_bad h m]
theorem ensR_len {b : List UInt8} {kind : Nat} {s0 : RdSt} : ∀ {i p : Nat}, (ensR b kind s0 i).2 = .ok p → (ensR b kind s0 i).1.length = i
  | 0, _, _ => rfl
  | i + 1, p, h => by
    cases hs : (ensR b kind s0 i).2 with
    | error f => rw [ensR_bad hs 1] at h; cases h
    | ok q => rw [ensR_ok hs, List.length_append, ensR_len hs]; rfl
theorem ensR_go {b : List UInt8} {kind : Nat} {s0 : RdSt} : ∀ (m i p : Nat), (ensR b kind s0 i).2 = .ok p →
    ens b kind m (ensR b kind s0 i).1 p = match (ensR b kind s0 (i + m)).2 with | .ok q => .ok ((ensR b kind s0 (i + m)).1, q) | .error f => .error f
  | 0, i, p, h => by rw [Nat.add_zero, h]; rfl
  | m + 1, i, p, h => by
    have hl := ensR_len h
    rw [ens, hl, enR_eq]
    have e := ensR_ok h
    cases hs : (enR b kind i ((ensR b kind s0 i).1.getD (i - 1) ent0).key (.ok p)).2 with
    | error f =>
      have h1 : (ensR b kind s0 (i + 1)).2 = .error f := by rw [e]; exact hs
      have h2 := ensR_bad h1 m
      rw [Nat.add_assoc, Nat.add_comm 1 m] at h2
      rw [h2]
    | ok q =>
      have h1 : (ensR b kind s0 (i + 1)).2 = .ok q := by rw [e]; exact hs
      have h2 := ensR_go m (i + 1) q h1
      rw [Nat.add_assoc, Nat.add_comm 1 m] at h2
      rw [← h2, e]
theorem ens_ensR (b : List UInt8) (kind m p : Nat) : ens b kind m [] p = match (ensR b kind (.ok p) m).2 with | .ok q => .ok ((ensR b kind (.ok p) m).1, q) | .error f => .error f := by
  have h := ensR_go (b := b) (kind := kind) (s0 := .ok p) m 0 p rfl
  rw [Nat.zero_add] at h
  exact h
/-- Noughts from here on to the end. -/
def tlR (b : List UInt8) : RdSt → RdSt
  | .error f => .error f
  | .ok p => match tail0 b (224 - p) p with
    | .ok _ => .ok 224
    | .error f => .error f
theorem tlR_end (b : List UInt8) : tlR b (.ok 224) = .ok 224 := rfl
theorem tlR_step {b : List UInt8} (hb : b.length = 224) {p : Nat} (h : p < 224) : tlR b (tkR b 1 (fun v => v == 0) (.ok p)).2 = tlR b (.ok p) := by
  have e1 : num ((b.drop p).take 1) = (b.getD p 0).toNat := by rw [drop_take1 (by omega), num_one]
  have e2 : 224 - p = (224 - (p + 1)) + 1 := by omega
  by_cases h0 : b.getD p 0 = 0
  · have hk : tk b 1 (fun v => v == 0) p = .ok (0, p + 1) := by
      unfold tk
      rw [if_neg (by omega), e1, h0, if_pos (by rfl)]; rfl
    rw [tkR_ok hk]
    dsimp only [tlR]
    rw [e2, tail0, if_pos h0]
  · have hn : ((b.getD p 0).toNat == 0) = false := by
      rw [beq_eq_false_iff_ne]
      intro e
      exact h0 (UInt8.toNat_inj.1 e)
    have hk : tk b 1 (fun v => v == 0) p = .error p := by
      unfold tk
      rw [if_neg (by omega), e1, if_neg (by show ¬ (((b.getD p 0).toNat == 0) = true); rw [hn]; decide)]
    rw [tkR_bad hk]
    dsimp only [tlR]
    rw [e2, tail0, if_neg h0]
def kd (b : List UInt8) : Nat × RdSt := tkR b 1 (fun v => v == 1 || v == 2) (.ok 0)
def lv (b : List UInt8) : Nat × RdSt := tkR b 1 (shp (kd b).1) (kd b).2
def ct (b : List UInt8) : Nat × RdSt := tkR b 1 (fun v => decide (0 < v) || (kd b).1 == 1) (lv b).2
/-- All of it. -/
def enEnd (b : List UInt8) : List Ent × RdSt := ensR b (kd b).1 (ct b).2 (ct b).1
def decEnd (b : List UInt8) : RdSt := tlR b (enEnd b).2
theorem tk1 {b : List UInt8} (hb : b.length = 224) {may : Nat → Bool} {p : Nat} (hp : p < 224) : tk b 1 may p = if may (b.getD p 0).toNat then .ok ((b.getD p 0).toNat, p + 1) else .error p := by
  have e1 : num ((b.drop p).take 1) = (b.getD p 0).toNat := by rw [drop_take1 (by omega), num_one]
  unfold tk
  rw [if_neg (by omega), e1]
theorem dec_decEnd {b : List UInt8} (hb : b.length = 224) : dec b = match decEnd b with | .ok _ => .ok ((kd b).1, (lv b).1, (enEnd b).1) | .error f => .error f := by
  unfold dec decEnd enEnd
  dsimp only
  by_cases hk : (b.getD 0 0).toNat = 1 ∨ (b.getD 0 0).toNat = 2
  · have ek : kd b = ((b.getD 0 0).toNat, .ok 1) := by
      exact tkR_ok (by rw [tk1 hb (by omega), if_pos (by simpa using hk)])
    rw [if_neg (not_not_intro hk)]
    cases hs : shp (b.getD 0 0).toNat (b.getD 1 0).toNat with
    | false =>
      have el : (lv b).2 = .error 1 := by
        unfold lv
        rw [ek, tkR_bad (by rw [tk1 hb (by omega), hs]; rfl)]
      have ec : ct b = (0, .error 1) := by unfold ct; rw [el]; rfl
      rw [ec]; rfl
    | true =>
      have el : lv b = ((b.getD 1 0).toNat, .ok 2) := by
        unfold lv
        rw [ek]
        exact tkR_ok (by rw [tk1 hb (by omega), hs]; rfl)
      have nb : ¬ (true = false) := by decide
      rw [if_neg nb]
      by_cases hc : 0 < (b.getD 2 0).toNat ∨ (b.getD 0 0).toNat = 1
      · have ec : ct b = ((b.getD 2 0).toNat, .ok 3) := by
          unfold ct
          rw [el, ek]
          exact tkR_ok (by rw [tk1 hb (by omega), if_pos (by simpa using hc)])
        rw [if_neg (not_not_intro hc), ec, ek, el, ens_ensR]
        dsimp only
        cases he : (ensR b (b.getD 0 0).toNat (.ok 3) (b.getD 2 0).toNat).2 with
        | error f => rfl
        | ok q =>
          dsimp only [tlR]
          cases ht : tail0 b (224 - q) q <;> rfl
      · have ec : ct b = (0, .error 2) := by
          unfold ct
          rw [el, ek]
          exact tkR_bad (by rw [tk1 hb (by omega), if_neg (by simpa using hc)])
        rw [if_pos hc, ec]; rfl
  · have ek : kd b = (0, .error 0) := by
      exact tkR_bad (by rw [tk1 hb (by omega), if_neg (by simpa using hk)])
    have el : (lv b).2 = .error 0 := by unfold lv; rw [ek]; rfl
    have ec : ct b = (0, .error 0) := by unfold ct; rw [el]; rfl
    rw [if_pos hk, ec]; rfl
theorem tkR_le {b : List UInt8} {size : Nat} {may : Nat → Bool} {s : RdSt} (h : size ≤ 8) : (tkR b size may s).1 < 256 ^ size := by
  cases s with
  | error f => exact Nat.pow_pos (by omega)
  | ok p =>
    cases hk : tk b size may p with
    | error f => rw [tkR_bad hk]; exact Nat.pow_pos (by omega)
    | ok a =>
      obtain ⟨v, q⟩ := a
      rw [tkR_ok hk]
      obtain ⟨_, _, h3, _⟩ := tk_ok hk
      dsimp only
      rw [h3]
      have := num_lt ((b.drop p).take size)
      exact Nat.lt_of_lt_of_le this (Nat.pow_le_pow_right (by omega) (by simp; omega))
/-- Does an entry's key stand out of order? -/
def ordB (i : Nat) (ahead key : List UInt8) : RdSt → Bool
  | .error _ => false
  | .ok _ => decide (0 < i) && !less ahead key
theorem ordR_no {i : Nat} {ahead key : List UInt8} {s : RdSt} (h : ordB i ahead key s = false) : ordR i ahead key s = s := by
  cases s with
  | error f => rfl
  | ok p =>
    refine if_neg fun hc => ?_
    unfold ordB at h
    rw [decide_eq_true hc.1, hc.2] at h
    cases h
theorem ordR_yes {i : Nat} {ahead key : List UInt8} {s : RdSt} (h : ordB i ahead key s = true) : ∃ p, s = .ok p ∧ ordR i ahead key s = .error (p - key.length) := by
  cases s with
  | error f => cases h
  | ok p =>
    unfold ordB at h
    rw [Bool.and_eq_true, decide_eq_true_iff, Bool.not_eq_true'] at h
    exact ⟨p, rfl, if_pos h⟩
theorem txR_le {b : List UInt8} (hb : b.length = 224) {may : Nat → Bool} {s : RdSt} {q : Nat} (h : (txR b may s).2 = .ok q) : (txR b may s).1.length ≤ q := by
  cases s with
  | error f => cases h
  | ok p =>
    cases hk : tx b may p with
    | error f => rw [txR_bad hk] at h; cases h
    | ok a =>
      obtain ⟨t, q'⟩ := a
      rw [txR_ok hk] at h ⊢
      injection h with h
      obtain ⟨_, h2, _, _⟩ := tx_ok hb hk
      show t.length ≤ q
      omega
/-- A place within the bytes. -/
def inSt : RdSt → Prop
  | .error f => f ≤ 224
  | .ok p => p ≤ 224
theorem tkR_in {b : List UInt8} {size : Nat} {may : Nat → Bool} {s : RdSt} (h : inSt s) : inSt (tkR b size may s).2 := by
  cases s with
  | error f => exact h
  | ok p =>
    have hp : p ≤ 224 := h
    cases hk : tk b size may p with
    | error f =>
      rw [tkR_bad hk]
      show f ≤ 224
      unfold tk at hk
      split at hk
      · injection hk with hk; omega
      · split at hk
        · cases hk
        · injection hk with hk; omega
    | ok a =>
      obtain ⟨v, q⟩ := a
      rw [tkR_ok hk]
      obtain ⟨h1, h2, _, _⟩ := tk_ok hk
      show q ≤ 224
      omega
theorem txR_in {b : List UInt8} (hb : b.length = 224) {may : Nat → Bool} {s : RdSt} (h : inSt s) : inSt (txR b may s).2 := by
  cases s with
  | error f => exact h
  | ok p =>
    cases hk : tx b may p with
    | error f =>
      rw [txR_bad hk]
      unfold tx at hk
      split at hk
      · rename_i f' hf
        injection hk with hk
        have := tkR_in (b := b) (size := 1) (may := fun v => may v && decide (v + p + 1 ≤ 224)) (s := .ok p) h
        rw [tkR_bad hf] at this
        rw [← hk]
        exact this
      · cases hk
    | ok a =>
      obtain ⟨t, q⟩ := a
      rw [txR_ok hk]
      obtain ⟨_, _, h3, _⟩ := tx_ok hb hk
      exact h3
theorem pnR_in {b : List UInt8} (hb : b.length = 224) {s : RdSt} (h : inSt s) : inSt (pnR b s).2 := by
  cases s with
  | error f => exact h
  | ok p =>
    have hp : p ≤ 224 := h
    cases hk : pn b p with
    | error f =>
      rw [pnR_bad hk]
      show f ≤ 224
      unfold pn at hk
      split at hk
      · injection hk with hk; omega
      · split at hk
        · injection hk with hk; omega
        · cases hk
    | ok a =>
      obtain ⟨r, q⟩ := a
      rw [pnR_ok hk]
      obtain ⟨_, h2, _⟩ := pn_ok hb hk
      exact h2
theorem ordR_in {i : Nat} {ahead key : List UInt8} {s : RdSt} (h : inSt s) : inSt (ordR i ahead key s) := by
  cases s with
  | error f => exact h
  | ok p =>
    have hp : p ≤ 224 := h
    unfold ordR
    dsimp only
    split
    · show p - key.length ≤ 224; omega
    · exact h
theorem restR_in {b : List UInt8} (hb : b.length = 224) {kind : Nat} {key : List UInt8} {s : RdSt} (h : inSt s) : inSt (restR b kind key s).2 := by
  unfold restR
  split
  · exact pnR_in hb h
  · split
    · exact pnR_in hb (tkR_in (tkR_in h))
    · exact txR_in hb (tkR_in h)
theorem enR_in {b : List UInt8} (hb : b.length = 224) {kind i : Nat} {ahead : List UInt8} {s : RdSt} (h : inSt s) : inSt (enR b kind i ahead s).2 := restR_in hb (ordR_in (txR_in hb h))
theorem ensR_in {b : List UInt8} (hb : b.length = 224) {kind : Nat} {s0 : RdSt} (h : inSt s0) : ∀ i, inSt (ensR b kind s0 i).2
  | 0 => h
  | i + 1 => by
    have ih := ensR_in hb h (kind := kind) i
    cases hs : (ensR b kind s0 i).2 with
    | error f => rw [hs] at ih; rw [ensR_bad hs 1]; exact ih
    | ok p => rw [hs] at ih; rw [ensR_ok hs]; exact enR_in hb ih
theorem tail0_in {b : List UInt8} : ∀ (m p f : Nat), tail0 b m p = .error f → f < p + m
  | 0, p, f, h => by cases h
  | m + 1, p, f, h => by
    unfold tail0 at h
    split at h
    · have := tail0_in m (p + 1) f h; omega
    · injection h with h; omega
theorem decEnd_le {b : List UInt8} (hb : b.length = 224) {f : Nat} (h : decEnd b = .error f) : f ≤ 224 := by
  have h1 : inSt (ct b).2 := tkR_in (tkR_in (tkR_in (show inSt (.ok 0) from Nat.zero_le _)))
  have h2 : inSt (enEnd b).2 := ensR_in hb h1 _
  unfold decEnd tlR at h
  cases hs : (enEnd b).2 with
  | error f' =>
    rw [hs] at h h2
    injection h with h
    have : f' ≤ 224 := h2
    omega
  | ok p =>
    rw [hs] at h h2
    have hp : p ≤ 224 := h2
    dsimp only at h
    split at h
    · cases h
    · rename_i f' hf
      injection h with h
      have := tail0_in _ _ _ hf
      omega
/-- What was read, where it was read. -/
theorem dec_good {b : List UInt8} (hb : b.length = 224) {q : Nat} (h : decEnd b = .ok q) : dec b = .ok ((kd b).1, (lv b).1, (enEnd b).1) := by rw [dec_decEnd hb, h]
end Go.Proofs.Ytihbpmceggghgaa
