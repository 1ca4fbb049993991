/- Plain: what bytes are read as. No program in sight. -/
import Derived.Test.YtihbpmceggghgaaEntP
set_option linter.unusedVariables false
set_option linter.unusedSimpArgs false
namespace Go.Proofs.Ytihbpmceggghgaa

/-- A number of so many bytes, that may be; else the fault's place. -/
def tk (b : List UInt8) (size : Nat) (may : Nat → Bool) (p : Nat) : Except Nat (Nat × Nat) :=
  if 224 < p + size then .error 224 else if may (num ((b.drop p).take size)) then .ok (num ((b.drop p).take size), p + size) else .error p
/-- A text behind its length, which may be. -/
def tx (b : List UInt8) (may : Nat → Bool) (p : Nat) : Except Nat (List UInt8 × Nat) :=
  match tk b 1 (fun v => may v && decide (v + p + 1 ≤ 224)) p with
  | .error f => .error f
  | .ok (v, q) => .ok ((b.drop q).take v, q + v)
/-- A Ref that is one. -/
def pn (b : List UInt8) (p : Nat) : Except Nat (Rf × Nat) :=
  if 224 < p + 14 then .error 224 else if zeros ((b.drop p).take 14) then .error p
  else .ok ((num ((b.drop p).take 4), num ((b.drop (p + 4)).take 8), num ((b.drop (p + 12)).take 2)), p + 14)
/-- An entry at place i of a node, behind one with the key ahead. -/
def en (b : List UInt8) (kind i : Nat) (ahead : List UInt8) (p : Nat) : Except Nat (Ent × Nat) :=
  match tx b (kmay kind i) p with
  | .error f => .error f
  | .ok (key, p1) =>
    if 0 < i ∧ less ahead key = false then .error (p1 - key.length)
    else if kind = 2 then
      match pn b p1 with
      | .error f => .error f
      | .ok (r, p2) => .ok (⟨key, [], 0, r0, r⟩, p2)
    else
      match tk b 1 (fun v => decide (v < 2)) p1 with
      | .error f => .error f
      | .ok (form, p2) =>
        if form = 1 then
          match tk b 2 (fun v => decide (64 < v) && decide (v ≤ 1024)) p2 with
          | .error f => .error f
          | .ok (len, p3) =>
            match pn b p3 with
            | .error f => .error f
            | .ok (r, p4) => .ok (⟨key, [], (len : Int), r, r0⟩, p4)
        else
          match tx b (fun v => decide (v ≤ 64)) p2 with
          | .error f => .error f
          | .ok (v, p3) => .ok (⟨key, v, 0, r0, r0⟩, p3)
/-- m entries more, behind those of acc. -/
def ens (b : List UInt8) (kind : Nat) : Nat → List Ent → Nat → Except Nat (List Ent × Nat)
  | 0, acc, p => .ok (acc, p)
  | m + 1, acc, p =>
    match en b kind acc.length (acc.getD (acc.length - 1) ent0).key p with
    | .error f => .error f
    | .ok (x, q) => ens b kind m (acc ++ [x]) q
/-- Noughts up to the end; else the first place that is none. -/
def tail0 (b : List UInt8) : Nat → Nat → Except Nat Unit
  | 0, _ => .ok ()
  | m + 1, p => if (b.getD p 0) = 0 then tail0 b m (p + 1) else .error p
/-- The node of 224 bytes, or the fault's place. -/
def dec (b : List UInt8) : Except Nat (Nat × Nat × List Ent) :=
  let kind := (b.getD 0 0).toNat
  let level := (b.getD 1 0).toNat
  let count := (b.getD 2 0).toNat
  if ¬ (kind = 1 ∨ kind = 2) then .error 0
  else if shp kind level = false then .error 1
  else if ¬ (0 < count ∨ kind = 1) then .error 2
  else match ens b kind count [] 3 with
    | .error f => .error f
    | .ok (es, p) =>
      match tail0 b (224 - p) p with
      | .error f => .error f
      | .ok _ => .ok (kind, level, es)
theorem tk_ok {b : List UInt8} {size : Nat} {may : Nat → Bool} {p v q : Nat} (h : tk b size may p = .ok (v, q)) : p + size ≤ 224 ∧ q = p + size ∧ v = num ((b.drop p).take size) ∧ may v = true := by
  unfold tk at h
  split at h
  · cases h
  · split at h
    · injection h with h
      injection h with h1 h2
      subst h1; subst h2
      exact ⟨by omega, rfl, rfl, by assumption⟩
    · cases h
theorem tk_mk {b : List UInt8} {size : Nat} {may : Nat → Bool} {p v : Nat} (h1 : p + size ≤ 224) (h2 : num ((b.drop p).take size) = v) (h3 : may v = true) : tk b size may p = .ok (v, p + size) := by
  subst h2
  unfold tk
  rw [if_neg (by omega), if_pos h3]
theorem drop_take1 {b : List UInt8} {p : Nat} (h : p < b.length) : (b.drop p).take 1 = [b.getD p 0] := by
  rw [List.take_one]
  simp [List.getD, List.head?_drop, h]
theorem num_one (x : UInt8) : num [x] = x.toNat := by simp [num]
theorem take_split (b : List UInt8) (p m n : Nat) : (b.drop p).take (m + n) = (b.drop p).take m ++ (b.drop (p + m)).take n := by
  rw [List.take_add, List.drop_drop]
theorem take_len {b : List UInt8} {p m : Nat} (h : p + m ≤ b.length) : ((b.drop p).take m).length = m := by
  rw [List.length_take, List.length_drop]; omega
theorem ofNat_num (b : List UInt8) (x : UInt8) : UInt8.ofNat x.toNat = x := by simp
/-- A text that is read is the bytes that stand there. -/
theorem tx_ok {b : List UInt8} (hb : b.length = 224) {may : Nat → Bool} {p q : Nat} {t : List UInt8} (h : tx b may p = .ok (t, q)) :
    may t.length = true ∧ q = p + (1 + t.length) ∧ q ≤ 224 ∧ (b.drop p).take (1 + t.length) = UInt8.ofNat t.length :: t := by
  unfold tx at h
  split at h
  · cases h
  · rename_i v q' hk
    obtain ⟨h1, h2, h3, h4⟩ := tk_ok hk
    rw [Bool.and_eq_true, decide_eq_true_iff] at h4
    injection h with h
    injection h with h5 h6
    subst h2
    have hl : t.length = v := by rw [← h5]; exact take_len (by omega)
    subst h6
    rw [hl]
    refine ⟨h4.1, by omega, by omega, ?_⟩
    rw [take_split, h5, drop_take1 (by omega)]
    rw [drop_take1 (by omega), num_one] at h3
    rw [h3]
    simp
theorem tx_mk {b : List UInt8} (hb : b.length = 224) {may : Nat → Bool} {p : Nat} {t : List UInt8} (h1 : may t.length = true) (h2 : p + (1 + t.length) ≤ 224) (h3 : (b.drop p).take (1 + t.length) = UInt8.ofNat t.length :: t) :
    tx b may p = .ok (t, p + (1 + t.length)) := by
  have hp : p < b.length := by omega
  rw [take_split, drop_take1 hp] at h3
  injection h3 with h4 h5
  have hv : num ((b.drop p).take 1) = t.length := by
    rw [drop_take1 hp, num_one, h4, UInt8.toNat_ofNat']; omega
  have hk : tk b 1 (fun v => may v && decide (v + p + 1 ≤ 224)) p = .ok (t.length, p + 1) := tk_mk (by omega) hv (by rw [h1, Bool.true_and, decide_eq_true_iff]; omega)
  unfold tx
  rw [hk]
  dsimp only
  have h6 : (b.drop (p + 1)).take t.length = t := by simpa using h5
  rw [h6, Nat.add_assoc]
theorem zeros_be0 (k : Nat) : zeros (be 0 k) = true := by
  induction k with
  | zero => rfl
  | succ k ih => rw [be_succ]; simp only [zeros, List.all_cons]; rw [Nat.zero_div]; simpa [zeros] using ih
theorem pn_ok {b : List UInt8} (hb : b.length = 224) {p q : Nat} {r : Rf} (h : pn b p = .ok (r, q)) : q = p + 14 ∧ q ≤ 224 ∧ (b.drop p).take 14 = rfB r ∧ r ≠ r0 ∧ rfIn r := by
  unfold pn at h
  split at h
  · cases h
  · split at h
    · cases h
    · rename_i h1 hz
      injection h with h
      injection h with h2 h3
      subst h3
      have e : (b.drop p).take 14 = (b.drop p).take 4 ++ (b.drop (p + 4)).take 8 ++ (b.drop (p + 12)).take 2 := by
        rw [show (14 : Nat) = 4 + 8 + 2 from rfl, take_split b p (4 + 8) 2, take_split b p 4 8]
      have e1 : be (num ((b.drop p).take 4)) 4 = (b.drop p).take 4 := by have := be_num ((b.drop p).take 4); rw [take_len (by omega)] at this; exact this
      have e2 : be (num ((b.drop (p + 4)).take 8)) 8 = (b.drop (p + 4)).take 8 := by have := be_num ((b.drop (p + 4)).take 8); rw [take_len (by omega)] at this; exact this
      have e3 : be (num ((b.drop (p + 12)).take 2)) 2 = (b.drop (p + 12)).take 2 := by have := be_num ((b.drop (p + 12)).take 2); rw [take_len (by omega)] at this; exact this
      have hr : (b.drop p).take 14 = rfB r := by
        rw [← h2, rfB, e]
        dsimp only
        rw [e1, e2, e3]
      refine ⟨rfl, by omega, hr, fun e0 => ?_, ?_⟩
      · rw [hr, e0] at hz
        apply hz
        show zeros (be 0 4 ++ be 0 8 ++ be 0 2) = true
        simp only [zeros, List.all_append]
        have z4 := zeros_be0 4
        have z8 := zeros_be0 8
        have z2 := zeros_be0 2
        simp only [zeros] at z4 z8 z2
        rw [z4, z8, z2]; rfl
      · rw [← h2]
        refine ⟨?_, ?_, ?_⟩
        · have := num_lt ((b.drop p).take 4); rw [take_len (by omega)] at this; exact this
        · have := num_lt ((b.drop (p + 4)).take 8); rw [take_len (by omega)] at this; exact this
        · have := num_lt ((b.drop (p + 12)).take 2); rw [take_len (by omega)] at this; exact this
theorem zeros_num : ∀ l : List UInt8, zeros l = true → num l = 0
  | [], _ => rfl
  | x :: l, h => by
    simp only [zeros, List.all_cons, Bool.and_eq_true, beq_iff_eq] at h
    rw [num_cons, h.1, zeros_num l (by simpa [zeros] using h.2)]
    simp
theorem pn_mk {b : List UInt8} {p : Nat} {r : Rf} (h1 : p + 14 ≤ 224) (h2 : (b.drop p).take 14 = rfB r) (h3 : r ≠ r0) (h4 : rfIn r) : pn b p = .ok (r, p + 14) := by
  obtain ⟨a, c, d⟩ := r
  obtain ⟨r1, r2, r3⟩ := h4
  have e : (b.drop p).take 14 = ((b.drop p).take 4 ++ (b.drop (p + 4)).take 8) ++ (b.drop (p + 12)).take 2 := by
    rw [show (14 : Nat) = 4 + 8 + 2 from rfl, take_split b p (4 + 8) 2, take_split b p 4 8]
  have hl : ((b.drop p).take 14).length = 14 := by rw [h2]; exact rfB_length _
  have hbl : 14 ≤ b.length - p := by rw [List.length_take, List.length_drop] at hl; omega
  rw [e] at h2
  unfold rfB at h2
  dsimp only at h2 r1 r2 r3
  have l4 : ((b.drop p).take 4).length = (be a 4).length := by rw [be_length, take_len (by omega)]
  have l8 : ((b.drop (p + 4)).take 8).length = (be c 8).length := by rw [be_length, take_len (by omega)]
  obtain ⟨h5, h6⟩ := List.append_inj h2 (by rw [List.length_append, List.length_append, l4, l8])
  obtain ⟨h7, h8⟩ := List.append_inj h5 l4
  unfold pn
  rw [if_neg (by omega), if_neg]
  · rw [h6, h7, h8, num_be_lt a 4 r1, num_be_lt c 8 r2, num_be_lt d 2 r3]
  · intro hz
    apply h3
    rw [e, h6, h7, h8] at hz
    simp only [zeros, List.all_append, Bool.and_eq_true] at hz
    have q1 := zeros_num _ hz.1.1
    have q2 := zeros_num _ hz.1.2
    have q3 := zeros_num _ hz.2
    rw [num_be_lt a 4 r1] at q1
    rw [num_be_lt c 8 r2] at q2
    rw [num_be_lt d 2 r3] at q3
    rw [q1, q2, q3]; rfl
theorem be_two (v : Nat) : be v 2 = [UInt8.ofNat (v / 256), UInt8.ofNat v] := by
  rw [be_succ, be_succ]
  simp [be]
/-- An entry that is read: what it is, and its bytes. -/
structure EnOk (b : List UInt8) (kind i : Nat) (ahead : List UInt8) (p : Nat) (x : Ent) (q : Nat) : Prop where
  may : emay kind i x = true
  ord : 0 < i → less ahead x.key = true
  to : q = p + (entB kind x).length
  le : q ≤ 224
  bytes : (b.drop p).take (entB kind x).length = entB kind x
  chain : rfIn x.chain
  child : rfIn x.child
theorem en_ok {b : List UInt8} (hb : b.length = 224) {kind i : Nat} {ahead : List UInt8} {p q : Nat} {x : Ent} (h : en b kind i ahead p = .ok (x, q)) : EnOk b kind i ahead p x q := by
  have z0 : rfIn r0 := ⟨by decide, by decide, by decide⟩
  unfold en at h
  split at h
  · cases h
  · rename_i key p1 hk
    obtain ⟨k1, k2, k3, k4⟩ := tx_ok hb hk
    split at h
    · cases h
    · rename_i hord
      have hord2 : 0 < i → less ahead key = true := fun h0 => by
        cases hl : less ahead key with
        | true => rfl
        | false => exact absurd ⟨h0, hl⟩ hord
      split at h
      · rename_i hk2
        split at h
        · cases h
        · rename_i r p2 hp
          obtain ⟨r1, r2, r3, r4, r5⟩ := pn_ok hb hp
          injection h with h
          injection h with h1 h2
          subst h1; subst h2; subst k2; subst r1
          have he : entB kind ⟨key, [], 0, r0, r⟩ = (UInt8.ofNat key.length :: key) ++ rfB r := by unfold entB; rw [if_pos hk2]
          have hl : ((UInt8.ofNat key.length :: key) ++ rfB r).length = (1 + key.length) + 14 := by rw [List.length_append, rfB_length, List.length_cons]; omega
          refine ⟨?_, hord2, by rw [he, hl]; omega, r2, ?_, z0, r5⟩
          · unfold emay emayL
            rw [k1, if_pos hk2]
            have : (r != r0) = true := by rw [bne_iff_ne]; exact r4
            rw [this]; simp
          · rw [he, hl, take_split, k4, r3]
      · rename_i hk2
        split at h
        · cases h
        · rename_i form p2 hf
          obtain ⟨f1, f2, f3, f4⟩ := tk_ok hf
          rw [decide_eq_true_iff] at f4
          subst k2; subst f2
          rw [drop_take1 (by omega), num_one] at f3
          have hform : UInt8.ofNat form = b.getD (p + (1 + key.length)) 0 := by rw [f3]; simp
          split at h
          · rename_i hf1
            subst hf1
            split at h
            · cases h
            · rename_i len p3 hlen
              obtain ⟨g1, g2, g3, g4⟩ := tk_ok hlen
              rw [Bool.and_eq_true, decide_eq_true_iff, decide_eq_true_iff] at g4
              split at h
              · cases h
              · rename_i r p4 hp
                obtain ⟨r1, r2, r3, r4, r5⟩ := pn_ok hb hp
                injection h with h
                injection h with h1 h2
                subst h1; subst h2; subst g2; subst r1
                have hne : ¬ ((len : Int) = 0) := by omega
                have he : entB kind ⟨key, [], (len : Int), r, r0⟩ = (UInt8.ofNat key.length :: key) ++ (1 :: UInt8.ofNat (len / 256) :: UInt8.ofNat len :: rfB r) := by
                  unfold entB; rw [if_neg hk2]; dsimp only; rw [if_neg hne, Int.toNat_natCast]
                have hl : ((UInt8.ofNat key.length :: key) ++ (1 :: UInt8.ofNat (len / 256) :: UInt8.ofNat len :: rfB r)).length = (1 + key.length) + (1 + (2 + 14)) := by
                  simp [rfB_length]; omega
                refine ⟨?_, hord2, by rw [he, hl]; omega, r2, ?_, r5, z0⟩
                · unfold emay emayL
                  rw [k1, if_neg hk2, if_neg hne]
                  have e1 : (r != r0) = true := by rw [bne_iff_ne]; exact r4
                  have e2 : decide ((64 : Int) < (len : Int)) = true := decide_eq_true (by omega)
                  have e3 : decide ((len : Int) ≤ 1024) = true := decide_eq_true (by omega)
                  rw [e1]
                  simp [e2, e3]
                · rw [he, hl, take_split, k4, take_split, drop_take1 (by omega), ← hform, take_split]
                  have e4 : (b.drop (p + (1 + key.length) + 1)).take 2 = [UInt8.ofNat (len / 256), UInt8.ofNat len] := by
                    have := be_num ((b.drop (p + (1 + key.length) + 1)).take 2)
                    rw [take_len (by omega), ← g3, be_two] at this
                    exact this.symm
                  rw [e4, r3]; rfl
          · rename_i hf1
            have hf0 : form = 0 := by omega
            subst hf0
            split at h
            · cases h
            · rename_i v p3 hv
              obtain ⟨g1, g2, g3, g4⟩ := tx_ok hb hv
              rw [decide_eq_true_iff] at g1
              injection h with h
              injection h with h1 h2
              subst h1; subst h2; subst g2
              have he : entB kind ⟨key, v, 0, r0, r0⟩ = (UInt8.ofNat key.length :: key) ++ (0 :: UInt8.ofNat v.length :: v) := by
                unfold entB; rw [if_neg hk2]; dsimp only; rw [if_pos rfl]
              have hl : ((UInt8.ofNat key.length :: key) ++ (0 :: UInt8.ofNat v.length :: v)).length = (1 + key.length) + (1 + (1 + v.length)) := by
                simp; omega
              refine ⟨?_, hord2, by rw [he, hl]; omega, g3, ?_, z0, z0⟩
              · unfold emay emayL
                rw [k1, if_neg hk2]
                simp [g1]
              · rw [he, hl, take_split, k4, take_split, drop_take1 (by omega), ← hform, g4]; rfl
end Go.Proofs.Ytihbpmceggghgaa
