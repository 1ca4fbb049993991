/- Plain: entries of nodes, what may stand where, what is right, and a node's bytes. No program in sight. -/
import Derived.Test.YtihbpmceggghgaaPlain
set_option linter.unusedVariables false
set_option linter.unusedSimpArgs false
namespace Go.Proofs.Ytihbpmceggghgaa

abbrev Rf := Nat × Nat × Nat
def r0 : Rf := (0, 0, 0)
def rfIn (r : Rf) : Prop := r.1 < 4294967296 ∧ r.2.1 < 18446744073709551616 ∧ r.2.2 < 65536
structure Ent where
  key : List UInt8
  val : List UInt8
  len : Int
  chain : Rf
  child : Rf
def ent0 : Ent := ⟨[], [], 0, r0, r0⟩
/-- May a key of n bytes stand at a place? -/
def kmay (kind i n : Nat) : Bool := if kind = 2 ∧ i = 0 then n == 0 else decide (1 ≤ n) && decide (n ≤ 32)
/-- May an entry whose key has n bytes and whose value has m? (r: its chain, s: its child) -/
def emayL (kind i n m : Nat) (L : Int) (r s : Rf) : Bool :=
  kmay kind i n && (if kind = 2 then s != r0 && (r == r0 && (m == 0 && L == 0))
    else s == r0 && (if L = 0 then r == r0 && decide (m ≤ 64) else decide (64 < L) && (decide (L ≤ 1024) && (r != r0 && m == 0))))
def emay (kind i : Nat) (x : Ent) : Bool := emayL kind i x.key.length x.val.length x.len x.chain x.child
def shp (k l : Nat) : Bool := k == 1 && l == 0 || (k == 2 && (decide (1 ≤ l) && decide (l ≤ 30)))
/-- Is the first below the second? -/
def less : List UInt8 → List UInt8 → Bool
  | _, [] => false
  | [], _ :: _ => true
  | a :: x, b :: y => if a = b then less x y else decide (a.toNat < b.toNat)
/-- What is wrong at place i of a node; 0: nothing. -/
def rAt (kind : Nat) (es : List Ent) (i : Nat) : Int :=
  if emay kind i (es.getD i ent0) then (if 0 < i ∧ less (es.getD (i - 1) ent0).key (es.getD i ent0).key = false then 120 else 0) else 2
/-- What is wrong first of the first k places. -/
def rTo (kind : Nat) (es : List Ent) : Nat → Int
  | 0 => 0
  | k + 1 => if rTo kind es k = 0 then rAt kind es k else rTo kind es k
def rE (kind level : Nat) (es : List Ent) : Int :=
  if shp kind level && !(kind == 2 && es.length == 0) then rTo kind es es.length else 2
theorem rTo_stay {kind : Nat} {es : List Ent} {k : Nat} (h : rTo kind es k ≠ 0) : ∀ m, k ≤ m → rTo kind es m = rTo kind es k
  | 0, hm => by have : k = 0 := by omega
                subst this; rfl
  | m + 1, hm => by
    by_cases e : k = m + 1
    · rw [e]
    · have h1 := rTo_stay h m (by omega)
      rw [rTo, if_neg (by rw [h1]; exact h), h1]
theorem rTo_at {kind : Nat} {es : List Ent} {k : Nat} (h0 : rTo kind es k = 0) (h : rAt kind es k ≠ 0) (hk : k < es.length) : rTo kind es es.length = rAt kind es k := by
  have e : rTo kind es (k + 1) = rAt kind es k := by rw [rTo, if_pos h0]
  rw [← e]
  exact rTo_stay (by rw [e]; exact h) _ hk
theorem rTo_low {kind : Nat} {es : List Ent} : ∀ {k : Nat}, rTo kind es k = 0 → ∀ j, j < k → rAt kind es j = 0
  | 0, _, j, hj => by omega
  | k + 1, h, j, hj => by
    rw [rTo] at h
    by_cases e : rTo kind es k = 0
    · rw [if_pos e] at h
      by_cases ej : j = k
      · rw [ej]; exact h
      · exact rTo_low e j (by omega)
    · rw [if_neg e] at h; exact absurd h e
theorem rAt_cases (kind : Nat) (es : List Ent) (i : Nat) : rAt kind es i = 0 ∨ rAt kind es i = 2 ∨ rAt kind es i = 120 := by
  unfold rAt
  split
  · split
    · exact .inr (.inr rfl)
    · exact .inl rfl
  · exact .inr (.inl rfl)
theorem rTo_cases (kind : Nat) (es : List Ent) : ∀ i, rTo kind es i = 0 ∨ rTo kind es i = 2 ∨ rTo kind es i = 120
  | 0 => .inl rfl
  | k + 1 => by
    rw [rTo]
    split
    · exact rAt_cases kind es k
    · exact rTo_cases kind es k
theorem rE_cases (kind level : Nat) (es : List Ent) : rE kind level es = 0 ∨ rE kind level es = 2 ∨ rE kind level es = 120 := by
  unfold rE
  split
  · exact rTo_cases kind es _
  · exact .inr (.inl rfl)
/-- What a right node's entries are. -/
theorem right_may {kind level : Nat} {es : List Ent} (h : rE kind level es = 0) : (kind = 1 ∨ kind = 2) ∧ shp kind level = true ∧ (kind = 2 → 0 < es.length) ∧ ∀ j, j < es.length → emay kind j (es.getD j ent0) = true ∧ (0 < j → less (es.getD (j - 1) ent0).key (es.getD j ent0).key = true) := by
  unfold rE at h
  split at h
  case isTrue hc =>
    rw [Bool.and_eq_true, Bool.not_eq_true'] at hc
    obtain ⟨h1, h2⟩ := hc
    refine ⟨?_, h1, fun hk => ?_, fun j hj => ?_⟩
    · simp only [shp, Bool.or_eq_true, Bool.and_eq_true, beq_iff_eq] at h1
      rcases h1 with h1 | h1
      · exact .inl h1.1
      · exact .inr h1.1
    · subst hk
      simp only [beq_self_eq_true, Bool.true_and, beq_eq_false_iff_ne, ne_eq] at h2
      omega
    · have := rTo_low h j hj
      unfold rAt at this
      split at this
      case isTrue he =>
        split at this
        case isTrue => exact absurd this (by decide)
        case isFalse hn =>
          refine ⟨he, fun h0 => ?_⟩
          cases hl : less (es.getD (j - 1) ent0).key (es.getD j ent0).key with
          | true => rfl
          | false => exact absurd ⟨h0, hl⟩ hn
      case isFalse => exact absurd this (by decide)
  case isFalse => exact absurd h (by decide)
theorem kmay_le {kind i n : Nat} (h : kmay kind i n = true) : n ≤ 32 := by
  unfold kmay at h
  split at h
  · simp at h; omega
  · simp at h; omega
/-- What an entry that may be there has. -/
theorem emay_le {kind i : Nat} {x : Ent} (h : emay kind i x = true) : x.key.length ≤ 32 ∧ x.val.length ≤ 64 ∧ 0 ≤ x.len ∧ x.len ≤ 1024 := by
  unfold emay emayL at h
  rw [Bool.and_eq_true] at h
  obtain ⟨h1, h2⟩ := h
  refine ⟨kmay_le h1, ?_⟩
  split at h2
  · simp at h2; obtain ⟨_, _, h3, h4⟩ := h2; rw [h3, h4]; simp
  · rw [Bool.and_eq_true] at h2
    split at h2
    · rename_i h0; simp at h2; rw [h0]; omega
    · simp at h2; obtain ⟨_, h3, h4, _, h5⟩ := h2; rw [h5]; simp; omega
def rfB (r : Rf) : List UInt8 := be r.1 4 ++ be r.2.1 8 ++ be r.2.2 2
theorem rfB_length (r : Rf) : (rfB r).length = 14 := by simp [rfB, be_length]
/-- An entry's bytes. -/
def entB (kind : Nat) (x : Ent) : List UInt8 :=
  (UInt8.ofNat x.key.length :: x.key) ++ (if kind = 2 then rfB x.child else if x.len = 0 then 0 :: UInt8.ofNat x.val.length :: x.val else 1 :: UInt8.ofNat (x.len.toNat / 256) :: UInt8.ofNat x.len.toNat :: rfB x.chain)
def entsB (kind : Nat) (es : List Ent) : List UInt8 := (es.map (entB kind)).flatten
/-- A node's bytes. -/
def nodeB (kind level : Nat) (es : List Ent) : List UInt8 := [UInt8.ofNat kind, UInt8.ofNat level, UInt8.ofNat es.length] ++ entsB kind es
theorem entsB_snoc (kind : Nat) (es : List Ent) (x : Ent) : entsB kind (es ++ [x]) = entsB kind es ++ entB kind x := by simp [entsB]
theorem etake_snoc (l : List Ent) (k : Nat) (h : k < l.length) : l.take (k + 1) = l.take k ++ [l.getD k ent0] := by
  rw [List.take_succ_eq_append_getElem h]
  simp [List.getD, List.getElem?_eq_getElem h]
theorem entsB_step (kind : Nat) (l : List Ent) (k : Nat) (h : k < l.length) : entsB kind (l.take (k + 1)) = entsB kind (l.take k) ++ entB kind (l.getD k ent0) := by
  rw [etake_snoc l k h, entsB_snoc]
theorem entB_le {kind i : Nat} {x : Ent} (h : emay kind i x = true) : (entB kind x).length ≤ 99 := by
  obtain ⟨h1, h2, h3, h4⟩ := emay_le h
  unfold entB
  split
  · simp [rfB_length]; omega
  · split
    · simp; omega
    · simp [rfB_length]; omega
theorem entsB_le {kind : Nat} {l : List Ent} (h : ∀ j, j < l.length → emay kind j (l.getD j ent0) = true) : ∀ k, k ≤ l.length → (entsB kind (l.take k)).length ≤ 99 * k
  | 0, _ => by simp [entsB]
  | k + 1, hk => by
    rw [entsB_step kind l k (by omega), List.length_append]
    have h1 := entsB_le h k (by omega)
    have h2 := entB_le (h k (by omega))
    omega
end Go.Proofs.Ytihbpmceggghgaa
