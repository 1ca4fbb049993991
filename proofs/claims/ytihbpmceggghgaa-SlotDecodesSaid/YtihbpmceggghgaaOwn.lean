/- Rows of bytes of the call's own: append in one form; slices of slices that read as lists of lists. -/
import Derived.Test.YtihbpmceggghgaaRows
import Derived.Test.YtihbpmceggghgaaOctE
import Derived.Deep.AppendLies
import Derived.Lib.AppendZeros
import Derived.Lib.SlBytesConst
set_option linter.unusedVariables false
set_option linter.unusedSimpArgs false
namespace Go.Proofs.Ytihbpmceggghgaa
open Go.RowKit

/-- A Ref as a value. -/
abbrev RefV (p c g : Nat) : Value := .agg #[.int .u32 p, .int .u64 c, .int .u16 g]
/-- A row of bytes of the call's own (its block is H or above). -/
def Own (w : World) (H : Nat) (A : Option Addr) (n c : Nat) (l : List UInt8) : Prop := w.ownsRow H 5 1 (.slice A n c) n (l.map B8)
section
variable {w w' : World} {H : Nat} {A : Option Addr} {n c : Nat} {l : List UInt8}
theorem Own.rd (h : Own w H A n c l) : Rd w A n c l := Rd.of_own h
theorem Own.len (h : Own w H A n c l) : n = l.length := h.rd.len
theorem Own.below (h : Own w H A n c l) (hb : Below w.heap.size w w') : Own w' H A n c l := own_below h hb
theorem Own.alloc (h : Own w H A n c l) (o : Obj) : Own (w.alloc o) H A n c l := World.ownsRow.alloc h o
theorem Own.mono {H' : Nat} (h : Own w H A n c l) (hH : H' ≤ H) : Own w H' A n c l :=
  ⟨h.1, h.2.imp id fun ⟨g, cap, cur, hv, hb, r⟩ => ⟨g, cap, cur, hv, Nat.le_trans hH hb, r⟩⟩
theorem Own.nil (w : World) (H : Nat) : Own w H none 0 0 [] := World.ownsRow_nil w H _ 1
theorem Own.kept {row : Option Nat} (h : Own w H A n c l) (hg : w.grownBy w' row) (hne : ∀ a, A = some a → some a.block ≠ row) : Own w' H A n c l :=
  World.ownsRow.kept h hg (by
    cases A with
    | none => exact .inl rfl
    | some a => exact .inr (hne a rfl))
end
theorem Own.lt {w : World} {H : Nat} {A : Option Addr} {n c : Nat} {l : List UInt8} (h : Own w H A n c l) : ∀ a, A = some a → a.block < w.heap.size := fun a ha => by
  subst ha
  exact (World.ownsRow.lt h _ rfl).2
theorem Own.ge {w : World} {H : Nat} {A : Option Addr} {n c : Nat} {l : List UInt8} (h : Own w H A n c l) : ∀ a, A = some a → H ≤ a.block := fun a ha => by
  subst ha
  exact (World.ownsRow.lt h _ rfl).1
/-- A row above H stays, where one below H has grown. -/
theorem Own.sep {w w' : World} {H : Nat} {A : Option Addr} {n c : Nat} {l : List UInt8} {A1 : Option Addr} (h : Own w H A n c l) (hg : w.grownBy w' (A1.map (·.block))) (h1 : ∀ a, A1 = some a → a.block < H) : Own w' H A n c l :=
  h.kept hg fun a ha e => by
    have h2 := h.ge a ha
    cases A1 with
    | none => cases e
    | some k =>
      have h3 := h1 k rfl
      simp at e
      omega
theorem own_form {w : World} {base : Nat} {e : TypeId} {size : Nat} {v : Value} {n : Nat} {xs : List Value} (h : w.ownsRow base e size v n xs) : ∃ A c, v = .slice A n c := by
  rcases h.2 with ⟨hv, hn⟩ | ⟨g, cap, cur, hv, _⟩
  · exact ⟨none, 0, by rw [hv, hn]⟩
  · exact ⟨_, cap, hv⟩
/-- A new row of bytes, written out. -/
theorem Own.fresh (w : World) (H : Nat) (l : List UInt8) (n : Nat) (hn : n = l.length) (hm : n ≤ 140737488355328) (hH : H ≤ w.heap.size) : Own (w.alloc (.cells (l.map B8).toArray 5)) H (some ⟨w.heap.size, 0, none⟩) n n l :=
  own_of_heap (cur := l.map B8) (heap_alloc_new w _) hH (Nat.le_refl _) (by unfold maxLen; omega) (by simp [hn]) (by rw [hn]; exact List.take_of_length_le (by simp)) hn
theorem Rd.fresh (w : World) (l : List UInt8) (n : Nat) (hn : n = l.length) (hm : n ≤ 140737488355328) : Rd (w.alloc (.cells (l.map B8).toArray 5)) (some ⟨w.heap.size, 0, none⟩) n n l :=
  (Own.fresh w w.heap.size l n hn hm (Nat.le_refl _)).rd
/-- A row of the call's own that holds something: its block. -/
theorem Own.split {w : World} {H : Nat} {A : Option Addr} {n c : Nat} {l : List UInt8} (h : Own w H A n c l) (hn : 0 < n) : ∃ g, A = some ⟨g, 0, none⟩ ∧ H ≤ g := by
  rcases h.2 with ⟨hv, h0⟩ | ⟨g, cap, cur, hv, hb, _⟩
  · omega
  · injection hv with h1 h2 h3
    exact ⟨g, h1, hb⟩
/-- A byte turned over. -/
theorem flip255 (x : UInt8) : bits .xor .u8 ((x.toNat : Nat) : Int) 255 = (((x ^^^ 255).toNat : Nat) : Int) := by
  have := u8_xor_nat x.toNat 255 (by have := x.toNat_lt; omega) (by omega)
  rw [UInt8.toNat_xor]
  exact this
def lenV : Value → Nat
  | .slice _ n _ => n
  | _ => 0
/-- A new row of bytes that is marked as a text's. -/
theorem Rd.marked (w : World) (l : List UInt8) (n : Nat) (fr : Nat × Nat) (hn : n = l.length) (hm : n ≤ 140737488355328) : Rd (w.alloc (.cells (l.map B8).toArray 5 fr)) (some ⟨w.heap.size, 0, none⟩) n n l :=
  ⟨hn, Nat.le_refl _, by unfold maxLen; omega, fun h0 => ⟨_, 0, rfl, fun j hj => by
    rw [cell_of_row _ _ _ _ _ _ (heap_alloc_new w _)]
    simp [List.getD, List.getElem?_eq_getElem (show j < l.length by omega)]⟩⟩
/-- A part of a slice. -/
theorem Rd.part {w : World} {b o n c : Nat} {l : List UInt8} (h : Rd w (some ⟨b, o, none⟩) n c l) (i m c' : Nat) (A : Option Addr) (hA : 0 < m → A = some ⟨b, o + i, none⟩) (hj : i + m ≤ n) (hc : m ≤ c') (hm : c' ≤ maxLen) : Rd w A m c' ((l.drop i).take m) :=
  ⟨by rw [List.length_take, List.length_drop, ← h.len]; omega, hc, hm, fun h0 => by
    obtain ⟨b', o', e, hcell⟩ := h.at_ (by omega)
    injection e with e; injection e with e1 e2; subst e1; subst e2
    refine ⟨b, o + i, hA h0, fun j hj' => ?_⟩
    rw [Nat.add_assoc, hcell (i + j) (by omega)]
    have hl := h.len
    simp [List.getD, List.getElem?_take, List.getElem?_drop, hj']⟩
theorem Blk.keep_grown {w w' : World} {g : Nat} {t : TypeId} {cs : Array Value} {row : Option Nat} (h : Blk w g t cs) (hg : w.grownBy w' row) (hne : some g ≠ row) : Blk w' g t cs :=
  (hg.block g h.lt hne).trans h
theorem Own.setLow {w : World} {H : Nat} {A : Option Addr} {n c : Nat} {l : List UInt8} (h : Own w H A n c l) {p : Addr} (hp : p.block < H) (u : Value) : Own (w.setCell p u) H A n c l :=
  Own.kept (row := some p.block) h ⟨rfl, rfl, rfl, by simp [World.setCell], fun k _ hk => Below.heap_setCell w p u k (fun e => hk (by rw [e]))⟩ fun a ha e => by
    have := h.ge a ha
    simp at e
    omega
/-- One cell values. -/
theorem b8_one {l : List UInt8} : ∀ u ∈ l.map B8, u.oneCell' = true := by
  intro u hu
  obtain ⟨_, _, rfl⟩ := List.mem_map.1 hu
  rfl
theorem Rd.news {w : World} {a : Addr} {m c : Nat} {l : List UInt8} (h : Rd w (some a) m c l) : ∀ j u, (l.map B8)[j]? = some u → w.cell? (a.add j) = some u := by
  intro j u hj
  have hjl : j < l.length := by simpa using (List.getElem?_eq_some_iff.1 hj).1
  obtain ⟨b, o, e, hc⟩ := h.at_ (by rw [h.len]; omega)
  injection e with e
  subst e
  rw [Addr.add_lit, hc j (by rw [h.len]; exact hjl)]
  simpa [List.getD, List.getElem?_eq_getElem hjl] using hj

/-- append, of a row of the call's own and whatever slice of bytes: its run. -/
theorem run_app (T ty : TypeId) (hT : Try.prog.underlying T = some (.slice 5)) {w : World} {H : Nat} {A : Option Addr} {n c : Nat} {l : List UInt8} {A' : Option Addr} {m c' : Nat} {l' : List UInt8}
    (h : Own w H A n c l) (h' : Rd w A' m c' l') (hb : H ≤ w.heap.size) (hl : n + m ≤ 140737488355328) :
    ∃ A2 c2 w2, (Builtin.append_ #[T, T] ty #[.slice A n c, .slice A' m c']).run Try.prog w = .ok (.slice A2 (n + m) c2) w2 ∧ Own w2 H A2 (n + m) c2 (l ++ l') ∧ w.grownBy w2 (A.map (·.block)) ∧ Below H w w2 := by
  obtain ⟨i0, hi, hz0, hz1, hz2⟩ := info_parts infoU8
  have hrow : Value.ownBlock (.slice A n c) = A.map (·.block) := by cases A <;> rfl
  have fin : ∀ v' w2, (Builtin.append_ #[T, T] ty #[.slice A n c, .slice A' m c']).run Try.prog w = .ok v' w2 → w2.ownsRow H 5 1 v' (n + m) (l.map B8 ++ l'.map B8) → w.grownBy w2 (Value.ownBlock (.slice A n c)) →
      ∃ A2 c2 w2, (Builtin.append_ #[T, T] ty #[.slice A n c, .slice A' m c']).run Try.prog w = .ok (.slice A2 (n + m) c2) w2 ∧ Own w2 H A2 (n + m) c2 (l ++ l') ∧ w.grownBy w2 (A.map (·.block)) ∧ Below H w w2 := by
    intro v' w2 hr h2 h3
    obtain ⟨A2, c2, rfl⟩ := own_form h2
    rw [← List.map_append] at h2
    refine ⟨A2, c2, w2, hr, h2, by rw [← hrow]; exact h3, (Below.refl _ _).grown h3 hb fun k hk => (World.ownsRow.lt h k hk).1⟩
  cases A' with
  | some a =>
    obtain ⟨v', w2, hr, h2, h3, _⟩ := run_append_own (P := Try.prog) w H T ty 5 i0 (.int .u8 0) 1 1 hT hi hz0 hz1 hz2 rfl (by decide) (.slice A n c) n (l.map B8) h a m c' (l'.map B8) (by have := h'.len; simp [this]) h'.news b8_one (by unfold maxLen; omega) (by omega) hb
    exact fin v' w2 hr h2 h3
  | none =>
    have hm : m = 0 := by
      rcases Nat.eq_zero_or_pos m with h0 | h0
      · exact h0
      · obtain ⟨_, _, e, _⟩ := h'.at_ h0
        cases e
    subst hm
    obtain rfl : l' = [] := List.eq_nil_of_length_eq_zero h'.len.symm
    have hcap : n ≤ c := h.rd.cap
    have h1 : w.ownsRow H 5 1 (.slice A n c) n (l.map B8) := h
    refine fin (.slice A n c) w ?_ (by simpa using h1) ⟨rfl, rfl, rfl, Nat.le_refl _, fun _ _ _ => rfl⟩
    have hT' : ∀ k, (TypeDesc.slice 5) ≠ .int k := by intro k hk; cases hk
    cases A with
    | none =>
      have hf := run_firstCells_none (P := Try.prog) w i0.size 0 0 c'
      simp [Builtin.append_, run_underlying hT, sizeOf, typeInfo, hi, Builtin.lenOf, hcap, hf]
    | some a =>
      have hf := run_firstCells_none (P := Try.prog) w i0.size 0 0 c'
      simp [Builtin.append_, run_underlying hT, sizeOf, typeInfo, hi, Builtin.lenOf, hcap, hf, storeCells]

/-- append as a step of a plain region. -/
theorem wpList_app (T : TypeId) (hT : Try.prog.underlying T = some (.slice 5)) {w : World} {ops : Array Oper} {rest : List Oper} {o : Oper} {a : Act} {Q : Exit → Act → World → Prop} (hgd : o.guard = none) (s x : Operand)
    (ho : o.op = .call { callee := .builtin .append, args := #[s, x], argTypes := #[T, T] }) {H : Nat} {A : Option Addr} {n c : Nat} {l : List UInt8} {A' : Option Addr} {m c' : Nat} {l' : List UInt8} (hs : a.eval s = .slice A n c) (hx : a.eval x = .slice A' m c')
    (h : Own w H A n c l) (h' : Rd w A' m c' l') (hb : H ≤ w.heap.size) (hl : n + m ≤ 140737488355328)
    (K : ∀ A2 c2 w2, Own w2 H A2 (n + m) c2 (l ++ l') → w.grownBy w2 (A.map (·.block)) → Below H w w2 → wpList Try.prog ops Q rest (a.put o.dst (.slice A2 (n + m) c2)) w2) : wpList Try.prog ops Q (o :: rest) a w := by
  obtain ⟨A2, c2, w2, hr, h2, h3, h4⟩ := run_app T o.type hT h h' hb hl
  exact Lib.wpList_append_run w hgd s x T T ho _ _ hs hx _ _ hr (K A2 c2 w2 h2 h3 h4)

/-- append as a step of a region that draws. -/
theorem step_app (T : TypeId) (hT : Try.prog.underlying T = some (.slice 5)) {w : World} {ops : Array Oper} {o : Oper} {a : Act} {KK : Act → World → Prop} {Q : Exit → Act → World → Prop} {E : Prop} (hgd : o.guard = none) (s x : Operand)
    (ho : o.op = .call { callee := .builtin .append, args := #[s, x], argTypes := #[T, T] }) {H : Nat} {A : Option Addr} {n c : Nat} {l : List UInt8} {A' : Option Addr} {m c' : Nat} {l' : List UInt8} (hs : a.eval s = .slice A n c) (hx : a.eval x = .slice A' m c')
    (h : Own w H A n c l) (h' : Rd w A' m c' l') (hb : H ≤ w.heap.size) (hl : n + m ≤ 140737488355328)
    (K : ∀ A2 c2 w2, Own w2 H A2 (n + m) c2 (l ++ l') → w.grownBy w2 (A.map (·.block)) → Below H w w2 → KK (a.put o.dst (.slice A2 (n + m) c2)) w2) : if Region.wanted o (yielded ops a.tmps) = true then Oper.wp Try.prog o a w KK Q else E := by
  have hw : Region.wanted o (yielded ops a.tmps) = true := by simp [Region.wanted, hgd]
  rw [if_pos hw]
  obtain ⟨A2, c2, w2, hr, h2, h3, h4⟩ := run_app T o.type hT h h' hb hl
  exact Lib.wp_append_run w s x T T ho _ _ hs hx _ _ hr (K A2 c2 w2 h2 h3 h4)

/-- The slice of slices with address A, length k reads as the lists ls. -/
structure RdS (w : World) (A : Option Addr) (k c : Nat) (ls : List (List UInt8)) : Prop where
  len : k = ls.length
  cap : k ≤ c
  max : c ≤ maxLen
  at_ : 0 < k → ∃ b o, A = some ⟨b, o, none⟩ ∧ ∀ j, j < k → ∃ A' n' c', w.cell? ⟨b, o + j, none⟩ = some (.slice A' n' c') ∧ Rd w A' n' c' (ls.getD j [])
theorem RdS.below {w w' : World} {A : Option Addr} {k c : Nat} {ls : List (List UInt8)} (h : RdS w A k c ls) (hb : Below w.heap.size w w') : RdS w' A k c ls :=
  ⟨h.len, h.cap, h.max, fun h0 => by
    obtain ⟨b, o, e, hc⟩ := h.at_ h0
    refine ⟨b, o, e, fun j hj => ?_⟩
    obtain ⟨A', n', c', h1, h2⟩ := hc j hj
    exact ⟨A', n', c', (hb.cell (World.block_lt_of_cell? w _ h1)).trans h1, h2.below hb⟩⟩
theorem RdS.none_ (w : World) : RdS w none 0 0 [] := ⟨rfl, Nat.le_refl _, by unfold maxLen; omega, fun h => absurd h (by omega)⟩
/-- How many bytes the first k lists have. -/
def tot (ls : List (List UInt8)) (k : Nat) : Nat := ((ls.take k).flatten).length
theorem take_flatten_succ (ls : List (List UInt8)) (k : Nat) (h : k < ls.length) : (ls.take (k + 1)).flatten = (ls.take k).flatten ++ ls.getD k [] := by
  rw [List.take_succ_eq_append_getElem h, List.flatten_append]
  simp [List.getD, List.getElem?_eq_getElem h]
theorem tot_succ (ls : List (List UInt8)) (k : Nat) (h : k < ls.length) : tot ls (k + 1) = tot ls k + (ls.getD k []).length := by
  unfold tot
  rw [take_flatten_succ ls k h, List.length_append]
theorem tot_le (ls : List (List UInt8)) (k : Nat) : tot ls k ≤ ls.flatten.length := by
  have e : ls.flatten = (ls.take k).flatten ++ (ls.drop k).flatten := by rw [← List.flatten_append, List.take_append_drop]
  unfold tot
  rw [e, List.length_append]
  omega
end Go.Proofs.Ytihbpmceggghgaa
