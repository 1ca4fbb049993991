/- Rows of slice values of the call's own. -/
import Derived.Test.YtbfcpapibenndaaChF
set_option linter.unusedVariables false
namespace Go.Proofs.Ytbfcpapibenndaa
open Go.RowKit

theorem infoSl : (Try.prog.info? 27).map (fun i => (i.zero, i.size, i.bytes)) = some (some (.slice none 0 0), 1, 24) := by kernel_rfl
/-- A row of slice values of the call's own. -/
def OwnV (w : World) (H : Nat) (A : Option Addr) (n c : Nat) (vs : List Value) : Prop := w.ownsRow H 27 1 (.slice A n c) n vs
/-- Slice values, each one a cell. -/
def AllSl (vs : List Value) : Prop := ∀ v ∈ vs, v.oneCell' = true
section
variable {w w' : World} {H : Nat} {A : Option Addr} {n c : Nat} {vs : List Value}
theorem OwnV.len (h : OwnV w H A n c vs) : n = vs.length := by have := h.1; simpa using this.symm
theorem OwnV.cap (h : OwnV w H A n c vs) : n ≤ c ∧ c ≤ maxLen := by
  rcases h.2 with ⟨hv, hn⟩ | ⟨g, cap, cur, hv, _, _, h1, h2, _⟩
  · injection hv with _ _ h3; subst h3; exact ⟨by omega, by unfold maxLen; omega⟩
  · injection hv with _ _ h3; subst h3; exact ⟨h1, h2⟩
theorem OwnV.below (h : OwnV w H A n c vs) (hb : Below w.heap.size w w') : OwnV w' H A n c vs := own_below h hb
theorem OwnV.alloc (h : OwnV w H A n c vs) (o : Obj) : OwnV (w.alloc o) H A n c vs := World.ownsRow.alloc h o
theorem OwnV.mono {H' : Nat} (h : OwnV w H A n c vs) (hH : H' ≤ H) : OwnV w H' A n c vs :=
  ⟨h.1, h.2.imp id fun ⟨g, cap, cur, hv, hb, r⟩ => ⟨g, cap, cur, hv, Nat.le_trans hH hb, r⟩⟩
theorem OwnV.nil (w : World) (H : Nat) : OwnV w H none 0 0 [] := World.ownsRow_nil w H _ 1
theorem OwnV.kept {row : Option Nat} (h : OwnV w H A n c vs) (hg : w.grownBy w' row) (hne : ∀ a, A = some a → some a.block ≠ row) : OwnV w' H A n c vs :=
  World.ownsRow.kept h hg (by
    cases A with
    | none => exact .inl rfl
    | some a => exact .inr (hne a rfl))
theorem OwnV.lt (h : OwnV w H A n c vs) : ∀ a, A = some a → a.block < w.heap.size := fun a ha => by
  subst ha; exact (World.ownsRow.lt h _ rfl).2
theorem OwnV.ge (h : OwnV w H A n c vs) : ∀ a, A = some a → H ≤ a.block := fun a ha => by
  subst ha; exact (World.ownsRow.lt h _ rfl).1
theorem OwnV.split (h : OwnV w H A n c vs) (hn : 0 < n) : ∃ g, A = some ⟨g, 0, none⟩ ∧ H ≤ g := by
  rcases h.2 with ⟨hv, h0⟩ | ⟨g, cap, cur, hv, hb, _⟩
  · omega
  · injection hv with h1 h2 h3
    exact ⟨g, h1, hb⟩
end
theorem OwnV.cell {w : World} {H g n c : Nat} {vs : List Value} (h : OwnV w H (some ⟨g, 0, none⟩) n c vs) (j : Nat) (v : Value) (hv : vs[j]? = some v) : w.cell? ⟨g, j, none⟩ = some v := by
  have hj : j < n := by rw [h.len]; exact (List.getElem?_eq_some_iff.1 hv).1
  rw [World.ownsRow.cellAt h j (by omega)]
  exact hv
/-- append of one slice value, which lies in a block of its own. -/
theorem wpList_appV (T : TypeId) (hT : Try.prog.underlying T = some (.slice 27)) {w : World} {ops : Array Oper} {rest : List Oper} {o : Oper} {a : Act} {Q : Exit → Act → World → Prop} (hgd : o.guard = none) (s x : Operand)
    (ho : o.op = .call { callee := .builtin .append, args := #[s, x], argTypes := #[T, T] }) {H : Nat} {A : Option Addr} {n c : Nat} {vs : List Value} {g : Nat} {v : Value} (hs : a.eval s = .slice A n c) (hx : a.eval x = .slice (some ⟨g, 0, none⟩) 1 1)
    (h : OwnV w H A n c vs) (hv : w.cell? ⟨g, 0, none⟩ = some v) (h1 : v.oneCell' = true) (hb : H ≤ w.heap.size) (hl : n + 1 ≤ 1000000)
    (K : ∀ A2 c2 w2, OwnV w2 H A2 (n + 1) c2 (vs ++ [v]) → w.grownBy w2 (A.map (·.block)) → Below H w w2 → wpList Try.prog ops Q rest (a.put o.dst (.slice A2 (n + 1) c2)) w2) : wpList Try.prog ops Q (o :: rest) a w := by
  obtain ⟨i0, hi, hz0, hz1, hz2⟩ := info_parts infoSl
  have hrow : Value.ownBlock (.slice A n c) = A.map (·.block) := by cases A <;> rfl
  obtain ⟨v', w2, hr, h2, h3, _⟩ := run_append_own (P := Try.prog) w H T o.type 27 i0 (.slice none 0 0) 1 24 hT hi hz0 hz1 hz2 rfl (by decide) (.slice A n c) n vs h ⟨g, 0, none⟩ 1 1 [v] rfl (fun j u hj => by
    cases j with
    | zero =>
      simp only [List.getElem?_cons_zero, Option.some.injEq] at hj
      subst hj
      rw [Addr.add_lit]
      exact hv
    | succ j => simp at hj) (by simpa using h1) (by unfold maxLen; omega) (by omega) hb
  obtain ⟨A2, c2, rfl⟩ := own_form h2
  exact Lib.wpList_append_run w hgd s x T T ho _ _ hs hx _ _ hr (K A2 c2 w2 h2 (by rw [← hrow]; exact h3) ((Below.refl _ _).grown h3 hb fun k hk => (World.ownsRow.lt h k hk).1))
end Go.Proofs.Ytbfcpapibenndaa
