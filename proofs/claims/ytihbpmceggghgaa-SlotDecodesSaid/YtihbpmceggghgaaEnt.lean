/- Entries of nodes in memory: words. -/
import Derived.Test.YtihbpmceggghgaaEntP
import Derived.Test.YtihbpmceggghgaaSlc
import Derived.Test.YtihbpmceggghgaaArr
set_option linter.unusedVariables false
set_option linter.unusedSimpArgs false
namespace Go.Proofs.Ytihbpmceggghgaa
open Go.RowKit

abbrev rfC (r : Rf) : List Value := [.int .u32 (r.1 : Int), .int .u64 (r.2.1 : Int), .int .u16 (r.2.2 : Int)]
abbrev RfV (r : Rf) : Value := .agg #[.int .u32 (r.1 : Int), .int .u64 (r.2.1 : Int), .int .u16 (r.2.2 : Int)]
/-- An entry's cells. -/
abbrev enC (A : Option Addr) (n c : Nat) (A' : Option Addr) (n' c' : Nat) (L : Int) (r s : Rf) : List Value :=
  [.slice A n c, .slice A' n' c', .int .i64 L, .int .u32 (r.1 : Int), .int .u64 (r.2.1 : Int), .int .u16 (r.2.2 : Int), .int .u32 (s.1 : Int), .int .u64 (s.2.1 : Int), .int .u16 (s.2.2 : Int)]
abbrev EnV (A : Option Addr) (n c : Nat) (A' : Option Addr) (n' c' : Nat) (L : Int) (r s : Rf) : Value :=
  .agg #[.slice A n c, .slice A' n' c', .int .i64 L, .int .u32 (r.1 : Int), .int .u64 (r.2.1 : Int), .int .u16 (r.2.2 : Int), .int .u32 (s.1 : Int), .int .u64 (s.2.1 : Int), .int .u16 (s.2.2 : Int)]
abbrev NdV (k l : Nat) (A : Option Addr) (n c : Nat) : Value := .agg #[.int .u8 (k : Int), .int .u8 (l : Int), .slice A n c]
def i64In (x : Int) : Prop := -9223372036854775808 ≤ x ∧ x ≤ 9223372036854775807
/-- The cells of an entry lie in block b from o on. -/
structure EAt (w : World) (b o : Nat) (A : Option Addr) (n c : Nat) (A' : Option Addr) (n' c' : Nat) (L : Int) (r s : Rf) : Prop where
  c0 : w.cell? ⟨b, o, none⟩ = some (.slice A n c)
  c1 : w.cell? ⟨b, o + 1, none⟩ = some (.slice A' n' c')
  c2 : w.cell? ⟨b, o + 2, none⟩ = some (.int .i64 L)
  c3 : w.cell? ⟨b, o + 3, none⟩ = some (.int .u32 (r.1 : Int))
  c4 : w.cell? ⟨b, o + 4, none⟩ = some (.int .u64 (r.2.1 : Int))
  c5 : w.cell? ⟨b, o + 5, none⟩ = some (.int .u16 (r.2.2 : Int))
  c6 : w.cell? ⟨b, o + 6, none⟩ = some (.int .u32 (s.1 : Int))
  c7 : w.cell? ⟨b, o + 7, none⟩ = some (.int .u64 (s.2.1 : Int))
  c8 : w.cell? ⟨b, o + 8, none⟩ = some (.int .u16 (s.2.2 : Int))
theorem EAt.lt {w : World} {b o : Nat} {A : Option Addr} {n c : Nat} {A' : Option Addr} {n' c' : Nat} {L : Int} {r s : Rf} (h : EAt w b o A n c A' n' c' L r s) : b < w.heap.size := World.block_lt_of_cell? w _ h.c0
theorem EAt.keep {w w' : World} {b o : Nat} {A : Option Addr} {n c : Nat} {A' : Option Addr} {n' c' : Nat} {L : Int} {r s : Rf} (h : EAt w b o A n c A' n' c' L r s) (hk : w'.heap[b]? = w.heap[b]?) : EAt w' b o A n c A' n' c' L r s :=
  have k : ∀ i, w'.cell? ⟨b, i, none⟩ = w.cell? ⟨b, i, none⟩ := fun i => World.cell?_of_block (a := ⟨b, i, none⟩) hk
  ⟨(k _).trans h.c0, (k _).trans h.c1, (k _).trans h.c2, (k _).trans h.c3, (k _).trans h.c4, (k _).trans h.c5, (k _).trans h.c6, (k _).trans h.c7, (k _).trans h.c8⟩
theorem EAt.below {w w' : World} {b o : Nat} {A : Option Addr} {n c : Nat} {A' : Option Addr} {n' c' : Nat} {L : Int} {r s : Rf} (h : EAt w b o A n c A' n' c' L r s) (hb : Below w.heap.size w w') : EAt w' b o A n c A' n' c' L r s :=
  h.keep (hb.block b h.lt)
/-- The slice of entries with address A, length k reads as es. -/
structure RdL (w : World) (A : Option Addr) (k c : Nat) (es : List Ent) : Prop where
  len : k = es.length
  cap : k ≤ c
  max : c ≤ maxLen
  at_ : 0 < k → ∃ b o, A = some ⟨b, o, none⟩ ∧ ∀ j, j < k → ∃ A1 n1 c1 A2 n2 c2, EAt w b (o + j * 9) A1 n1 c1 A2 n2 c2 (es.getD j ent0).len (es.getD j ent0).chain (es.getD j ent0).child ∧
    Rd w A1 n1 c1 (es.getD j ent0).key ∧ Rd w A2 n2 c2 (es.getD j ent0).val
/-- The numbers of entries are in range. -/
def entIn (x : Ent) : Prop := i64In x.len ∧ rfIn x.chain ∧ rfIn x.child
def esIn (es : List Ent) : Prop := ∀ j, j < es.length → entIn (es.getD j ent0)
theorem RdL.below {w w' : World} {A : Option Addr} {k c : Nat} {es : List Ent} (h : RdL w A k c es) (hb : Below w.heap.size w w') : RdL w' A k c es :=
  ⟨h.len, h.cap, h.max, fun h0 => by
    obtain ⟨b, o, e, hc⟩ := h.at_ h0
    refine ⟨b, o, e, fun j hj => ?_⟩
    obtain ⟨A1, n1, c1, A2, n2, c2, h1, h2, h3⟩ := hc j hj
    exact ⟨A1, n1, c1, A2, n2, c2, h1.below hb, h2.below hb, h3.below hb⟩⟩
theorem RdL.nil (w : World) : RdL w none 0 0 [] := ⟨rfl, Nat.le_refl _, by unfold maxLen; omega, fun h => absurd h (by omega)⟩
theorem RdL.ent {w : World} {A : Option Addr} {k c : Nat} {es : List Ent} (h : RdL w A k c es) (j : Nat) (hj : j < k) (x : Ent) (hx : es.getD j ent0 = x) :
    ∃ b o A1 n1 c1 A2 n2 c2, A = some ⟨b, o, none⟩ ∧ EAt w b (o + j * 9) A1 n1 c1 A2 n2 c2 x.len x.chain x.child ∧ Rd w A1 n1 c1 x.key ∧ Rd w A2 n2 c2 x.val := by
  obtain ⟨b, o, e, hc⟩ := h.at_ (by omega)
  obtain ⟨A1, n1, c1, A2, n2, c2, h1, h2, h3⟩ := hc j hj
  rw [hx] at h1 h2 h3
  exact ⟨b, o, A1, n1, c1, A2, n2, c2, e, h1, h2, h3⟩
end Go.Proofs.Ytihbpmceggghgaa
