/- Contracts: is one of some nodes more than is played? -/
import Derived.Test.YtgihcjmcefdkiaaGrLeaf
import Derived.Test.YtgihcjmcefdkiaaHeavy
set_option linter.unusedVariables false
set_option linter.unusedSimpArgs false
namespace Go.Proofs.Ytgihcjmcefdkiaa
open Go.RowKit

theorem size_new (w : World) (o : Obj) : (w.alloc o).heap.size = w.heap.size + 1 := by simp
/-- The cells of nodes lie side by side. -/
structure RdNs (w : World) (A : Option Addr) (m c : Nat) (ess : List (List Ent)) : Prop where
  len : m = ess.length
  cap : m ≤ c
  max : c ≤ maxLen
  at_ : 0 < m → ∃ b o, A = some ⟨b, o, none⟩ ∧ ∀ j, j < m → ∃ k l A1 n1 c1, k < 256 ∧ l < 256 ∧ w.cell? ⟨b, o + j * 3, none⟩ = some (.int .u8 ((k : Nat) : Int)) ∧ w.cell? ⟨b, o + j * 3 + 1, none⟩ = some (.int .u8 ((l : Nat) : Int)) ∧
    w.cell? ⟨b, o + j * 3 + 2, none⟩ = some (.slice A1 n1 c1) ∧ RdL w A1 n1 c1 (ess.getD j [])
theorem RdNs.one {w : World} {g k l n c : Nat} {A : Option Addr} {es : List Ent} (hb : Blk w g 24 (ndA k l A n c)) (hk : k < 256) (hl : l < 256) (h : RdL w A n c es) : RdNs w (some ⟨g, 0, none⟩) 1 1 [es] :=
  ⟨rfl, Nat.le_refl _, by unfold maxLen; omega, fun _ => ⟨g, 0, rfl, fun j hj => by
    obtain rfl : j = 0 := by omega
    exact ⟨k, l, A, n, c, hk, hl, hb.cell 0, hb.cell 1, hb.cell 2, h⟩⟩⟩
theorem RdNs.two {w : World} {g k l n c : Nat} {A : Option Addr} {es : List Ent} {k' l' n' c' : Nat} {A' : Option Addr} {es' : List Ent}
    (hb : Blk w g 24 [Value.int .u8 (k : Int), .int .u8 (l : Int), .slice A n c, .int .u8 (k' : Int), .int .u8 (l' : Int), .slice A' n' c'].toArray) (hk : k < 256) (hl : l < 256) (hk' : k' < 256) (hl' : l' < 256) (h : RdL w A n c es) (h' : RdL w A' n' c' es') : RdNs w (some ⟨g, 0, none⟩) 2 2 [es, es'] :=
  ⟨rfl, Nat.le_refl _, by unfold maxLen; omega, fun _ => ⟨g, 0, rfl, fun j hj => by
    have hj2 : j = 0 ∨ j = 1 := by omega
    rcases hj2 with rfl | rfl
    · exact ⟨k, l, A, n, c, hk, hl, hb.cell 0, hb.cell 1, hb.cell 2, h⟩
    · exact ⟨k', l', A', n', c', hk', hl', hb.cell 3, hb.cell 4, hb.cell 5, h'⟩⟩⟩
theorem HOk.reach {k l : Nat} {es : List Ent} (h : HOk es) : rE k l es = 0 → 3 + (entsB k es).length ≤ 140737488355328 := fun hr => by
  have h1 := entsB_le (right_all hr) es.length (Nat.le_refl _)
  rw [List.take_length] at h1
  have := h.1
  omega
/-- A node in a variable of its own. -/
structure Nin (w : World) (g k l : Nat) (A : Option Addr) (n c : Nat) (es : List Ent) : Prop where
  blk : Blk w g 24 (ndA k l A n c)
  rd : RdL w A n c es
namespace Nin
variable {w w' : World} {g k l n c : Nat} {A : Option Addr} {es : List Ent}
theorem below (h : Nin w g k l A n c es) (hb : Below w.heap.size w w') : Nin w' g k l A n c es := ⟨h.blk.below hb h.blk.lt, h.rd.below hb⟩
theorem c0 (h : Nin w g k l A n c es) : w.cell? ⟨g, 0, none⟩ = some (.int .u8 (k : Int)) := h.blk.cell 0
theorem c1 (h : Nin w g k l A n c es) : w.cell? ⟨g, 1, none⟩ = some (.int .u8 (l : Int)) := h.blk.cell 1
theorem c2 (h : Nin w g k l A n c es) : w.cell? ⟨g, 2, none⟩ = some (.slice A n c) := h.blk.cell 2
theorem new (h : RdL w A n c es) (k l : Nat) : Nin (w.alloc (.cells #[.int .u8 (k : Int), .int .u8 (l : Int), .slice A n c] 24)) w.heap.size k l A n c es := ⟨Blk.new _ _ _, h.below (below_new1 _ _)⟩
end Nin
/-- What a node has that is played. -/
def HOk3 (es : List Ent) : Prop := HOk es ∧ es.length ≤ 300
theorem HOk3.short {es : List Ent} (h : HOk3 es) : shortE es := fun j hj => ⟨by have := (h.1.2 j hj).1; omega, by have := (h.1.2 j hj).2; omega⟩
def HeavyLP (ess : List (List Ent)) (w : World) (e : Ending) (w' : World) : Prop := ∃ b : Bool, e = .returned (.bool b) ∧ (b = false → ∀ j, j < ess.length → HOk3 (ess.getD j [])) ∧ Below w.heap.size w w'
theorem HeavyLP.yes {ess : List (List Ent)} {w w' : World} (h : Below w.heap.size w w') : HeavyLP ess w (.returned (.bool true)) w' := ⟨true, rfl, (fun e => by cases e), h⟩
theorem HeavyLP.no {ess : List (List Ent)} {w w' : World} (h : Below w.heap.size w w') (ho : ∀ j, j < ess.length → HOk3 (ess.getD j [])) : HeavyLP ess w (.returned (.bool false)) w' := ⟨false, rfl, fun _ => ho, h⟩
set_option maxRecDepth 100000 in
set_option maxHeartbeats 1600000 in
theorem lheavy_any (A : Option Addr) (m c : Nat) (ess : List (List Ent)) (w : World) (h : RdNs w A m c ess) :
    Calls Try.prog 12 #[.slice A m c] w (HeavyLP ess w) := by
  have hcap := h.cap
  have hmax := h.max
  unfold maxLen at hmax
  have HLn := Lib.hid h.len
  have HR := Lib.hid h
  clear h
  go_enter Try.func12, Try.ntmps12
  go_wp2_with fail
  go_loopw [6] (fun z wr => ∃ i : Nat, i ≤ m ∧ z = .int .i64 (i : Int) ∧ (∀ j, j < i → HOk3 (ess.getD j [])) ∧ Below w.heap.size w wr) (fun z _ => m - (intOf z).toNat)
  case atStart => exact ⟨0, Nat.zero_le _, rfl, fun j hj => absurd hj (by omega), Below.refl _ _⟩
  case round =>
    obtain ⟨i, hi, rfl, hall, hbel⟩ := hrel
    have HALL := Lib.hid hall
    have HBE := Lib.hid hbel
    have hbs := hbel.size
    clear hall hbel
    by_cases hlt : i < m
    · obtain ⟨b, o, rfl, hc⟩ := HR.out.at_ (by omega)
      obtain ⟨k, l, A1, n1, c1, hk, hl, e0, e1, e2, hrl⟩ := hc i hlt
      have d0 := (HBE.out.cell (World.block_lt_of_cell? w _ e0)).trans e0
      have d1 := (HBE.out.cell (World.block_lt_of_cell? w _ e1)).trans e1
      have d2 := (HBE.out.cell (World.block_lt_of_cell? w _ e2)).trans e2
      have hbl := World.block_lt_of_cell? w _ e2
      have HRL := Lib.hid (hrl.below HBE.out)
      have m1 := hrl.cap
      have m2 := hrl.max
      unfold maxLen at m2
      have HN := Lib.hid hrl.len
      have HM := Lib.hid (heavy_any k l A1 n1 c1 (ess.getD i []) wr HRL.out hk hl)
      have HB2 := Lib.hid e2
      have i1 : (0 : Int) ≤ (i : Int) := by omega
      have i2 : (i : Int) < (m : Int) := by omega
      clear hc e0 e1 e2 hrl
      go_wp2_with fail
      refine HM.out.mono ?_
      rintro e w2 ⟨q, rfl, hq, hb2⟩
      have HQ := Lib.hid hq
      have HW2 : Hid (Below w.heap.size w w2) := HBE.out.trans (hb2.mono hbs)
      clear hq hb2 d0 d1 d2
      have d2 := (HW2.out.cell hbl).trans HB2.out
      cases q with
      | true =>
        go_wp2_with fail
        go_ret
        exact HeavyLP.yes HW2.out
      | false =>
        by_cases h3 : 300 < n1
        · have hd : decide ((n1 : Int) > 300) = true := decide_eq_true (by omega)
          go_wp2_with fail
          go_ret
          exact HeavyLP.yes HW2.out
        · have hd : decide ((n1 : Int) > 300) = false := decide_eq_false (by omega)
          have HA2 : Hid (∀ j, j < i + 1 → HOk3 (ess.getD j [])) := fun j hj => by
            by_cases e : j = i
            · subst e; exact ⟨HQ.out rfl, by rw [← HN.out]; omega⟩
            · exact HALL.out j (by omega)
          go_wp2_with fail
          go_roundw
          case rel => exact ⟨i + 1, by omega, by go_num, HA2.out, HW2.out⟩
          case measure => first | (simp [intOf]; done) | (simp [intOf]; omega)
    · obtain rfl : i = m := by omega
      have HO : Hid (∀ j, j < ess.length → HOk3 (ess.getD j [])) := by rw [← HLn.out]; exact HALL.out
      clear hlt hi
      go_wp2_with fail
      go_ret
      exact HeavyLP.no HBE.out HO.out
end Go.Proofs.Ytgihcjmcefdkiaa
