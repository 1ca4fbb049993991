/-
  Words for memory that all proofs of this seat share: a slice of bytes that reads as a list ('Rd'), a row of the call's own ('ownsRow') as such a slice; small laws on both. No program in sight.
-/
import Derived.WalkKit
import Derived.ProofKit
import Derived.OpenShut
import Derived.ShutString
import Derived.ChangeOld
import Derived.Below
import Derived.Lib.Hide
import Derived.Laws.CopyOwn
import Derived.Laws.BytesArg
import Derived.Deep.Draws
import Derived.Laws.OwnMore
import Derived.Laws.Rows
set_option linter.unusedVariables false
set_option linter.unusedSimpArgs false
namespace Go.Proofs.Ytihbpmceggghgaa
open Go.RowKit

/-- A byte as a value. -/
abbrev B8 (x : UInt8) : Value := .int .u8 (x.toNat : Int)

/-- The slice value with address A, length n, capacity c reads as the bytes l. -/
structure Rd (w : World) (A : Option Addr) (n c : Nat) (l : List UInt8) : Prop where
  len : n = l.length
  cap : n ≤ c
  max : c ≤ maxLen
  at_ : 0 < n → ∃ b o, A = some ⟨b, o, none⟩ ∧ ∀ j, j < n → w.cell? ⟨b, o + j, none⟩ = some (B8 (l.getD j 0))

/-- Byte k, under a name of its own: its cell, its bounds; what it is stays hidden. -/
theorem Rd.cellx {w : World} {b o n : Nat} {l : List UInt8} (hc : Hid (∀ j, j < n → w.cell? ⟨b, o + j, none⟩ = some (B8 (l.getD j 0)))) (k : Nat) (hk : k < n) :
    ∃ x : UInt8, Hid (l.getD k 0 = x) ∧ w.cell? ⟨b, o + k, none⟩ = some (.int .u8 (x.toNat : Int)) ∧ x.toNat ≤ 255 :=
  ⟨_, rfl, hc.out k hk, by have := (l.getD k 0).toNat_lt; omega⟩

theorem Rd.keep {w w' : World} {A : Option Addr} {n c : Nat} {l : List UInt8} (h : Rd w A n c l) (hk : ∀ (p : Addr) u, w.cell? p = some u → w'.cell? p = some u) : Rd w' A n c l :=
  ⟨h.len, h.cap, h.max, fun hn => by
    obtain ⟨b, o, e, hc⟩ := h.at_ hn
    exact ⟨b, o, e, fun j hj => hk _ _ (hc j hj)⟩⟩
theorem Rd.below {w w' : World} {A : Option Addr} {n c : Nat} {l : List UInt8} (h : Rd w A n c l) (hb : Below w.heap.size w w') : Rd w' A n c l :=
  h.keep fun p u hu => (hb.cell (World.block_lt_of_cell? w p hu)).trans hu

theorem Rd.none_ (w : World) : Rd w none 0 0 [] := ⟨rfl, Nat.le_refl _, by unfold maxLen; omega, fun h => absurd h (by omega)⟩

theorem Rd.of_own {w : World} {base : Nat} {e : TypeId} {A : Option Addr} {n c : Nat} {l : List UInt8} (h : w.ownsRow base e 1 (.slice A n c) n (l.map B8)) : Rd w A n c l := by
  have hl : n = l.length := by have := h.1; simpa using this.symm
  rcases h.2 with ⟨hv, hn⟩ | ⟨g, cap, cur, hv, _, hg, hnc, hmax, hs, ht⟩
  · injection hv with h1 h2 h3
    subst h1; subst h3
    exact ⟨hl, by omega, by unfold maxLen; omega, fun h => absurd h (by omega)⟩
  · injection hv with h1 h2 h3
    subst h1; subst h3
    refine ⟨hl, hnc, hmax, fun hn => ⟨g, 0, rfl, fun j hj => ?_⟩⟩
    have := h.cells (g := g) rfl j (B8 (l.getD j 0)) (by
      simp [List.getElem?_map, List.getD, List.getElem?_eq_getElem (show j < l.length by omega)])
    rw [Addr.add_lit] at this
    exact this

theorem str_eq_iff (l l' : List UInt8) : (l == l') = decide (l = l') := by
  by_cases h : l = l' <;> simp [h]

/-- string(b): the letters. -/
theorem Rd.str {P : Program} {w : World} {A : Option Addr} {n c : Nat} {l : List UInt8} (h : Rd w A n c l) (src e dst : TypeId)
    (hs : P.underlying src = some (.slice e)) (he : P.underlying e = some (.int .u8)) (hd : P.underlying dst = some .string) :
    (convert src dst (.slice A n c)).run P w = .ok (.string ⟨l.toArray⟩) w := by
  have hlen := h.len
  rcases Nat.eq_zero_or_pos n with h0 | h0
  · subst h0
    have : l = [] := List.eq_nil_of_length_eq_zero h.len.symm
    subst this
    cases A with
    | none =>
      exact run_convert_bytes_nil (P := P) w src e hs he 0 c dst hd
    | some a =>
      rw [run_convert_bytes_string w src dst e _ 0 c hs he hd, run_bytesToString w a 0 c [] (by simp [loadCells, loadCellsFrom])]
      rfl
  · obtain ⟨b, o, rfl, hc⟩ := h.at_ h0
    have := run_convert_bytes_arg (P := P) w src e hs he b o n c (l.map fun x => (x.toNat : Int)) (by simpa using hlen.symm)
      (fun i hi => by
        rw [hc i hi]
        simp [List.getD, List.getElem?_eq_getElem (show i < l.length by omega)]) dst hd
    rw [this]
    have e : List.map ((fun n : Int => UInt8.ofNat n.toNat) ∘ fun x : UInt8 => (x.toNat : Int)) l = l := by
      have : ((fun n : Int => UInt8.ofNat n.toNat) ∘ fun x : UInt8 => (x.toNat : Int)) = id := by funext x; simp
      rw [this, List.map_id]
    simp [strOfNums, e]

theorem Rd.lt {w : World} {b o n c : Nat} {l : List UInt8} (h : Rd w (some ⟨b, o, none⟩) n c l) (h0 : 0 < n) : b < w.heap.size := by
  obtain ⟨b', o', e, hc⟩ := h.at_ h0
  injection e with e; injection e with e1 e2; subst e1
  exact World.block_lt_of_cell? w _ (hc 0 h0)

/-- The new row of a make, as bytes. -/
theorem made_bytes (n : Nat) : (madeCells (Value.int .u8 0).cells (n * 1)).toList = (List.replicate n (0 : UInt8)).map B8 := by
  have : (Value.int .u8 0).cells = #[Value.int .u8 0] := rfl
  rw [this, Nat.mul_one, toList_madeCells_one, List.map_replicate]
  rfl

/-- A row of bytes of the call's own, stored into at place j. -/
theorem own_set {w : World} {base : Nat} {e : TypeId} {g n cap : Nat} {l : List UInt8} (h : w.ownsRow base e 1 (.slice (some ⟨g, 0, none⟩) n cap) n (l.map B8)) (j : Nat) (x : UInt8) :
    (w.setCell ⟨g, j, none⟩ (B8 x)).ownsRow base e 1 (.slice (some ⟨g, 0, none⟩) n cap) n ((l.set j x).map B8) := by
  have := (h.stored j (B8 x)).1
  rw [List.map_set]
  exact this
theorem own_cell {w : World} {base : Nat} {e : TypeId} {g n cap : Nat} {l : List UInt8} (h : w.ownsRow base e 1 (.slice (some ⟨g, 0, none⟩) n cap) n (l.map B8)) (j : Nat) (hj : j < n) :
    w.cell? ⟨g, j, none⟩ = some (B8 (l.getD j 0)) := by
  rw [h.cellAt j (by omega)]
  have hl : n = l.length := by have := h.1; simpa using this.symm
  simp [List.getD, List.getElem?_eq_getElem (show j < l.length by omega)]
theorem own_base {w : World} {base : Nat} {e : TypeId} {g n cap size : Nat} {l : List Value} (h : w.ownsRow base e size (.slice (some ⟨g, 0, none⟩) n cap) n l) : base ≤ g ∧ g < w.heap.size :=
  h.lt g rfl

theorem own_of_heap {w : World} {base g n cap : Nat} {e : TypeId} {cur : List Value} {l : List UInt8} (hg : w.heap[g]? = some (.cells cur.toArray e (0, 0))) (hb : base ≤ g) (hn : n ≤ cap) (hm : cap ≤ maxLen)
    (hs : cur.length = cap) (ht : cur.take n = l.map B8) (hl : n = l.length) : w.ownsRow base e 1 (.slice (some ⟨g, 0, none⟩) n cap) n (l.map B8) :=
  ⟨by simp [hl], .inr ⟨g, cap, cur.toArray, rfl, hb, hg, hn, hm, by simp [hs], by simpa using ht⟩⟩
/-- make([]T, n, c), n at most c: an equation for every world. -/
theorem run_make_rowN {P : Program} (t e : TypeId) (i : TypeInfo) (z : Value) (ht : P.underlying t = some (.slice e)) (hi : P.info? e = some i) (hz : i.zero = some z)
    (kl kc : IntKind) (n c : Nat) (hnc : n ≤ c) (hbytes : i.bytes * c ≤ 281474976710656) (h63 : c ≤ 9223372036854775807) (w : World) :
    (Instr.makeSlice t (.int kl (n : Int)) (.int kc (c : Int))).run P w = .ok (.slice (some ⟨w.heap.size, 0, none⟩) n c) (w.alloc (.cells (madeCells z.cells (c * i.size)) e)) := by
  have hb : (i.bytes : Int) * (c : Int) ≤ 281474976710656 := by
    have h : ((i.bytes * c : Nat) : Int) ≤ 281474976710656 := by omega
    rwa [Int.natCast_mul] at h
  have hr := run_make (P := P) w t e i z ht hi hz kl kc n c (by omega) (by omega) hb (by omega)
  simp only [Int.toNat_natCast] at hr
  exact hr

theorem news_new (w : World) (cs : List Value) (e : TypeId) : ∀ j u, cs[j]? = some u → (w.alloc (.cells cs.toArray e)).cell? ((⟨w.heap.size, 0, none⟩ : Addr).add j) = some u := by
  intro j u hj
  rw [Addr.add_lit, Nat.zero_add, cell_of_row _ _ _ _ _ _ (heap_alloc_new w _)]
  simpa using hj
theorem below_drewN {B : Nat} {a w : World} (h : Below B a w) (n : Nat) : Below B a (w.drewN n) := ⟨h.os, h.tape, h.output, h.size, h.block⟩
/-- Letter k of a text, under a name of its own. -/
theorem str_index {P : Program} (t : TypeId) (ht : P.underlying t = some .string) (s : ByteArray) (k : Nat) (z : Int) (hz : z = (k : Int)) (hk : k < s.size) (x : UInt8) (hx : s.data.toList.getD k 0 = x) :
    ∀ W : World, (Instr.index t (.string s) (.int .i64 z)).run P W = .ok (.int .u8 (x.toNat : Int)) W := by
  intro W
  subst hz
  have hk' : k < s.data.size := hk
  have e : s[k]'hk = x := by
    rw [← hx]
    rw [List.getD_eq_getElem?_getD, List.getElem?_eq_getElem (by simpa using hk')]
    rfl
  simp [Instr.index, run_underlying ht, asIntOf, hk, e]
theorem Rd.take_ {w : World} {A : Option Addr} {n c : Nat} {l : List UInt8} (h : Rd w A n c l) (m : Nat) (hm : m ≤ n) : Rd w A m c (l.take m) :=
  ⟨by rw [List.length_take, ← h.len]; omega, Nat.le_trans hm h.cap, h.max, fun h0 => by
    obtain ⟨b, o, e, hc⟩ := h.at_ (by omega)
    refine ⟨b, o, e, fun j hj => ?_⟩
    rw [hc j (by omega)]
    have hl : j < l.length := by rw [← h.len]; omega
    simp [List.getD, List.getElem?_take, hj]⟩
theorem own_below {w w' : World} {base : Nat} {e : TypeId} {size : Nat} {v : Value} {n : Nat} {xs : List Value} (h : w.ownsRow base e size v n xs) (hb : Below w.heap.size w w') : w'.ownsRow base e size v n xs :=
  h.kept (row := none) ⟨hb.os, hb.tape, hb.output, hb.size, fun k hk _ => hb.block k hk⟩ (by cases v.ownBlock <;> simp)
/-- The same world, but for draws. -/
def Drawn (w w' : World) : Prop := ∃ m, w' = w.drewN m
theorem Drawn.refl (w : World) : Drawn w w := ⟨0, rfl⟩
theorem Drawn.of {w : World} (m : Nat) : Drawn w (w.drewN m) := ⟨m, rfl⟩
theorem Drawn.trans {a b c : World} (h : Drawn a b) (k : Drawn b c) : Drawn a c := by
  obtain ⟨m, rfl⟩ := h
  obtain ⟨n, rfl⟩ := k
  exact ⟨m + n, by rw [World.drewN_drewN]⟩
theorem Drawn.below {w w' : World} (h : Drawn w w') : Below w.heap.size w w' := by
  obtain ⟨m, rfl⟩ := h
  exact below_drewN (Below.refl _ _) m
/-- Block g is just the cells cs of element type t, none frozen. -/
def Blk (w : World) (g : Nat) (t : TypeId) (cs : Array Value) : Prop := w.heap[g]? = some (.cells cs t (0, 0))
section
variable {w w' : World} {g : Nat} {t : TypeId} {cs : Array Value}
theorem Blk.lt (h : Blk w g t cs) : g < w.heap.size := by
  rcases Nat.lt_or_ge g w.heap.size with hlt | hge
  · exact hlt
  · unfold Blk at h; rw [Array.getElem?_eq_none hge] at h; cases h
theorem Blk.cell (h : Blk w g t cs) (i : Nat) : w.cell? ⟨g, i, none⟩ = cs[i]? := cell_of_row w g i cs t (0, 0) h
theorem Blk.frozen (h : Blk w g t cs) (i : Nat) : w.frozen? ⟨g, i, none⟩ = false := by
  unfold Blk at h
  simp [World.frozen?, h]
theorem Blk.new (w : World) (t : TypeId) (cs : Array Value) : Blk (w.alloc (.cells cs t)) w.heap.size t cs := heap_alloc_new w _
theorem Blk.new' (w : World) (t : TypeId) (cs : Array Value) (H : Nat) (hH : w.heap.size = H) : Blk (w.alloc (.cells cs t)) H t cs := by subst hH; exact Blk.new w t cs
theorem Blk.drew (h : Blk w g t cs) : Blk w.drew g t cs := h
theorem Blk.drewN (h : Blk w g t cs) (n : Nat) : Blk (w.drewN n) g t cs := h
theorem Blk.alloc (h : Blk w g t cs) (o : Obj) : Blk (w.alloc o) g t cs := (Below.heap_alloc w o g h.lt).trans h
theorem Blk.set_ (h : Blk w g t cs) (i : Nat) (u : Value) : Blk (w.setCell ⟨g, i, none⟩ u) g t (cs.setIfInBounds i u) := by
  unfold Blk at h ⊢
  simp [World.setCell, Array.getElem?_modify, h]
theorem Blk.far (h : Blk w g t cs) {p : Addr} (hp : g ≠ p.block) (u : Value) : Blk (w.setCell p u) g t cs := (Below.heap_setCell w p u g hp).trans h
theorem Blk.below {B : Nat} (h : Blk w g t cs) (hb : Below B w w') (hg : g < B) : Blk w' g t cs := (hb.block g hg).trans h
end
end Go.Proofs.Ytihbpmceggghgaa
