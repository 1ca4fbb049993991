/- The variables of slot.Decode in memory; its smallest closures. -/
import Derived.Test.YtihbpmceggghgaaDecT
import Derived.Test.YtihbpmceggghgaaRegU
import Derived.Shelf.Abstract
set_option linter.unusedVariables false
set_option linter.unusedSimpArgs false
namespace Go.Proofs.Ytihbpmceggghgaa
open Go.RowKit

theorem Rd.blk {w w' : World} {A : Option Addr} {n c : Nat} {l : List UInt8} (h : Rd w A n c l) (hk : ∀ a, A = some a → w'.heap[a.block]? = w.heap[a.block]?) : Rd w' A n c l :=
  ⟨h.len, h.cap, h.max, fun hn => by
    obtain ⟨b, o, e, hc⟩ := h.at_ hn
    exact ⟨b, o, e, fun j hj => (World.cell?_of_block (a := ⟨b, o + j, none⟩) (show w'.heap[b]? = w.heap[b]? from hk _ e)).trans (hc j hj)⟩⟩
/-- What lay in w lies in w', but for place and fault. -/
structure Fr (H : Nat) (w w' : World) : Prop where
  os : w'.os = w.os
  tape : w'.tape = w.tape
  output : w'.output = w.output
  size : w.heap.size ≤ w'.heap.size
  block : ∀ k, k < w.heap.size → k ≠ H + 2 → k ≠ H + 3 → w'.heap[k]? = w.heap[k]?
theorem Fr.refl (H : Nat) (w : World) : Fr H w w := ⟨rfl, rfl, rfl, Nat.le_refl _, fun _ _ _ _ => rfl⟩
theorem Fr.trans {H : Nat} {a b c : World} (h : Fr H a b) (k : Fr H b c) : Fr H a c :=
  ⟨k.os.trans h.os, k.tape.trans h.tape, k.output.trans h.output, Nat.le_trans h.size k.size, fun i hi h2 h3 => (k.block i (Nat.lt_of_lt_of_le hi h.size) h2 h3).trans (h.block i hi h2 h3)⟩
theorem Fr.of {H : Nat} {w w' : World} (h : Below w.heap.size w w') : Fr H w w' := ⟨h.os, h.tape, h.output, h.size, fun k hk _ _ => h.block k hk⟩
/-- A change to place or fault, or to what came after w. -/
theorem Fr.set_ {H : Nat} {a w : World} (h : Fr H a w) {p : Addr} (hp : p.block = H + 2 ∨ p.block = H + 3 ∨ a.heap.size ≤ p.block) (u : Value) : Fr H a (w.setCell p u) :=
  ⟨h.os, h.tape, h.output, by simpa [World.setCell] using h.size, fun k hk h2 h3 => (Below.heap_setCell w p u k (by omega)).trans (h.block k hk h2 h3)⟩
theorem Fr.alloc {H : Nat} {a w : World} (h : Fr H a w) (o : Obj) : Fr H a (w.alloc o) := h.trans (Fr.of (below_new1 _ _))
theorem Fr.below {H B : Nat} {a w : World} (h : Fr H a w) (hB : B ≤ H + 2) (ha : B ≤ a.heap.size) : Below B a w := ⟨h.os, h.tape, h.output, h.size, fun k hk => h.block k (by omega) (by omega) (by omega)⟩
theorem Blk.fr {H g : Nat} {w w' : World} {t : TypeId} {cs : Array Value} (h : Blk w g t cs) (hf : Fr H w w') (h2 : g ≠ H + 2) (h3 : g ≠ H + 3) : Blk w' g t cs := (hf.block g h.lt h2 h3).trans h
theorem own_fr {H : Nat} {w w' : World} {base : Nat} {e : TypeId} {size : Nat} {v : Value} {n : Nat} {xs : List Value} (h : w.ownsRow base e size v n xs) (hf : Fr H w w') (hb : H + 4 ≤ base) : w'.ownsRow base e size v n xs :=
  ⟨h.1, h.2.imp id fun ⟨g, cap, cur, hv, hg, hh, r⟩ => ⟨g, cap, cur, hv, hg, (Blk.fr (g := g) hh hf (by omega) (by omega)), r⟩⟩
theorem Own.fr {H K n c : Nat} {w w' : World} {A : Option Addr} {l : List UInt8} (h : Own w K A n c l) (hf : Fr H w w') (hb : H + 4 ≤ K) : Own w' K A n c l := own_fr h hf hb
theorem OwnE.fr {H K n c : Nat} {w w' : World} {A : Option Addr} {css : List (List Value)} (h : OwnE w K A n c css) (hf : Fr H w w') (hb : H + 4 ≤ K) : OwnE w' K A n c css := ⟨own_fr h.1 hf hb, h.2⟩
theorem EC.fr {H K : Nat} {w w' : World} {cs : List Value} {x : Ent} (h : EC w K cs x) (hf : Fr H w w') (hb : H + 4 ≤ K) : EC w' K cs x := by
  obtain ⟨B1, n1, d1, B2, n2, d2, e, h1, h2⟩ := h
  exact ⟨B1, n1, d1, B2, n2, d2, e, h1.fr hf hb, h2.fr hf hb⟩
theorem OwnN.fr {H K n c : Nat} {w w' : World} {A : Option Addr} {es : List Ent} (h : OwnN w K A n c es) (hf : Fr H w w') (hb : H + 4 ≤ K) : OwnN w' K A n c es := by
  obtain ⟨css, h1, h2⟩ := h
  exact ⟨css, h1.fr hf hb, fun j hj => (h2 j hj).fr hf hb⟩
abbrev ptr (b : Nat) : Value := .pointer (some ⟨b, 0, none⟩)
abbrev fnV (g : Nat) (lb : Array Value) : Value := .func (.func g) #[] lb
/-- The fault of a state: -1, or its place. -/
def stF : RdSt → Int
  | .error f => (f : Int)
  | .ok _ => -1
/-- The variables of Decode, from block H on: b, n, place, fault, wrong, take, any. -/
structure DS (w : World) (H : Nat) (A : Option Addr) (c : Nat) (l : List UInt8) (s : RdSt) (p : Nat) : Prop where
  bb : Blk w H 34 #[.slice A 224 c]
  bp : Blk w (H + 2) 3 #[.int .i64 (p : Int)]
  bf : Blk w (H + 3) 3 #[.int .i64 (stF s)]
  bw : Blk w (H + 4) 58 #[fnV 38 #[ptr (H + 3)]]
  bt : Blk w (H + 5) 62 #[fnV 39 #[ptr (H + 3), ptr (H + 2), ptr (H + 4), ptr H]]
  ba : Blk w (H + 6) 59 #[fnV 43 #[]]
  rd : Rd w A 224 c l
  lt : ∀ a, A = some a → a.block < H
  pl : p ≤ 224
  at_ : ∀ q, s = .ok q → p = q
theorem DS.below {w w' : World} {H : Nat} {A : Option Addr} {c : Nat} {l : List UInt8} {s : RdSt} {p : Nat} (h : DS w H A c l s p) (hb : Below (H + 7) w w') : DS w' H A c l s p :=
  ⟨h.bb.below hb (by omega), h.bp.below hb (by omega), h.bf.below hb (by omega), h.bw.below hb (by omega), h.bt.below hb (by omega), h.ba.below hb (by omega), h.rd.blk fun a ha => hb.block _ (by have := h.lt a ha; omega), h.lt, h.pl, h.at_⟩
theorem DS.size {w : World} {H : Nat} {A : Option Addr} {c : Nat} {l : List UInt8} {s : RdSt} {p : Nat} (h : DS w H A c l s p) : H + 7 ≤ w.heap.size := h.ba.lt
theorem DS.fault {w : World} {H : Nat} {A : Option Addr} {c : Nat} {l : List UInt8} {s : RdSt} {p : Nat} (h : DS w H A c l s p) (f : Nat) : DS (w.setCell ⟨H + 3, 0, none⟩ (.int .i64 (f : Int))) H A c l (.error f) p :=
  ⟨h.bb.far (by simp) _, h.bp.far (by simp) _, by have := h.bf.set_ 0 (.int .i64 (f : Int)); exact this, h.bw.far (by simp) _, h.bt.far (by simp) _, h.ba.far (by simp) _, h.rd.blk fun a ha => Below.heap_setCell _ _ _ _ (by have := h.lt a ha; simp; omega), h.lt, h.pl, fun q e => by cases e⟩
theorem DS.move {w : World} {H : Nat} {A : Option Addr} {c : Nat} {l : List UInt8} {p : Nat} (h : DS w H A c l (.ok p) p) (q : Nat) (hq : q ≤ 224) : DS (w.setCell ⟨H + 2, 0, none⟩ (.int .i64 (q : Int))) H A c l (.ok q) q :=
  ⟨h.bb.far (by simp) _, by have := h.bp.set_ 0 (.int .i64 (q : Int)); exact this, h.bf.far (by simp) _, h.bw.far (by simp) _, h.bt.far (by simp) _, h.ba.far (by simp) _, h.rd.blk fun a ha => Below.heap_setCell _ _ _ _ (by have := h.lt a ha; simp; omega), h.lt, hq, fun q' e => by injection e⟩
theorem DS.fr {w w' : World} {H : Nat} {A : Option Addr} {c : Nat} {l : List UInt8} {s : RdSt} {p : Nat} (h : DS w H A c l s p) (hb : Below w.heap.size w w') : DS w' H A c l s p := h.below (hb.mono h.size)
set_option maxHeartbeats 800000 in
theorem wrong_any (H : Nat) (A : Option Addr) (c : Nat) (l : List UInt8) (p f : Nat) (w : World) (h : DS w H A c l (.ok p) p) (hf : f ≤ 224) :
    Calls Try.prog 38 #[.int .i64 (f : Int), ptr (H + 3)] w fun e w' => e = .returned (.tuple #[]) ∧ DS w' H A c l (.error f) p ∧ Fr H w w' := by
  have k := h.bf.cell 0
  have hfr := h.bf.frozen 0
  have e1 : stF (.ok p) = -1 := rfl
  rw [e1] at k
  have HD := Lib.hid (h.fault f)
  have HF : Hid (Fr H w (w.setCell ⟨H + 3, 0, none⟩ (.int .i64 (f : Int)))) := (Fr.refl H w).set_ (.inr (.inl rfl)) _
  clear h e1
  go_enter Try.func38, Try.ntmps38
  go_wp2
  exact ⟨rfl, .tuple #[], results_none rfl _ _ _, rfl, HD.out, HF.out⟩
theorem any_any (v : Nat) (w : World) : Calls Try.prog 43 #[.int .u64 (v : Int)] w fun e w' => e = .returned (.bool true) ∧ w = w' := by
  go_enter Try.func43, Try.ntmps43
  go_wp2
  go_ret
  exact ⟨rfl, rfl⟩
end Go.Proofs.Ytihbpmceggghgaa
