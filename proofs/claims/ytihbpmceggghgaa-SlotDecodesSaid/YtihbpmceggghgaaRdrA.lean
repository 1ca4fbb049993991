/- The reader of the document's answer: its byte and its text. -/
import Derived.Test.YtihbpmceggghgaaDecT
import Derived.Test.YtihbpmceggghgaaRegU
import Derived.Test.YtihbpmceggghgaaOwnE
set_option linter.unusedVariables false
set_option linter.unusedSimpArgs false
namespace Go.Proofs.Ytihbpmceggghgaa
open Go.RowKit

theorem gz_refl (w : World) (r : Option Nat) : w.grownBy w r := ⟨rfl, rfl, rfl, Nat.le_refl _, fun _ _ _ => rfl⟩
theorem gz_trans {a b c : World} {r : Option Nat} (h : a.grownBy b r) (k : b.grownBy c r) : a.grownBy c r :=
  ⟨k.os.trans h.os, k.tape.trans h.tape, k.output.trans h.output, Nat.le_trans h.size k.size, fun i hi hr => (k.block i (Nat.lt_of_lt_of_le hi h.size) hr).trans (h.block i hi hr)⟩
theorem gz_of {w w' : World} (h : Below w.heap.size w w') (r : Option Nat) : w.grownBy w' r := ⟨h.os, h.tape, h.output, h.size, fun k hk _ => h.block k hk⟩
theorem gz_set {w w' : World} {Z : Nat} (h : w.grownBy w' (some Z)) {p : Addr} (hp : p.block = Z ∨ w.heap.size ≤ p.block) (u : Value) : w.grownBy (w'.setCell p u) (some Z) :=
  ⟨h.os, h.tape, h.output, by simpa [World.setCell] using h.size, fun k hk hr => (Below.heap_setCell w' p u k (by rcases hp with hp | hp; exact fun e => hr (by rw [e, hp]); omega)).trans (h.block k hk hr)⟩
theorem gz_below {B Z : Nat} {w w' : World} (h : w.grownBy w' (some Z)) (hB : B ≤ Z) (hw : B ≤ w.heap.size) : Below B w w' := ⟨h.os, h.tape, h.output, h.size, fun k hk => h.block k (by omega) (by simp; omega)⟩
abbrev rptr (b : Nat) : Value := .pointer (some ⟨b, 0, none⟩)
def rsF : RdSt → Int
  | .error f => (f : Int)
  | .ok _ => -1
/-- The reader in block Z. -/
structure RDS (w : World) (Z : Nat) (A : Option Addr) (c : Nat) (l : List UInt8) (s : RdSt) (p : Nat) : Prop where
  bz : Blk w Z 67 #[.slice A 224 c, .int .i64 (p : Int), .int .i64 (rsF s)]
  rd : Rd w A 224 c l
  lt : ∀ a, A = some a → a.block < Z
  pl : p ≤ 224
  at_ : ∀ q, s = .ok q → p = q
theorem RDS.below {w w' : World} {Z : Nat} {A : Option Addr} {c : Nat} {l : List UInt8} {s : RdSt} {p : Nat} (h : RDS w Z A c l s p) (hb : Below w.heap.size w w') : RDS w' Z A c l s p :=
  ⟨h.bz.below hb h.bz.lt, h.rd.below hb, h.lt, h.pl, h.at_⟩
theorem rd_far {w : World} {A : Option Addr} {n c : Nat} {l : List UInt8} (h : Rd w A n c l) {p : Addr} (hp : ∀ a, A = some a → a.block ≠ p.block) (u : Value) : Rd (w.setCell p u) A n c l :=
  ⟨h.len, h.cap, h.max, fun hn => by
    obtain ⟨b, o, e, hc⟩ := h.at_ hn
    exact ⟨b, o, e, fun j hj => (World.cell?_of_block (w := w) (w' := w.setCell p u) (a := ⟨b, o + j, none⟩) (Below.heap_setCell w p u b (hp ⟨b, o, none⟩ e))).trans (hc j hj)⟩⟩
theorem RDS.far {w : World} {Z : Nat} {A : Option Addr} {c : Nat} {l : List UInt8} {s : RdSt} {q : Nat} (h : RDS w Z A c l s q) {p : Addr} (hp : Z < p.block) (u : Value) : RDS (w.setCell p u) Z A c l s q :=
  ⟨h.bz.far (by omega) u, rd_far h.rd (fun a ha => by have := h.lt a ha; omega) u, h.lt, h.pl, h.at_⟩
theorem RDS.fault {w : World} {Z : Nat} {A : Option Addr} {c : Nat} {l : List UInt8} {s : RdSt} {p : Nat} (h : RDS w Z A c l s p) (f : Nat) : RDS (w.setCell ⟨Z, 2, none⟩ (.int .i64 (f : Int))) Z A c l (.error f) p :=
  ⟨h.bz.set_ 2 (.int .i64 (f : Int)), rd_far h.rd (fun a ha => by have := h.lt a ha; simp; omega) _, h.lt, h.pl, fun q e => by cases e⟩
theorem RDS.move {w : World} {Z : Nat} {A : Option Addr} {c : Nat} {l : List UInt8} {p : Nat} (h : RDS w Z A c l (.ok p) p) (q : Nat) (hq : q ≤ 224) : RDS (w.setCell ⟨Z, 1, none⟩ (.int .i64 (q : Int))) Z A c l (.ok q) q :=
  ⟨h.bz.set_ 1 (.int .i64 (q : Int)), rd_far h.rd (fun a ha => by have := h.lt a ha; simp; omega) _, h.lt, hq, fun q' e => by injection e⟩
theorem RDS.kept {w w' : World} {Z Y : Nat} {A : Option Addr} {c : Nat} {l : List UInt8} {s : RdSt} {p : Nat} (h : RDS w Z A c l s p) (hg : w.grownBy w' (some Y)) (hY : Z < Y) : RDS w' Z A c l s p :=
  ⟨h.bz.keep_grown hg (by simp; omega), ⟨h.rd.len, h.rd.cap, h.rd.max, fun hn => by
    obtain ⟨b, o, e, hc⟩ := h.rd.at_ hn
    have hb := h.lt _ e
    have hbw := World.block_lt_of_cell? w _ (hc 0 hn)
    exact ⟨b, o, e, fun j hj => (World.cell?_of_block (w := w) (w' := w') (a := ⟨b, o + j, none⟩) (hg.block b hbw (by simp at hb ⊢; omega))).trans (hc j hj)⟩⟩, h.lt, h.pl, h.at_⟩
theorem gz_new {w W wa : World} {Z Y : Nat} (h : w.grownBy W (some Z)) (hg : W.grownBy wa (some Y)) (hY : w.heap.size ≤ Y) : w.grownBy wa (some Z) :=
  ⟨hg.os.trans h.os, hg.tape.trans h.tape, hg.output.trans h.output, Nat.le_trans h.size hg.size, fun k hk hr => (hg.block k (Nat.lt_of_lt_of_le hk h.size) (by simp; omega)).trans (h.block k hk hr)⟩
def b1V (l : List UInt8) : RdSt → Int
  | .error _ => -1
  | .ok p => if p < 224 then ((l.getD p 0).toNat : Int) else -1
def b1S : RdSt → RdSt
  | .error f => .error f
  | .ok p => if p < 224 then .ok p else .error 224
set_option maxHeartbeats 1600000 in
theorem byte1_any (Z : Nat) (A : Option Addr) (c : Nat) (l : List UInt8) (s : RdSt) (p : Nat) (w : World) (h : RDS w Z A c l s p) :
    Calls Try.prog 60 #[rptr Z] w fun e w' => e = .returned (.int .i64 (b1V l s)) ∧ RDS w' Z A c l (b1S s) p ∧ w.grownBy w' (some Z) := by
  have k0 := h.bz.cell 0
  have k1 := h.bz.cell 1
  have k2 := h.bz.cell 2
  have f2 := h.bz.frozen 2
  have HD := Lib.hid h
  have hpl := h.pl
  cases s with
  | error f =>
    have e1 : rsF (.error f) = (f : Int) := rfl
    rw [e1] at k2
    have hf0 : (0 : Int) ≤ (f : Int) := by omega
    clear h e1
    go_enter Try.func60, Try.ntmps60
    go_wp2_with fail
    go_ret
    exact ⟨rfl, HD.out, gz_refl _ _⟩
  | ok q =>
    obtain rfl : p = q := h.at_ _ rfl
    have e1 : rsF (.ok p) = -1 := rfl
    rw [e1] at k2
    clear e1
    by_cases hp : p < 224
    · obtain ⟨b, o, rfl, hc⟩ := h.rd.at_ (by omega)
      have hcell := hc p hp
      obtain ⟨x, hx⟩ : ∃ x, l.getD p 0 = x := ⟨_, rfl⟩
      rw [hx] at hcell
      have HV : Hid (b1V l (.ok p) = (x.toNat : Int) ∧ b1S (.ok p) = .ok p) := ⟨by unfold b1V; dsimp only; rw [if_pos hp, hx], if_pos hp⟩
      have i1 : (0 : Int) ≤ (p : Int) := by omega
      have i2 : (p : Int) < 224 := by omega
      have i3 : ¬ ((p : Int) ≥ 224) := by omega
      have hxx := x.toNat_lt
      have hwx : Hid (IntKind.i64.wrap (x.toNat : Int) = (x.toNat : Int)) := IntWalk.i64_in _ (by omega)
      clear h hc hx
      go_enter Try.func60, Try.ntmps60
      go_upto_region 3 with fail
      refine region_gate 10 (fun wx => wx.cell? ⟨Z, 0, none⟩ = some (.slice (some ⟨b, o, none⟩) 224 c) ∧ wx.cell? ⟨Z, 1, none⟩ = some (.int .i64 (p : Int))) (by kernel_rfl) ?th1 (fun hHeld => ?tk1)
      case th1 => ((try dsimp only); exact ⟨k0, k1⟩)
      refine' takeV 0 (oi := _) (d := _) (v := _) ?ti2 ?td2 (by kernel_rfl) (by kernel_rfl) (by kernel_rfl) (by kernel_rfl) (by decide) (fun _ _ _ _ _ h => h) ?tg2 ?ty2 (by assumption) ?tr2
      case ti2 => (simp only [List.getElem?_toArray, List.getElem?_cons_succ, List.getElem?_cons_zero]; rfl)
      case td2 => exact rfl
      case tg2 => exact rfl
      case ty2 => (intro w hSw; (try dsimp only at hSw); go_split_ands; go_simp; try with_reducible rfl)
      simp only [List.setIfInBounds_toArray, List.set_cons_zero, List.set_cons_succ]
      refine' takeV 1 (oi := _) (d := _) (v := _) ?ti3 ?td3 (by kernel_rfl) (by kernel_rfl) (by kernel_rfl) (by kernel_rfl) (by decide) (fun _ _ _ _ _ h => h) ?tg3 ?ty3 (by assumption) ?tr3
      case ti3 => (simp only [List.getElem?_toArray, List.getElem?_cons_succ, List.getElem?_cons_zero]; rfl)
      case td3 => exact rfl
      case tg3 => exact rfl
      case ty3 => (intro w hSw; (try dsimp only at hSw); go_split_ands; go_simp; try with_reducible rfl)
      simp only [List.setIfInBounds_toArray, List.set_cons_zero, List.set_cons_succ]
      refine' takeV 2 (oi := _) (d := _) (v := _) ?ti4 ?td4 (by kernel_rfl) (by kernel_rfl) (by kernel_rfl) (by kernel_rfl) (by decide) (fun _ _ _ _ _ h => h) ?tg4 ?ty4 (by assumption) ?tr4
      case ti4 => (simp only [List.getElem?_toArray, List.getElem?_cons_succ, List.getElem?_cons_zero]; rfl)
      case td4 => exact rfl
      case tg4 => exact rfl
      case ty4 => (intro w hSw; (try dsimp only at hSw); go_split_ands; go_simp; try with_reducible rfl)
      simp only [List.setIfInBounds_toArray, List.set_cons_zero, List.set_cons_succ]
      refine' takeV 3 (oi := _) (d := _) (v := _) ?ti5 ?td5 (by kernel_rfl) (by kernel_rfl) (by kernel_rfl) (by kernel_rfl) (by decide) (fun _ _ _ _ _ h => h) ?tg5 ?ty5 (by assumption) ?tr5
      case ti5 => (simp only [List.getElem?_toArray, List.getElem?_cons_succ, List.getElem?_cons_zero]; rfl)
      case td5 => exact rfl
      case tg5 => exact rfl
      case ty5 => (intro w hSw; (try dsimp only at hSw); go_split_ands; go_simp; try with_reducible rfl)
      simp only [List.setIfInBounds_toArray, List.set_cons_zero, List.set_cons_succ]
      refine' takeV 4 (oi := _) (d := _) (v := _) ?ti6 ?td6 (by kernel_rfl) (by kernel_rfl) (by kernel_rfl) (by kernel_rfl) (by decide) (fun _ _ _ _ _ h => h) ?tg6 ?ty6 (by assumption) ?tr6
      case ti6 => (simp only [List.getElem?_toArray, List.getElem?_cons_succ, List.getElem?_cons_zero]; rfl)
      case td6 => exact rfl
      case tg6 => exact rfl
      case ty6 => (intro w hSw; (try dsimp only at hSw); go_split_ands; go_simp; try with_reducible rfl)
      simp only [List.setIfInBounds_toArray, List.set_cons_zero, List.set_cons_succ]
      refine' takeV 5 (oi := _) (d := _) (v := _) ?ti7 ?td7 (by kernel_rfl) (by kernel_rfl) (by kernel_rfl) (by kernel_rfl) (by decide) (fun _ _ _ _ _ h => h) ?tg7 ?ty7 (by assumption) ?tr7
      case ti7 => (simp only [List.getElem?_toArray, List.getElem?_cons_succ, List.getElem?_cons_zero]; rfl)
      case td7 => exact rfl
      case tg7 => exact rfl
      case ty7 => (intro w hSw; (try dsimp only at hSw); go_split_ands; go_simp; try with_reducible rfl)
      simp only [List.setIfInBounds_toArray, List.set_cons_zero, List.set_cons_succ]
      refine' takeV 6 (oi := _) (d := _) (v := _) ?ti8 ?td8 (by kernel_rfl) (by kernel_rfl) (by kernel_rfl) (by kernel_rfl) (by decide) (fun _ _ _ _ _ h => h) ?tg8 ?ty8 (by assumption) ?tr8
      case ti8 => (simp only [List.getElem?_toArray, List.getElem?_cons_succ, List.getElem?_cons_zero]; rfl)
      case td8 => exact rfl
      case tg8 => exact rfl
      case ty8 => (intro w hSw; (try dsimp only at hSw); go_split_ands; go_simp; try with_reducible rfl)
      simp only [List.setIfInBounds_toArray, List.set_cons_zero, List.set_cons_succ]
      refine' takeV 7 (oi := _) (d := _) (v := _) ?ti9 ?td9 (by kernel_rfl) (by kernel_rfl) (by kernel_rfl) (by kernel_rfl) (by decide) (fun _ _ _ _ _ h => h) ?tg9 ?ty9 (by assumption) ?tr9
      case ti9 => (simp only [List.getElem?_toArray, List.getElem?_cons_succ, List.getElem?_cons_zero]; rfl)
      case td9 => exact rfl
      case tg9 => exact rfl
      case ty9 => (intro w hSw; (try dsimp only at hSw); go_split_ands; go_simp; try with_reducible rfl)
      simp only [List.setIfInBounds_toArray, List.set_cons_zero, List.set_cons_succ]
      refine' takeV 8 (oi := _) (d := _) (v := _) ?ti10 ?td10 (by kernel_rfl) (by kernel_rfl) (by kernel_rfl) (by kernel_rfl) (by decide) (fun _ _ _ _ _ h => h) ?tg10 ?ty10 (by assumption) ?tr10
      case ti10 => (simp only [List.getElem?_toArray, List.getElem?_cons_succ, List.getElem?_cons_zero]; rfl)
      case td10 => exact rfl
      case tg10 => exact rfl
      case ty10 => (intro w hSw; (try dsimp only at hSw); go_split_ands; go_simp; try with_reducible rfl)
      simp only [List.setIfInBounds_toArray, List.set_cons_zero, List.set_cons_succ]
      refine' takeV 9 (oi := _) (d := _) (v := _) ?ti11 ?td11 (by kernel_rfl) (by kernel_rfl) (by kernel_rfl) (by kernel_rfl) (by decide) (fun _ _ _ _ _ h => h) ?tg11 ?ty11 (by assumption) ?tr11
      case ti11 => (simp only [List.getElem?_toArray, List.getElem?_cons_succ, List.getElem?_cons_zero]; rfl)
      case td11 => exact rfl
      case tg11 => exact rfl
      case ty11 => (intro w hSw; (try dsimp only at hSw); go_split_ands; go_simp; try with_reducible rfl)
      simp only [List.setIfInBounds_toArray, List.set_cons_zero, List.set_cons_succ]
      refine doneG (by kernel_rfl) ?_ _
      go_wp2_with fail
      refine region_gate 12 (fun wx => wx.cell? ⟨Z, 0, none⟩ = some (.slice (some ⟨b, o, none⟩) 224 c) ∧ wx.cell? ⟨Z, 1, none⟩ = some (.int .i64 (p : Int)) ∧ wx.cell? ⟨b, o + p, none⟩ = some (.int .u8 (x.toNat : Int))) (by kernel_rfl) ?th12 (fun hHeld => ?tk12)
      case th12 => ((try dsimp only); exact ⟨k0, k1, hcell⟩)
      refine' takeV 0 (oi := _) (d := _) (v := _) ?ti13 ?td13 (by kernel_rfl) (by kernel_rfl) (by kernel_rfl) (by kernel_rfl) (by decide) (fun _ _ _ _ _ h => h) ?tg13 ?ty13 (by assumption) ?tr13
      case ti13 => (simp only [List.getElem?_toArray, List.getElem?_cons_succ, List.getElem?_cons_zero]; rfl)
      case td13 => exact rfl
      case tg13 => exact rfl
      case ty13 => (intro w hSw; (try dsimp only at hSw); go_split_ands; go_simp; try with_reducible rfl)
      simp only [List.setIfInBounds_toArray, List.set_cons_zero, List.set_cons_succ]
      refine' takeV 1 (oi := _) (d := _) (v := _) ?ti14 ?td14 (by kernel_rfl) (by kernel_rfl) (by kernel_rfl) (by kernel_rfl) (by decide) (fun _ _ _ _ _ h => h) ?tg14 ?ty14 (by assumption) ?tr14
      case ti14 => (simp only [List.getElem?_toArray, List.getElem?_cons_succ, List.getElem?_cons_zero]; rfl)
      case td14 => exact rfl
      case tg14 => exact rfl
      case ty14 => (intro w hSw; (try dsimp only at hSw); go_split_ands; go_simp; try with_reducible rfl)
      simp only [List.setIfInBounds_toArray, List.set_cons_zero, List.set_cons_succ]
      refine' takeV 2 (oi := _) (d := _) (v := _) ?ti15 ?td15 (by kernel_rfl) (by kernel_rfl) (by kernel_rfl) (by kernel_rfl) (by decide) (fun _ _ _ _ _ h => h) ?tg15 ?ty15 (by assumption) ?tr15
      case ti15 => (simp only [List.getElem?_toArray, List.getElem?_cons_succ, List.getElem?_cons_zero]; rfl)
      case td15 => exact rfl
      case tg15 => exact rfl
      case ty15 => (intro w hSw; (try dsimp only at hSw); go_split_ands; go_simp; try with_reducible rfl)
      simp only [List.setIfInBounds_toArray, List.set_cons_zero, List.set_cons_succ]
      refine' takeV 3 (oi := _) (d := _) (v := _) ?ti16 ?td16 (by kernel_rfl) (by kernel_rfl) (by kernel_rfl) (by kernel_rfl) (by decide) (fun _ _ _ _ _ h => h) ?tg16 ?ty16 (by assumption) ?tr16
      case ti16 => (simp only [List.getElem?_toArray, List.getElem?_cons_succ, List.getElem?_cons_zero]; rfl)
      case td16 => exact rfl
      case tg16 => exact rfl
      case ty16 => (intro w hSw; (try dsimp only at hSw); go_split_ands; go_simp; try with_reducible rfl)
      simp only [List.setIfInBounds_toArray, List.set_cons_zero, List.set_cons_succ]
      refine' takeV 4 (oi := _) (d := _) (v := _) ?ti17 ?td17 (by kernel_rfl) (by kernel_rfl) (by kernel_rfl) (by kernel_rfl) (by decide) (fun _ _ _ _ _ h => h) ?tg17 ?ty17 (by assumption) ?tr17
      case ti17 => (simp only [List.getElem?_toArray, List.getElem?_cons_succ, List.getElem?_cons_zero]; rfl)
      case td17 => exact rfl
      case tg17 => exact rfl
      case ty17 => (intro w hSw; (try dsimp only at hSw); go_split_ands; go_simp; try with_reducible rfl)
      simp only [List.setIfInBounds_toArray, List.set_cons_zero, List.set_cons_succ]
      refine' takeV 5 (oi := _) (d := _) (v := _) ?ti18 ?td18 (by kernel_rfl) (by kernel_rfl) (by kernel_rfl) (by kernel_rfl) (by decide) (fun _ _ _ _ _ h => h) ?tg18 ?ty18 (by assumption) ?tr18
      case ti18 => (simp only [List.getElem?_toArray, List.getElem?_cons_succ, List.getElem?_cons_zero]; rfl)
      case td18 => exact rfl
      case tg18 => exact rfl
      case ty18 => (intro w hSw; (try dsimp only at hSw); go_split_ands; go_simp; try with_reducible rfl)
      simp only [List.setIfInBounds_toArray, List.set_cons_zero, List.set_cons_succ]
      refine' takeV 6 (oi := _) (d := _) (v := _) ?ti19 ?td19 (by kernel_rfl) (by kernel_rfl) (by kernel_rfl) (by kernel_rfl) (by decide) (fun _ _ _ _ _ h => h) ?tg19 ?ty19 (by assumption) ?tr19
      case ti19 => (simp only [List.getElem?_toArray, List.getElem?_cons_succ, List.getElem?_cons_zero]; rfl)
      case td19 => exact rfl
      case tg19 => exact rfl
      case ty19 => (intro w hSw; (try dsimp only at hSw); go_split_ands; go_simp; try with_reducible rfl)
      simp only [List.setIfInBounds_toArray, List.set_cons_zero, List.set_cons_succ]
      refine' takeV 7 (oi := _) (d := _) (v := _) ?ti20 ?td20 (by kernel_rfl) (by kernel_rfl) (by kernel_rfl) (by kernel_rfl) (by decide) (fun _ _ _ _ _ h => h) ?tg20 ?ty20 (by assumption) ?tr20
      case ti20 => (simp only [List.getElem?_toArray, List.getElem?_cons_succ, List.getElem?_cons_zero]; rfl)
      case td20 => exact rfl
      case tg20 => exact rfl
      case ty20 => (intro w hSw; (try dsimp only at hSw); go_split_ands; go_simp; try with_reducible rfl)
      simp only [List.setIfInBounds_toArray, List.set_cons_zero, List.set_cons_succ]
      refine' takeV 8 (oi := _) (d := _) (v := _) ?ti21 ?td21 (by kernel_rfl) (by kernel_rfl) (by kernel_rfl) (by kernel_rfl) (by decide) (fun _ _ _ _ _ h => h) ?tg21 ?ty21 (by assumption) ?tr21
      case ti21 => (simp only [List.getElem?_toArray, List.getElem?_cons_succ, List.getElem?_cons_zero]; rfl)
      case td21 => exact rfl
      case tg21 => exact rfl
      case ty21 => (intro w hSw; (try dsimp only at hSw); go_split_ands; go_simp; try with_reducible rfl)
      simp only [List.setIfInBounds_toArray, List.set_cons_zero, List.set_cons_succ]
      refine' takeV 9 (oi := _) (d := _) (v := _) ?ti22 ?td22 (by kernel_rfl) (by kernel_rfl) (by kernel_rfl) (by kernel_rfl) (by decide) (fun _ _ _ _ _ h => h) ?tg22 ?ty22 (by assumption) ?tr22
      case ti22 => (simp only [List.getElem?_toArray, List.getElem?_cons_succ, List.getElem?_cons_zero]; rfl)
      case td22 => exact rfl
      case tg22 => exact rfl
      case ty22 => (intro w hSw; (try dsimp only at hSw); go_split_ands; go_simp; try with_reducible rfl)
      simp only [List.setIfInBounds_toArray, List.set_cons_zero, List.set_cons_succ]
      refine' takeV 10 (oi := _) (d := _) (v := _) ?ti23 ?td23 (by kernel_rfl) (by kernel_rfl) (by kernel_rfl) (by kernel_rfl) (by decide) (fun _ _ _ _ _ h => h) ?tg23 ?ty23 (by assumption) ?tr23
      case ti23 => (simp only [List.getElem?_toArray, List.getElem?_cons_succ, List.getElem?_cons_zero]; rfl)
      case td23 => exact rfl
      case tg23 => exact rfl
      case ty23 => (intro w hSw; (try dsimp only at hSw); go_split_ands; go_simp; try with_reducible rfl)
      simp only [List.setIfInBounds_toArray, List.set_cons_zero, List.set_cons_succ]
      refine' takeV 11 (oi := _) (d := _) (v := _) ?ti24 ?td24 (by kernel_rfl) (by kernel_rfl) (by kernel_rfl) (by kernel_rfl) (by decide) (fun _ _ _ _ _ h => h) ?tg24 ?ty24 (by assumption) ?tr24
      case ti24 => (simp only [List.getElem?_toArray, List.getElem?_cons_succ, List.getElem?_cons_zero]; rfl)
      case td24 => exact rfl
      case tg24 => exact rfl
      case ty24 => (intro w hSw; (try dsimp only at hSw); go_split_ands; go_simp; try with_reducible rfl)
      simp only [List.setIfInBounds_toArray, List.set_cons_zero, List.set_cons_succ]
      refine doneG (by kernel_rfl) ?_ _
      go_wp2_with fail
      go_ret
      rw [HV.out.1, HV.out.2]
      exact ⟨by show Ending.returned (Value.int .i64 (IntKind.i64.wrap _)) = _; rw [hwx.out], HD.out.below (Below.refl _ _).drew.drew, gz_of (Below.refl _ _).drew.drew _⟩
    · obtain rfl : p = 224 := by omega
      have HV : Hid (b1V l (.ok 224) = -1 ∧ b1S (.ok 224) = .error 224) := ⟨rfl, rfl⟩
      have HF := Lib.hid ((HD.out.below (Below.refl _ _).drew).fault 224)
      have HG : Hid (w.grownBy (w.drew.setCell ⟨Z, 2, none⟩ (.int .i64 ((224 : Nat) : Int))) (some Z)) := gz_set (gz_of (Below.refl _ _).drew _) (.inl rfl) _
      clear h
      go_enter Try.func60, Try.ntmps60
      go_upto_region 3 with fail
      refine region_gate 10 (fun wx => wx.cell? ⟨Z, 0, none⟩ = some (.slice A 224 c) ∧ wx.cell? ⟨Z, 1, none⟩ = some (.int .i64 ((224 : Nat) : Int))) (by kernel_rfl) ?th25 (fun hHeld => ?tk25)
      case th25 => ((try dsimp only); exact ⟨k0, k1⟩)
      refine' takeV 0 (oi := _) (d := _) (v := _) ?ti26 ?td26 (by kernel_rfl) (by kernel_rfl) (by kernel_rfl) (by kernel_rfl) (by decide) (fun _ _ _ _ _ h => h) ?tg26 ?ty26 (by assumption) ?tr26
      case ti26 => (simp only [List.getElem?_toArray, List.getElem?_cons_succ, List.getElem?_cons_zero]; rfl)
      case td26 => exact rfl
      case tg26 => exact rfl
      case ty26 => (intro w hSw; (try dsimp only at hSw); go_split_ands; go_simp; try with_reducible rfl)
      simp only [List.setIfInBounds_toArray, List.set_cons_zero, List.set_cons_succ]
      refine' takeV 1 (oi := _) (d := _) (v := _) ?ti27 ?td27 (by kernel_rfl) (by kernel_rfl) (by kernel_rfl) (by kernel_rfl) (by decide) (fun _ _ _ _ _ h => h) ?tg27 ?ty27 (by assumption) ?tr27
      case ti27 => (simp only [List.getElem?_toArray, List.getElem?_cons_succ, List.getElem?_cons_zero]; rfl)
      case td27 => exact rfl
      case tg27 => exact rfl
      case ty27 => (intro w hSw; (try dsimp only at hSw); go_split_ands; go_simp; try with_reducible rfl)
      simp only [List.setIfInBounds_toArray, List.set_cons_zero, List.set_cons_succ]
      refine' takeV 2 (oi := _) (d := _) (v := _) ?ti28 ?td28 (by kernel_rfl) (by kernel_rfl) (by kernel_rfl) (by kernel_rfl) (by decide) (fun _ _ _ _ _ h => h) ?tg28 ?ty28 (by assumption) ?tr28
      case ti28 => (simp only [List.getElem?_toArray, List.getElem?_cons_succ, List.getElem?_cons_zero]; rfl)
      case td28 => exact rfl
      case tg28 => exact rfl
      case ty28 => (intro w hSw; (try dsimp only at hSw); go_split_ands; go_simp; try with_reducible rfl)
      simp only [List.setIfInBounds_toArray, List.set_cons_zero, List.set_cons_succ]
      refine' takeV 3 (oi := _) (d := _) (v := _) ?ti29 ?td29 (by kernel_rfl) (by kernel_rfl) (by kernel_rfl) (by kernel_rfl) (by decide) (fun _ _ _ _ _ h => h) ?tg29 ?ty29 (by assumption) ?tr29
      case ti29 => (simp only [List.getElem?_toArray, List.getElem?_cons_succ, List.getElem?_cons_zero]; rfl)
      case td29 => exact rfl
      case tg29 => exact rfl
      case ty29 => (intro w hSw; (try dsimp only at hSw); go_split_ands; go_simp; try with_reducible rfl)
      simp only [List.setIfInBounds_toArray, List.set_cons_zero, List.set_cons_succ]
      refine' takeV 4 (oi := _) (d := _) (v := _) ?ti30 ?td30 (by kernel_rfl) (by kernel_rfl) (by kernel_rfl) (by kernel_rfl) (by decide) (fun _ _ _ _ _ h => h) ?tg30 ?ty30 (by assumption) ?tr30
      case ti30 => (simp only [List.getElem?_toArray, List.getElem?_cons_succ, List.getElem?_cons_zero]; rfl)
      case td30 => exact rfl
      case tg30 => exact rfl
      case ty30 => (intro w hSw; (try dsimp only at hSw); go_split_ands; go_simp; try with_reducible rfl)
      simp only [List.setIfInBounds_toArray, List.set_cons_zero, List.set_cons_succ]
      refine' takeV 5 (oi := _) (d := _) (v := _) ?ti31 ?td31 (by kernel_rfl) (by kernel_rfl) (by kernel_rfl) (by kernel_rfl) (by decide) (fun _ _ _ _ _ h => h) ?tg31 ?ty31 (by assumption) ?tr31
      case ti31 => (simp only [List.getElem?_toArray, List.getElem?_cons_succ, List.getElem?_cons_zero]; rfl)
      case td31 => exact rfl
      case tg31 => exact rfl
      case ty31 => (intro w hSw; (try dsimp only at hSw); go_split_ands; go_simp; try with_reducible rfl)
      simp only [List.setIfInBounds_toArray, List.set_cons_zero, List.set_cons_succ]
      refine' takeV 6 (oi := _) (d := _) (v := _) ?ti32 ?td32 (by kernel_rfl) (by kernel_rfl) (by kernel_rfl) (by kernel_rfl) (by decide) (fun _ _ _ _ _ h => h) ?tg32 ?ty32 (by assumption) ?tr32
      case ti32 => (simp only [List.getElem?_toArray, List.getElem?_cons_succ, List.getElem?_cons_zero]; rfl)
      case td32 => exact rfl
      case tg32 => exact rfl
      case ty32 => (intro w hSw; (try dsimp only at hSw); go_split_ands; go_simp; try with_reducible rfl)
      simp only [List.setIfInBounds_toArray, List.set_cons_zero, List.set_cons_succ]
      refine' takeV 7 (oi := _) (d := _) (v := _) ?ti33 ?td33 (by kernel_rfl) (by kernel_rfl) (by kernel_rfl) (by kernel_rfl) (by decide) (fun _ _ _ _ _ h => h) ?tg33 ?ty33 (by assumption) ?tr33
      case ti33 => (simp only [List.getElem?_toArray, List.getElem?_cons_succ, List.getElem?_cons_zero]; rfl)
      case td33 => exact rfl
      case tg33 => exact rfl
      case ty33 => (intro w hSw; (try dsimp only at hSw); go_split_ands; go_simp; try with_reducible rfl)
      simp only [List.setIfInBounds_toArray, List.set_cons_zero, List.set_cons_succ]
      refine' takeV 8 (oi := _) (d := _) (v := _) ?ti34 ?td34 (by kernel_rfl) (by kernel_rfl) (by kernel_rfl) (by kernel_rfl) (by decide) (fun _ _ _ _ _ h => h) ?tg34 ?ty34 (by assumption) ?tr34
      case ti34 => (simp only [List.getElem?_toArray, List.getElem?_cons_succ, List.getElem?_cons_zero]; rfl)
      case td34 => exact rfl
      case tg34 => exact rfl
      case ty34 => (intro w hSw; (try dsimp only at hSw); go_split_ands; go_simp; try with_reducible rfl)
      simp only [List.setIfInBounds_toArray, List.set_cons_zero, List.set_cons_succ]
      refine' takeV 9 (oi := _) (d := _) (v := _) ?ti35 ?td35 (by kernel_rfl) (by kernel_rfl) (by kernel_rfl) (by kernel_rfl) (by decide) (fun _ _ _ _ _ h => h) ?tg35 ?ty35 (by assumption) ?tr35
      case ti35 => (simp only [List.getElem?_toArray, List.getElem?_cons_succ, List.getElem?_cons_zero]; rfl)
      case td35 => exact rfl
      case tg35 => exact rfl
      case ty35 => (intro w hSw; (try dsimp only at hSw); go_split_ands; go_simp; try with_reducible rfl)
      simp only [List.setIfInBounds_toArray, List.set_cons_zero, List.set_cons_succ]
      refine doneG (by kernel_rfl) ?_ _
      go_wp2_with fail
      go_ret
      rw [HV.out.1, HV.out.2]
      exact ⟨rfl, HF.out, HG.out⟩
set_option maxRecDepth 100000 in
set_option maxHeartbeats 3200000 in
theorem rref_any (Z : Nat) (A : Option Addr) (c : Nat) (l : List UInt8) (s : RdSt) (p : Nat) (w : World) (h : RDS w Z A c l s p) :
    Calls Try.prog 62 #[rptr Z] w fun e w' => e = .returned (RfV (pnR l s).1) ∧ (∃ p', RDS w' Z A c l (pnR l s).2 p') ∧ w.grownBy w' (some Z) := by
  obtain ⟨W, hW⟩ : ∃ W, W = w.alloc (.cells #[.int .u32 0, .int .u64 0, .int .u16 0] 47) := ⟨_, rfl⟩
  have hwW : Below w.heap.size w W := by rw [hW]; exact below_new1 _ _
  have hZ := h.bz.lt
  obtain ⟨Y, hY⟩ : ∃ Y, w.heap.size = Y := ⟨_, rfl⟩
  have KY : Hid (Blk W Y 47 [Value.int .u32 0, .int .u64 0, .int .u16 0].toArray) := by rw [hW]; exact Blk.new' _ _ _ _ hY
  have HD := Lib.hid (h.below hwW)
  have HG0 : Hid (w.grownBy W (some Z)) := gz_of hwW _
  have k0 := HD.out.bz.cell 0
  have k1 := HD.out.bz.cell 1
  have k2 := HD.out.bz.cell 2
  have f2 := HD.out.bz.frozen 2
  have f1 := HD.out.bz.frozen 1
  have HW := Lib.hid hW
  have hpl := h.pl
  have hYW : Y < W.heap.size := KY.out.lt
  have HY := Lib.hid hY
  have infoR : (Try.prog.info? 47).map (·.size) = some [Value.int .u32 0, .int .u64 0, .int .u16 0].length := by kernel_rfl
  have HIR := Lib.hid infoR
  have HOR : Hid (∀ v ∈ [Value.int .u32 0, .int .u64 0, .int .u16 0], v.oneCell' = true) := by intro v hv; simp at hv; rcases hv with rfl | rfl | rfl <;> rfl
  rw [hY] at hZ
  cases s with
  | error f =>
    have e1 : rsF (.error f) = (f : Int) := rfl
    rw [e1] at k2
    have hf0 : (0 : Int) ≤ (f : Int) := by omega
    clear h e1 hW hwW hY infoR
    go_enter Try.func62, Try.ntmps62
    go_upto_region 1 with fail
    rw [← HW.out, HY.out]
    go_wp2_with (with_reducible refine wpList_store_blk rfl 47 (.tmp 2) (.tmp 9) rfl rfl (cs := [Value.int .u32 0, .int .u64 0, .int .u16 0]) rfl KY.out (Eq.refl _) HIR.out HOR.out ?_; intro wa hka hga)
    refine bodyPost_ret (v := RfV r0) (ret_blk (p := 2) rfl rfl hka _ Try.underlying47 rfl (by kernel_rfl)) rfl ⟨rfl, ⟨p, HD.out.kept hga hZ⟩, gz_new HG0.out hga (Nat.le_of_eq HY.out)⟩
  | ok q =>
    obtain rfl : p = q := h.at_ _ rfl
    have e1 : rsF (.ok p) = -1 := rfl
    rw [e1] at k2
    clear h e1 hW hwW hY infoR
    have hw14 : IntKind.i64.wrap ((p : Int) + 14) = (p : Int) + 14 := IntWalk.i64_in _ (by omega)
    by_cases h14 : 224 < p + 14
    · have HP : Hid (pnR l (.ok p) = (r0, .error 224)) := pnR_bad (by unfold pn; rw [if_pos h14])
      have i3 : ((p : Int) + 14 > 224) := by omega
      have i4 : decide ((p : Int) + 14 > 224) = true := decide_eq_true i3
      have i5 : decide ((224 : Int) < (p : Int) + 14) = true := decide_eq_true i3
      clear h14
      go_enter Try.func62, Try.ntmps62
      go_upto_region 1 with fail
      rw [← HW.out, HY.out]
      go_upto_region 3 with fail
      refine region_gate 11 (fun wx => wx.cell? ⟨Z, 0, none⟩ = some (.slice A 224 c) ∧ wx.cell? ⟨Z, 1, none⟩ = some (.int .i64 (p : Int))) (by kernel_rfl) ?th36 (fun hHeld => ?tk36)
      case th36 => ((try dsimp only); exact ⟨k0, k1⟩)
      refine' takeV 0 (oi := _) (d := _) (v := _) ?ti37 ?td37 (by kernel_rfl) (by kernel_rfl) (by kernel_rfl) (by kernel_rfl) (by decide) (fun _ _ _ _ _ h => h) ?tg37 ?ty37 (by assumption) ?tr37
      case ti37 => (simp only [List.getElem?_toArray, List.getElem?_cons_succ, List.getElem?_cons_zero]; rfl)
      case td37 => exact rfl
      case tg37 => exact rfl
      case ty37 => (intro w hSw; (try dsimp only at hSw); go_split_ands; go_simp; try with_reducible rfl)
      simp only [List.setIfInBounds_toArray, List.set_cons_zero, List.set_cons_succ]
      refine' takeV 1 (oi := _) (d := _) (v := _) ?ti38 ?td38 (by kernel_rfl) (by kernel_rfl) (by kernel_rfl) (by kernel_rfl) (by decide) (fun _ _ _ _ _ h => h) ?tg38 ?ty38 (by assumption) ?tr38
      case ti38 => (simp only [List.getElem?_toArray, List.getElem?_cons_succ, List.getElem?_cons_zero]; rfl)
      case td38 => exact rfl
      case tg38 => exact rfl
      case ty38 => (intro w hSw; (try dsimp only at hSw); go_split_ands; go_simp; try with_reducible rfl)
      simp only [List.setIfInBounds_toArray, List.set_cons_zero, List.set_cons_succ]
      refine' takeV 2 (oi := _) (d := _) (v := _) ?ti39 ?td39 (by kernel_rfl) (by kernel_rfl) (by kernel_rfl) (by kernel_rfl) (by decide) (fun _ _ _ _ _ h => h) ?tg39 ?ty39 (by assumption) ?tr39
      case ti39 => (simp only [List.getElem?_toArray, List.getElem?_cons_succ, List.getElem?_cons_zero]; rfl)
      case td39 => exact rfl
      case tg39 => exact rfl
      case ty39 => (intro w hSw; (try dsimp only at hSw); go_split_ands; go_simp; try with_reducible rfl)
      simp only [List.setIfInBounds_toArray, List.set_cons_zero, List.set_cons_succ]
      refine' takeV 3 (oi := _) (d := _) (v := _) ?ti40 ?td40 (by kernel_rfl) (by kernel_rfl) (by kernel_rfl) (by kernel_rfl) (by decide) (fun _ _ _ _ _ h => h) ?tg40 ?ty40 (by assumption) ?tr40
      case ti40 => (simp only [List.getElem?_toArray, List.getElem?_cons_succ, List.getElem?_cons_zero]; rfl)
      case td40 => exact rfl
      case tg40 => exact rfl
      case ty40 => (intro w hSw; (try dsimp only at hSw); go_split_ands; go_simp; try with_reducible rfl)
      simp only [List.setIfInBounds_toArray, List.set_cons_zero, List.set_cons_succ]
      refine' takeV 4 (oi := _) (d := _) (v := _) ?ti41 ?td41 (by kernel_rfl) (by kernel_rfl) (by kernel_rfl) (by kernel_rfl) (by decide) (fun _ _ _ _ _ h => h) ?tg41 ?ty41 (by assumption) ?tr41
      case ti41 => (simp only [List.getElem?_toArray, List.getElem?_cons_succ, List.getElem?_cons_zero]; rfl)
      case td41 => exact rfl
      case tg41 => exact rfl
      case ty41 => (intro w hSw; (try dsimp only at hSw); go_split_ands; go_simp; try with_reducible rfl)
      simp only [List.setIfInBounds_toArray, List.set_cons_zero, List.set_cons_succ]
      refine' takeV 5 (oi := _) (d := _) (v := _) ?ti42 ?td42 (by kernel_rfl) (by kernel_rfl) (by kernel_rfl) (by kernel_rfl) (by decide) (fun _ _ _ _ _ h => h) ?tg42 ?ty42 (by assumption) ?tr42
      case ti42 => (simp only [List.getElem?_toArray, List.getElem?_cons_succ, List.getElem?_cons_zero]; rfl)
      case td42 => exact rfl
      case tg42 => exact rfl
      case ty42 => (intro w hSw; (try dsimp only at hSw); go_split_ands; go_simp; try with_reducible rfl)
      simp only [List.setIfInBounds_toArray, List.set_cons_zero, List.set_cons_succ]
      refine' takeV 6 (oi := _) (d := _) (v := _) ?ti43 ?td43 (by kernel_rfl) (by kernel_rfl) (by kernel_rfl) (by kernel_rfl) (by decide) (fun _ _ _ _ _ h => h) ?tg43 ?ty43 (by assumption) ?tr43
      case ti43 => (simp only [List.getElem?_toArray, List.getElem?_cons_succ, List.getElem?_cons_zero]; rfl)
      case td43 => exact rfl
      case tg43 => exact rfl
      case ty43 => (intro w hSw; (try dsimp only at hSw); go_split_ands; go_simp; try with_reducible rfl)
      simp only [List.setIfInBounds_toArray, List.set_cons_zero, List.set_cons_succ]
      refine' takeV 7 (oi := _) (d := _) (v := _) ?ti44 ?td44 (by kernel_rfl) (by kernel_rfl) (by kernel_rfl) (by kernel_rfl) (by decide) (fun _ _ _ _ _ h => h) ?tg44 ?ty44 (by assumption) ?tr44
      case ti44 => (simp only [List.getElem?_toArray, List.getElem?_cons_succ, List.getElem?_cons_zero]; rfl)
      case td44 => exact rfl
      case tg44 => exact rfl
      case ty44 => (intro w hSw; (try dsimp only at hSw); go_split_ands; go_simp; try with_reducible rfl)
      simp only [List.setIfInBounds_toArray, List.set_cons_zero, List.set_cons_succ]
      refine' takeV 8 (oi := _) (d := _) (v := _) ?ti45 ?td45 (by kernel_rfl) (by kernel_rfl) (by kernel_rfl) (by kernel_rfl) (by decide) (fun _ _ _ _ _ h => h) ?tg45 ?ty45 (by assumption) ?tr45
      case ti45 => (simp only [List.getElem?_toArray, List.getElem?_cons_succ, List.getElem?_cons_zero]; rfl)
      case td45 => exact rfl
      case tg45 => exact rfl
      case ty45 => (intro w hSw; (try dsimp only at hSw); go_split_ands; go_simp; try with_reducible rfl)
      simp only [List.setIfInBounds_toArray, List.set_cons_zero, List.set_cons_succ]
      refine' takeV 9 (oi := _) (d := _) (v := _) ?ti46 ?td46 (by kernel_rfl) (by kernel_rfl) (by kernel_rfl) (by kernel_rfl) (by decide) (fun _ _ _ _ _ h => h) ?tg46 ?ty46 (by assumption) ?tr46
      case ti46 => (simp only [List.getElem?_toArray, List.getElem?_cons_succ, List.getElem?_cons_zero]; rfl)
      case td46 => exact rfl
      case tg46 => exact rfl
      case ty46 => (intro w hSw; (try dsimp only at hSw); go_split_ands; go_simp; try with_reducible rfl)
      simp only [List.setIfInBounds_toArray, List.set_cons_zero, List.set_cons_succ]
      refine' takeV 10 (oi := _) (d := _) (v := _) ?ti47 ?td47 (by kernel_rfl) (by kernel_rfl) (by kernel_rfl) (by kernel_rfl) (by decide) (fun _ _ _ _ _ h => h) ?tg47 ?ty47 (by assumption) ?tr47
      case ti47 => (simp only [List.getElem?_toArray, List.getElem?_cons_succ, List.getElem?_cons_zero]; rfl)
      case td47 => exact rfl
      case tg47 => exact rfl
      case ty47 => (intro w hSw; (try dsimp only at hSw); go_split_ands; go_simp; try with_reducible rfl)
      simp only [List.setIfInBounds_toArray, List.set_cons_zero, List.set_cons_succ]
      obtain ⟨V0, hV0⟩ : ∃ V0, V0 = W.drew := ⟨_, rfl⟩
      have B0 : Below W.heap.size W V0 := by rw [hV0]; exact (Below.refl _ _).drew
      rw [← hV0]
      clear hV0 hHeld
      have HD0 := Lib.hid (HD.out.below B0)
      have KY0 := Lib.hid (KY.out.below B0 KY.out.lt)
      have HG1 := Lib.hid (gz_trans HG0.out (gz_of B0 _))
      have k0 := HD0.out.bz.cell 0
      have k1 := HD0.out.bz.cell 1
      have k2 := HD0.out.bz.cell 2
      have f2 := HD0.out.bz.frozen 2
      have f1 := HD0.out.bz.frozen 1
      clear B0
      refine doneG (by kernel_rfl) ?_ _
      go_upto_region 5 with fail
      obtain ⟨V, hV⟩ : ∃ V, V = V0.setCell ⟨Z, 2, none⟩ (.int .i64 224) := ⟨_, rfl⟩
      have KV : Hid (Blk V Y 47 [Value.int .u32 0, .int .u64 0, .int .u16 0].toArray) := by rw [hV]; exact KY0.out.far (by show Y ≠ Z; omega) _
      have HDF : Hid (RDS V Z A c l (.error 224) p) := by rw [hV]; exact HD0.out.fault 224
      have HGF : Hid (w.grownBy V (some Z)) := by rw [hV]; exact gz_set HG1.out (.inl rfl) _
      rw [← hV]
      clear hV
      go_wp2_with (with_reducible refine wpList_store_blk rfl 47 (.tmp 2) (.tmp 24) rfl rfl (cs := [Value.int .u32 0, .int .u64 0, .int .u16 0]) rfl KV.out (Eq.refl _) HIR.out HOR.out ?_; intro wa hka hga)
      rw [HP.out]
      refine bodyPost_ret (v := RfV r0) (ret_blk (p := 2) rfl rfl hka _ Try.underlying47 rfl (by kernel_rfl)) rfl ⟨rfl, ⟨p, HDF.out.kept hga hZ⟩, gz_new HGF.out hga (Nat.le_of_eq HY.out)⟩
    · have i3 : ¬ ((p : Int) + 14 > 224) := by omega
      have i4 : decide ((p : Int) + 14 > 224) = false := decide_eq_false i3
      have i5 : decide ((224 : Int) < (p : Int) + 14) = false := decide_eq_false i3
      obtain ⟨b, o, rfl, _⟩ := HD.out.rd.at_ (by omega)
      have hcap := HD.out.rd.cap
      have hmax := HD.out.rd.max
      unfold maxLen at hmax
      have hHcp : ¬ (c = p) := by omega
      have HRP : Hid (∀ V, Rd V (some ⟨b, o, none⟩) 224 c l → Rd V (some ⟨b, o + p, none⟩) 14 (c - p) ((l.drop p).take 14)) := fun V hr => hr.part p 14 (c - p) (some ⟨b, o + p, none⟩) (fun _ => rfl) (by omega) (by omega) (by unfold maxLen; omega)
      have j1 : (0 : Int) ≤ (p : Int) + 14 := by omega
      have j2 : (p : Int) + 14 ≤ (c : Int) := by omega
      have j3 : p ≤ ((p : Int) + 14).toNat := by omega
      have j4 : ((p : Int) + 14).toNat - p = 14 := by omega
      cases hz : zeros ((l.drop p).take 14) with
      | true =>
        have HP : Hid (pnR l (.ok p) = (r0, .error p)) := pnR_bad (by unfold pn; rw [if_neg h14, if_pos hz])
        have HZZ := Lib.hid hz
        clear h14 hz
        go_enter Try.func62, Try.ntmps62
        go_upto_region 1 with fail
        rw [← HW.out, HY.out]
        go_upto_region 3 with fail
        refine region_gate 11 (fun wx => wx.cell? ⟨Z, 0, none⟩ = some (.slice (some ⟨b, o, none⟩) 224 c) ∧ wx.cell? ⟨Z, 1, none⟩ = some (.int .i64 (p : Int))) (by kernel_rfl) ?th48 (fun hHeld => ?tk48)
        case th48 => ((try dsimp only); exact ⟨k0, k1⟩)
        refine' takeV 0 (oi := _) (d := _) (v := _) ?ti49 ?td49 (by kernel_rfl) (by kernel_rfl) (by kernel_rfl) (by kernel_rfl) (by decide) (fun _ _ _ _ _ h => h) ?tg49 ?ty49 (by assumption) ?tr49
        case ti49 => (simp only [List.getElem?_toArray, List.getElem?_cons_succ, List.getElem?_cons_zero]; rfl)
        case td49 => exact rfl
        case tg49 => exact rfl
        case ty49 => (intro w hSw; (try dsimp only at hSw); go_split_ands; go_simp; try with_reducible rfl)
        simp only [List.setIfInBounds_toArray, List.set_cons_zero, List.set_cons_succ]
        refine' takeV 1 (oi := _) (d := _) (v := _) ?ti50 ?td50 (by kernel_rfl) (by kernel_rfl) (by kernel_rfl) (by kernel_rfl) (by decide) (fun _ _ _ _ _ h => h) ?tg50 ?ty50 (by assumption) ?tr50
        case ti50 => (simp only [List.getElem?_toArray, List.getElem?_cons_succ, List.getElem?_cons_zero]; rfl)
        case td50 => exact rfl
        case tg50 => exact rfl
        case ty50 => (intro w hSw; (try dsimp only at hSw); go_split_ands; go_simp; try with_reducible rfl)
        simp only [List.setIfInBounds_toArray, List.set_cons_zero, List.set_cons_succ]
        refine' takeV 2 (oi := _) (d := _) (v := _) ?ti51 ?td51 (by kernel_rfl) (by kernel_rfl) (by kernel_rfl) (by kernel_rfl) (by decide) (fun _ _ _ _ _ h => h) ?tg51 ?ty51 (by assumption) ?tr51
        case ti51 => (simp only [List.getElem?_toArray, List.getElem?_cons_succ, List.getElem?_cons_zero]; rfl)
        case td51 => exact rfl
        case tg51 => exact rfl
        case ty51 => (intro w hSw; (try dsimp only at hSw); go_split_ands; go_simp; try with_reducible rfl)
        simp only [List.setIfInBounds_toArray, List.set_cons_zero, List.set_cons_succ]
        refine' takeV 3 (oi := _) (d := _) (v := _) ?ti52 ?td52 (by kernel_rfl) (by kernel_rfl) (by kernel_rfl) (by kernel_rfl) (by decide) (fun _ _ _ _ _ h => h) ?tg52 ?ty52 (by assumption) ?tr52
        case ti52 => (simp only [List.getElem?_toArray, List.getElem?_cons_succ, List.getElem?_cons_zero]; rfl)
        case td52 => exact rfl
        case tg52 => exact rfl
        case ty52 => (intro w hSw; (try dsimp only at hSw); go_split_ands; go_simp; try with_reducible rfl)
        simp only [List.setIfInBounds_toArray, List.set_cons_zero, List.set_cons_succ]
        refine' takeV 4 (oi := _) (d := _) (v := _) ?ti53 ?td53 (by kernel_rfl) (by kernel_rfl) (by kernel_rfl) (by kernel_rfl) (by decide) (fun _ _ _ _ _ h => h) ?tg53 ?ty53 (by assumption) ?tr53
        case ti53 => (simp only [List.getElem?_toArray, List.getElem?_cons_succ, List.getElem?_cons_zero]; rfl)
        case td53 => exact rfl
        case tg53 => exact rfl
        case ty53 => (intro w hSw; (try dsimp only at hSw); go_split_ands; go_simp; try with_reducible rfl)
        simp only [List.setIfInBounds_toArray, List.set_cons_zero, List.set_cons_succ]
        refine' takeV 5 (oi := _) (d := _) (v := _) ?ti54 ?td54 (by kernel_rfl) (by kernel_rfl) (by kernel_rfl) (by kernel_rfl) (by decide) (fun _ _ _ _ _ h => h) ?tg54 ?ty54 (by assumption) ?tr54
        case ti54 => (simp only [List.getElem?_toArray, List.getElem?_cons_succ, List.getElem?_cons_zero]; rfl)
        case td54 => exact rfl
        case tg54 => exact rfl
        case ty54 => (intro w hSw; (try dsimp only at hSw); go_split_ands; go_simp; try with_reducible rfl)
        simp only [List.setIfInBounds_toArray, List.set_cons_zero, List.set_cons_succ]
        refine' takeV 6 (oi := _) (d := _) (v := _) ?ti55 ?td55 (by kernel_rfl) (by kernel_rfl) (by kernel_rfl) (by kernel_rfl) (by decide) (fun _ _ _ _ _ h => h) ?tg55 ?ty55 (by assumption) ?tr55
        case ti55 => (simp only [List.getElem?_toArray, List.getElem?_cons_succ, List.getElem?_cons_zero]; rfl)
        case td55 => exact rfl
        case tg55 => exact rfl
        case ty55 => (intro w hSw; (try dsimp only at hSw); go_split_ands; go_simp; try with_reducible rfl)
        simp only [List.setIfInBounds_toArray, List.set_cons_zero, List.set_cons_succ]
        refine' takeV 7 (oi := _) (d := _) (v := _) ?ti56 ?td56 (by kernel_rfl) (by kernel_rfl) (by kernel_rfl) (by kernel_rfl) (by decide) (fun _ _ _ _ _ h => h) ?tg56 ?ty56 (by assumption) ?tr56
        case ti56 => (simp only [List.getElem?_toArray, List.getElem?_cons_succ, List.getElem?_cons_zero]; rfl)
        case td56 => exact rfl
        case tg56 => exact rfl
        case ty56 => (intro w hSw; (try dsimp only at hSw); go_split_ands; go_simp; try with_reducible rfl)
        simp only [List.setIfInBounds_toArray, List.set_cons_zero, List.set_cons_succ]
        refine' takeV 8 (oi := _) (d := _) (v := _) ?ti57 ?td57 (by kernel_rfl) (by kernel_rfl) (by kernel_rfl) (by kernel_rfl) (by decide) (fun _ _ _ _ _ h => h) ?tg57 ?ty57 (by assumption) ?tr57
        case ti57 => (simp only [List.getElem?_toArray, List.getElem?_cons_succ, List.getElem?_cons_zero]; rfl)
        case td57 => exact rfl
        case tg57 => exact rfl
        case ty57 => (intro w hSw; (try dsimp only at hSw); go_split_ands; go_simp; try with_reducible rfl)
        simp only [List.setIfInBounds_toArray, List.set_cons_zero, List.set_cons_succ]
        refine' takeV 9 (oi := _) (d := _) (v := _) ?ti58 ?td58 (by kernel_rfl) (by kernel_rfl) (by kernel_rfl) (by kernel_rfl) (by decide) (fun _ _ _ _ _ h => h) ?tg58 ?ty58 (by assumption) ?tr58
        case ti58 => (simp only [List.getElem?_toArray, List.getElem?_cons_succ, List.getElem?_cons_zero]; rfl)
        case td58 => exact rfl
        case tg58 => exact rfl
        case ty58 => (intro w hSw; (try dsimp only at hSw); go_split_ands; go_simp; try with_reducible rfl)
        simp only [List.setIfInBounds_toArray, List.set_cons_zero, List.set_cons_succ]
        refine' takeV 10 (oi := _) (d := _) (v := _) ?ti59 ?td59 (by kernel_rfl) (by kernel_rfl) (by kernel_rfl) (by kernel_rfl) (by decide) (fun _ _ _ _ _ h => h) ?tg59 ?ty59 (by assumption) ?tr59
        case ti59 => (simp only [List.getElem?_toArray, List.getElem?_cons_succ, List.getElem?_cons_zero]; rfl)
        case td59 => exact rfl
        case tg59 => exact rfl
        case ty59 => (intro w hSw; (try dsimp only at hSw); go_split_ands; go_simp; try with_reducible rfl)
        simp only [List.setIfInBounds_toArray, List.set_cons_zero, List.set_cons_succ]
        obtain ⟨V0, hV0⟩ : ∃ V0, V0 = W.drew := ⟨_, rfl⟩
        have B0 : Below W.heap.size W V0 := by rw [hV0]; exact (Below.refl _ _).drew
        rw [← hV0]
        clear hV0 hHeld
        have HD0 := Lib.hid (HD.out.below B0)
        have KY0 := Lib.hid (KY.out.below B0 KY.out.lt)
        have HG1 := Lib.hid (gz_trans HG0.out (gz_of B0 _))
        have k0 := HD0.out.bz.cell 0
        have k1 := HD0.out.bz.cell 1
        have k2 := HD0.out.bz.cell 2
        have f2 := HD0.out.bz.frozen 2
        have f1 := HD0.out.bz.frozen 1
        clear B0
        refine doneG (by kernel_rfl) ?_ _
        go_upto_region 6 with fail
        refine region_gate 15 (fun wx => wx.cell? ⟨Z, 0, none⟩ = some (.slice (some ⟨b, o, none⟩) 224 c) ∧ wx.cell? ⟨Z, 1, none⟩ = some (.int .i64 (p : Int))) (by kernel_rfl) ?th60 (fun hHeld => ?tk60)
        case th60 => ((try dsimp only); exact ⟨k0, k1⟩)
        refine' takeV 0 (oi := _) (d := _) (v := _) ?ti61 ?td61 (by kernel_rfl) (by kernel_rfl) (by kernel_rfl) (by kernel_rfl) (by decide) (fun _ _ _ _ _ h => h) ?tg61 ?ty61 (by assumption) ?tr61
        case ti61 => (simp only [List.getElem?_toArray, List.getElem?_cons_succ, List.getElem?_cons_zero]; rfl)
        case td61 => exact rfl
        case tg61 => exact rfl
        case ty61 => (intro w hSw; (try dsimp only at hSw); go_split_ands; go_simp; try with_reducible rfl)
        simp only [List.setIfInBounds_toArray, List.set_cons_zero, List.set_cons_succ]
        refine' takeV 1 (oi := _) (d := _) (v := _) ?ti62 ?td62 (by kernel_rfl) (by kernel_rfl) (by kernel_rfl) (by kernel_rfl) (by decide) (fun _ _ _ _ _ h => h) ?tg62 ?ty62 (by assumption) ?tr62
        case ti62 => (simp only [List.getElem?_toArray, List.getElem?_cons_succ, List.getElem?_cons_zero]; rfl)
        case td62 => exact rfl
        case tg62 => exact rfl
        case ty62 => (intro w hSw; (try dsimp only at hSw); go_split_ands; go_simp; try with_reducible rfl)
        simp only [List.setIfInBounds_toArray, List.set_cons_zero, List.set_cons_succ]
        refine' takeV 2 (oi := _) (d := _) (v := _) ?ti63 ?td63 (by kernel_rfl) (by kernel_rfl) (by kernel_rfl) (by kernel_rfl) (by decide) (fun _ _ _ _ _ h => h) ?tg63 ?ty63 (by assumption) ?tr63
        case ti63 => (simp only [List.getElem?_toArray, List.getElem?_cons_succ, List.getElem?_cons_zero]; rfl)
        case td63 => exact rfl
        case tg63 => exact rfl
        case ty63 => (intro w hSw; (try dsimp only at hSw); go_split_ands; go_simp; try with_reducible rfl)
        simp only [List.setIfInBounds_toArray, List.set_cons_zero, List.set_cons_succ]
        refine' takeV 3 (oi := _) (d := _) (v := _) ?ti64 ?td64 (by kernel_rfl) (by kernel_rfl) (by kernel_rfl) (by kernel_rfl) (by decide) (fun _ _ _ _ _ h => h) ?tg64 ?ty64 (by assumption) ?tr64
        case ti64 => (simp only [List.getElem?_toArray, List.getElem?_cons_succ, List.getElem?_cons_zero]; rfl)
        case td64 => exact rfl
        case tg64 => exact rfl
        case ty64 => (intro w hSw; (try dsimp only at hSw); go_split_ands; go_simp; try with_reducible rfl)
        simp only [List.setIfInBounds_toArray, List.set_cons_zero, List.set_cons_succ]
        refine' takeV 4 (oi := _) (d := _) (v := _) ?ti65 ?td65 (by kernel_rfl) (by kernel_rfl) (by kernel_rfl) (by kernel_rfl) (by decide) (fun _ _ _ _ _ h => h) ?tg65 ?ty65 (by assumption) ?tr65
        case ti65 => (simp only [List.getElem?_toArray, List.getElem?_cons_succ, List.getElem?_cons_zero]; rfl)
        case td65 => exact rfl
        case tg65 => exact rfl
        case ty65 => (intro w hSw; (try dsimp only at hSw); go_split_ands; go_simp; try with_reducible rfl)
        simp only [List.setIfInBounds_toArray, List.set_cons_zero, List.set_cons_succ]
        refine' takeV 5 (oi := _) (d := _) (v := _) ?ti66 ?td66 (by kernel_rfl) (by kernel_rfl) (by kernel_rfl) (by kernel_rfl) (by decide) (fun _ _ _ _ _ h => h) ?tg66 ?ty66 (by assumption) ?tr66
        case ti66 => (simp only [List.getElem?_toArray, List.getElem?_cons_succ, List.getElem?_cons_zero]; rfl)
        case td66 => exact rfl
        case tg66 => exact rfl
        case ty66 => (intro w hSw; (try dsimp only at hSw); go_split_ands; go_simp; try with_reducible rfl)
        simp only [List.setIfInBounds_toArray, List.set_cons_zero, List.set_cons_succ]
        refine' takeV 6 (oi := _) (d := _) (v := _) ?ti67 ?td67 (by kernel_rfl) (by kernel_rfl) (by kernel_rfl) (by kernel_rfl) (by decide) (fun _ _ _ _ _ h => h) ?tg67 ?ty67 (by assumption) ?tr67
        case ti67 => (simp only [List.getElem?_toArray, List.getElem?_cons_succ, List.getElem?_cons_zero]; rfl)
        case td67 => exact rfl
        case tg67 => exact rfl
        case ty67 => (intro w hSw; (try dsimp only at hSw); go_split_ands; go_simp; try with_reducible rfl)
        simp only [List.setIfInBounds_toArray, List.set_cons_zero, List.set_cons_succ]
        refine' takeV 7 (oi := _) (d := _) (v := _) ?ti68 ?td68 (by kernel_rfl) (by kernel_rfl) (by kernel_rfl) (by kernel_rfl) (by decide) (fun _ _ _ _ _ h => h) ?tg68 ?ty68 (by assumption) ?tr68
        case ti68 => (simp only [List.getElem?_toArray, List.getElem?_cons_succ, List.getElem?_cons_zero]; rfl)
        case td68 => exact rfl
        case tg68 => exact rfl
        case ty68 => (intro w hSw; (try dsimp only at hSw); go_split_ands; go_simp; try with_reducible rfl)
        simp only [List.setIfInBounds_toArray, List.set_cons_zero, List.set_cons_succ]
        refine' takeV 8 (oi := _) (d := _) (v := _) ?ti69 ?td69 (by kernel_rfl) (by kernel_rfl) (by kernel_rfl) (by kernel_rfl) (by decide) (fun _ _ _ _ _ h => h) ?tg69 ?ty69 (by assumption) ?tr69
        case ti69 => (simp only [List.getElem?_toArray, List.getElem?_cons_succ, List.getElem?_cons_zero]; rfl)
        case td69 => exact rfl
        case tg69 => exact rfl
        case ty69 => (intro w hSw; (try dsimp only at hSw); go_split_ands; go_simp; try with_reducible rfl)
        simp only [List.setIfInBounds_toArray, List.set_cons_zero, List.set_cons_succ]
        refine' takeV 9 (oi := _) (d := _) (v := _) ?ti70 ?td70 (by kernel_rfl) (by kernel_rfl) (by kernel_rfl) (by kernel_rfl) (by decide) (fun _ _ _ _ _ h => h) ?tg70 ?ty70 (by assumption) ?tr70
        case ti70 => (simp only [List.getElem?_toArray, List.getElem?_cons_succ, List.getElem?_cons_zero]; rfl)
        case td70 => exact rfl
        case tg70 => exact rfl
        case ty70 => (intro w hSw; (try dsimp only at hSw); go_split_ands; go_simp; try with_reducible rfl)
        simp only [List.setIfInBounds_toArray, List.set_cons_zero, List.set_cons_succ]
        refine' takeV 10 (oi := _) (d := _) (v := _) ?ti71 ?td71 (by kernel_rfl) (by kernel_rfl) (by kernel_rfl) (by kernel_rfl) (by decide) (fun _ _ _ _ _ h => h) ?tg71 ?ty71 (by assumption) ?tr71
        case ti71 => (simp only [List.getElem?_toArray, List.getElem?_cons_succ, List.getElem?_cons_zero]; rfl)
        case td71 => exact rfl
        case tg71 => exact rfl
        case ty71 => (intro w hSw; (try dsimp only at hSw); go_split_ands; go_simp; try with_reducible rfl)
        simp only [List.setIfInBounds_toArray, List.set_cons_zero, List.set_cons_succ]
        refine' takeV 11 (oi := _) (d := _) (v := _) ?ti72 ?td72 (by kernel_rfl) (by kernel_rfl) (by kernel_rfl) (by kernel_rfl) (by decide) (fun _ _ _ _ _ h => h) ?tg72 ?ty72 (by assumption) ?tr72
        case ti72 => (simp only [List.getElem?_toArray, List.getElem?_cons_succ, List.getElem?_cons_zero]; rfl)
        case td72 => exact rfl
        case tg72 => exact rfl
        case ty72 => (intro w hSw; (try dsimp only at hSw); go_split_ands; go_simp; try with_reducible rfl)
        simp only [List.setIfInBounds_toArray, List.set_cons_zero, List.set_cons_succ]
        refine' takeV 12 (oi := _) (d := _) (v := _) ?ti73 ?td73 (by kernel_rfl) (by kernel_rfl) (by kernel_rfl) (by kernel_rfl) (by decide) (fun _ _ _ _ _ h => h) ?tg73 ?ty73 (by assumption) ?tr73
        case ti73 => (simp only [List.getElem?_toArray, List.getElem?_cons_succ, List.getElem?_cons_zero]; rfl)
        case td73 => exact rfl
        case tg73 => exact rfl
        case ty73 => (intro w hSw; (try dsimp only at hSw); go_split_ands; go_simp; try with_reducible rfl)
        simp only [List.setIfInBounds_toArray, List.set_cons_zero, List.set_cons_succ]
        refine' takeV 13 (oi := _) (d := _) (v := _) ?ti74 ?td74 (by kernel_rfl) (by kernel_rfl) (by kernel_rfl) (by kernel_rfl) (by decide) (fun _ _ _ _ _ h => h) ?tg74 ?ty74 (by assumption) ?tr74
        case ti74 => (simp only [List.getElem?_toArray, List.getElem?_cons_succ, List.getElem?_cons_zero]; rfl)
        case td74 => exact rfl
        case tg74 => exact rfl
        case ty74 => (intro w hSw; (try dsimp only at hSw); have htx := hHcp; go_split_ands; go_simp; try with_reducible rfl)
        simp only [List.setIfInBounds_toArray, List.set_cons_zero, List.set_cons_succ]
        refine' takeV 14 (oi := _) (d := _) (v := _) ?ti75 ?td75 (by kernel_rfl) (by kernel_rfl) (by kernel_rfl) (by kernel_rfl) (by decide) (fun _ _ _ _ _ h => h) ?tg75 ?ty75 (by assumption) ?tr75
        case ti75 => (simp only [List.getElem?_toArray, List.getElem?_cons_succ, List.getElem?_cons_zero]; rfl)
        case td75 => exact rfl
        case tg75 => exact rfl
        case ty75 => (intro w hSw; (try dsimp only at hSw); go_split_ands; go_simp; try with_reducible rfl)
        simp only [List.setIfInBounds_toArray, List.set_cons_zero, List.set_cons_succ]
        obtain ⟨V1, hV1⟩ : ∃ V1, V1 = V0.drew := ⟨_, rfl⟩
        have B0 : Below V0.heap.size V0 V1 := by rw [hV1]; exact (Below.refl _ _).drew
        rw [← hV1]
        clear hV1 hHeld
        have HD1 := Lib.hid (HD0.out.below B0)
        have KY1 := Lib.hid (KY0.out.below B0 KY0.out.lt)
        have HG2 := Lib.hid (gz_trans HG1.out (gz_of B0 _))
        have k0 := HD1.out.bz.cell 0
        have k1 := HD1.out.bz.cell 1
        have k2 := HD1.out.bz.cell 2
        have f2 := HD1.out.bz.frozen 2
        have f1 := HD1.out.bz.frozen 1
        clear B0
        refine doneG (by kernel_rfl) ?_ _
        have HC := Lib.hid (refnought_any _ _ _ _ V1 (HRP.out _ HD1.out.rd))
        rw [HZZ.out] at HC
        go_wp2_with fail
        refine HC.out.mono ?_
        rintro e w1 ⟨rfl, rfl⟩
        go_upto_region 9 with fail
        obtain ⟨V, hV⟩ : ∃ V, V = V1.setCell ⟨Z, 2, none⟩ (.int .i64 (p : Int)) := ⟨_, rfl⟩
        have KV : Hid (Blk V Y 47 [Value.int .u32 0, .int .u64 0, .int .u16 0].toArray) := by rw [hV]; exact KY1.out.far (by show Y ≠ Z; omega) _
        have HDF : Hid (RDS V Z (some ⟨b, o, none⟩) c l (.error p) p) := by rw [hV]; exact HD1.out.fault p
        have HGF : Hid (w.grownBy V (some Z)) := by rw [hV]; exact gz_set HG2.out (.inl rfl) _
        rw [← hV]
        clear hV HC
        go_wp2_with (with_reducible refine wpList_store_blk rfl 47 (.tmp 2) (.tmp 48) rfl rfl (cs := [Value.int .u32 0, .int .u64 0, .int .u16 0]) rfl KV.out (Eq.refl _) HIR.out HOR.out ?_; intro wa hka hga)
        rw [HP.out]
        refine bodyPost_ret (v := RfV r0) (ret_blk (p := 2) rfl rfl hka _ Try.underlying47 rfl (by kernel_rfl)) rfl ⟨rfl, ⟨p, HDF.out.kept hga hZ⟩, gz_new HGF.out hga (Nat.le_of_eq HY.out)⟩
      | false =>
        have hN4 := num_lt ((l.drop p).take 4)
        have hN2 := num_lt ((l.drop (p + 12)).take 2)
        have hN8 := num_lt ((l.drop (p + 4)).take 8)
        have hlen := HD.out.rd.len
        rw [List.length_take, List.length_drop] at hN4 hN2 hN8
        rw [show min 4 (l.length - p) = 4 by omega] at hN4
        rw [show min 2 (l.length - (p + 12)) = 2 by omega] at hN2
        rw [show min 8 (l.length - (p + 4)) = 8 by omega] at hN8
        obtain ⟨x4, hx4⟩ : ∃ x, num ((l.drop p).take 4) = x := ⟨_, rfl⟩
        obtain ⟨x8, hx8⟩ : ∃ x, num ((l.drop (p + 4)).take 8) = x := ⟨_, rfl⟩
        obtain ⟨x2, hx2⟩ : ∃ x, num ((l.drop (p + 12)).take 2) = x := ⟨_, rfl⟩
        have HP : Hid (pnR l (.ok p) = ((x4, x8, x2), .ok (p + 14))) := pnR_ok (by unfold pn; rw [if_neg h14, if_neg (by rw [hz]; decide), hx4, hx8, hx2])
        rw [hx4] at hN4
        rw [hx2] at hN2
        rw [hx8] at hN8
        have HX : Hid (num ((l.drop p).take 4) = x4 ∧ num ((l.drop (p + 4)).take 8) = x8 ∧ num ((l.drop (p + 12)).take 2) = x2) := ⟨hx4, hx8, hx2⟩
        have HZZ := Lib.hid hz
        have w4 : Hid (IntKind.u32.wrap (x4 : Int) = (x4 : Int)) := IntWalk.u32_in _ (by omega)
        have w2 : Hid (IntKind.u16.wrap (x2 : Int) = (x2 : Int)) := IntWalk.u16_in _ (by omega)
        clear h14 hz hx4 hx8 hx2 hlen
        go_enter Try.func62, Try.ntmps62
        go_upto_region 1 with fail
        rw [← HW.out, HY.out]
        go_upto_region 3 with fail
        refine region_gate 11 (fun wx => wx.cell? ⟨Z, 0, none⟩ = some (.slice (some ⟨b, o, none⟩) 224 c) ∧ wx.cell? ⟨Z, 1, none⟩ = some (.int .i64 (p : Int))) (by kernel_rfl) ?th76 (fun hHeld => ?tk76)
        case th76 => ((try dsimp only); exact ⟨k0, k1⟩)
        refine' takeV 0 (oi := _) (d := _) (v := _) ?ti77 ?td77 (by kernel_rfl) (by kernel_rfl) (by kernel_rfl) (by kernel_rfl) (by decide) (fun _ _ _ _ _ h => h) ?tg77 ?ty77 (by assumption) ?tr77
        case ti77 => (simp only [List.getElem?_toArray, List.getElem?_cons_succ, List.getElem?_cons_zero]; rfl)
        case td77 => exact rfl
        case tg77 => exact rfl
        case ty77 => (intro w hSw; (try dsimp only at hSw); go_split_ands; go_simp; try with_reducible rfl)
        simp only [List.setIfInBounds_toArray, List.set_cons_zero, List.set_cons_succ]
        refine' takeV 1 (oi := _) (d := _) (v := _) ?ti78 ?td78 (by kernel_rfl) (by kernel_rfl) (by kernel_rfl) (by kernel_rfl) (by decide) (fun _ _ _ _ _ h => h) ?tg78 ?ty78 (by assumption) ?tr78
        case ti78 => (simp only [List.getElem?_toArray, List.getElem?_cons_succ, List.getElem?_cons_zero]; rfl)
        case td78 => exact rfl
        case tg78 => exact rfl
        case ty78 => (intro w hSw; (try dsimp only at hSw); go_split_ands; go_simp; try with_reducible rfl)
        simp only [List.setIfInBounds_toArray, List.set_cons_zero, List.set_cons_succ]
        refine' takeV 2 (oi := _) (d := _) (v := _) ?ti79 ?td79 (by kernel_rfl) (by kernel_rfl) (by kernel_rfl) (by kernel_rfl) (by decide) (fun _ _ _ _ _ h => h) ?tg79 ?ty79 (by assumption) ?tr79
        case ti79 => (simp only [List.getElem?_toArray, List.getElem?_cons_succ, List.getElem?_cons_zero]; rfl)
        case td79 => exact rfl
        case tg79 => exact rfl
        case ty79 => (intro w hSw; (try dsimp only at hSw); go_split_ands; go_simp; try with_reducible rfl)
        simp only [List.setIfInBounds_toArray, List.set_cons_zero, List.set_cons_succ]
        refine' takeV 3 (oi := _) (d := _) (v := _) ?ti80 ?td80 (by kernel_rfl) (by kernel_rfl) (by kernel_rfl) (by kernel_rfl) (by decide) (fun _ _ _ _ _ h => h) ?tg80 ?ty80 (by assumption) ?tr80
        case ti80 => (simp only [List.getElem?_toArray, List.getElem?_cons_succ, List.getElem?_cons_zero]; rfl)
        case td80 => exact rfl
        case tg80 => exact rfl
        case ty80 => (intro w hSw; (try dsimp only at hSw); go_split_ands; go_simp; try with_reducible rfl)
        simp only [List.setIfInBounds_toArray, List.set_cons_zero, List.set_cons_succ]
        refine' takeV 4 (oi := _) (d := _) (v := _) ?ti81 ?td81 (by kernel_rfl) (by kernel_rfl) (by kernel_rfl) (by kernel_rfl) (by decide) (fun _ _ _ _ _ h => h) ?tg81 ?ty81 (by assumption) ?tr81
        case ti81 => (simp only [List.getElem?_toArray, List.getElem?_cons_succ, List.getElem?_cons_zero]; rfl)
        case td81 => exact rfl
        case tg81 => exact rfl
        case ty81 => (intro w hSw; (try dsimp only at hSw); go_split_ands; go_simp; try with_reducible rfl)
        simp only [List.setIfInBounds_toArray, List.set_cons_zero, List.set_cons_succ]
        refine' takeV 5 (oi := _) (d := _) (v := _) ?ti82 ?td82 (by kernel_rfl) (by kernel_rfl) (by kernel_rfl) (by kernel_rfl) (by decide) (fun _ _ _ _ _ h => h) ?tg82 ?ty82 (by assumption) ?tr82
        case ti82 => (simp only [List.getElem?_toArray, List.getElem?_cons_succ, List.getElem?_cons_zero]; rfl)
        case td82 => exact rfl
        case tg82 => exact rfl
        case ty82 => (intro w hSw; (try dsimp only at hSw); go_split_ands; go_simp; try with_reducible rfl)
        simp only [List.setIfInBounds_toArray, List.set_cons_zero, List.set_cons_succ]
        refine' takeV 6 (oi := _) (d := _) (v := _) ?ti83 ?td83 (by kernel_rfl) (by kernel_rfl) (by kernel_rfl) (by kernel_rfl) (by decide) (fun _ _ _ _ _ h => h) ?tg83 ?ty83 (by assumption) ?tr83
        case ti83 => (simp only [List.getElem?_toArray, List.getElem?_cons_succ, List.getElem?_cons_zero]; rfl)
        case td83 => exact rfl
        case tg83 => exact rfl
        case ty83 => (intro w hSw; (try dsimp only at hSw); go_split_ands; go_simp; try with_reducible rfl)
        simp only [List.setIfInBounds_toArray, List.set_cons_zero, List.set_cons_succ]
        refine' takeV 7 (oi := _) (d := _) (v := _) ?ti84 ?td84 (by kernel_rfl) (by kernel_rfl) (by kernel_rfl) (by kernel_rfl) (by decide) (fun _ _ _ _ _ h => h) ?tg84 ?ty84 (by assumption) ?tr84
        case ti84 => (simp only [List.getElem?_toArray, List.getElem?_cons_succ, List.getElem?_cons_zero]; rfl)
        case td84 => exact rfl
        case tg84 => exact rfl
        case ty84 => (intro w hSw; (try dsimp only at hSw); go_split_ands; go_simp; try with_reducible rfl)
        simp only [List.setIfInBounds_toArray, List.set_cons_zero, List.set_cons_succ]
        refine' takeV 8 (oi := _) (d := _) (v := _) ?ti85 ?td85 (by kernel_rfl) (by kernel_rfl) (by kernel_rfl) (by kernel_rfl) (by decide) (fun _ _ _ _ _ h => h) ?tg85 ?ty85 (by assumption) ?tr85
        case ti85 => (simp only [List.getElem?_toArray, List.getElem?_cons_succ, List.getElem?_cons_zero]; rfl)
        case td85 => exact rfl
        case tg85 => exact rfl
        case ty85 => (intro w hSw; (try dsimp only at hSw); go_split_ands; go_simp; try with_reducible rfl)
        simp only [List.setIfInBounds_toArray, List.set_cons_zero, List.set_cons_succ]
        refine' takeV 9 (oi := _) (d := _) (v := _) ?ti86 ?td86 (by kernel_rfl) (by kernel_rfl) (by kernel_rfl) (by kernel_rfl) (by decide) (fun _ _ _ _ _ h => h) ?tg86 ?ty86 (by assumption) ?tr86
        case ti86 => (simp only [List.getElem?_toArray, List.getElem?_cons_succ, List.getElem?_cons_zero]; rfl)
        case td86 => exact rfl
        case tg86 => exact rfl
        case ty86 => (intro w hSw; (try dsimp only at hSw); go_split_ands; go_simp; try with_reducible rfl)
        simp only [List.setIfInBounds_toArray, List.set_cons_zero, List.set_cons_succ]
        refine' takeV 10 (oi := _) (d := _) (v := _) ?ti87 ?td87 (by kernel_rfl) (by kernel_rfl) (by kernel_rfl) (by kernel_rfl) (by decide) (fun _ _ _ _ _ h => h) ?tg87 ?ty87 (by assumption) ?tr87
        case ti87 => (simp only [List.getElem?_toArray, List.getElem?_cons_succ, List.getElem?_cons_zero]; rfl)
        case td87 => exact rfl
        case tg87 => exact rfl
        case ty87 => (intro w hSw; (try dsimp only at hSw); go_split_ands; go_simp; try with_reducible rfl)
        simp only [List.setIfInBounds_toArray, List.set_cons_zero, List.set_cons_succ]
        obtain ⟨V0, hV0⟩ : ∃ V0, V0 = W.drew := ⟨_, rfl⟩
        have B0 : Below W.heap.size W V0 := by rw [hV0]; exact (Below.refl _ _).drew
        rw [← hV0]
        clear hV0 hHeld
        have HD0 := Lib.hid (HD.out.below B0)
        have KY0 := Lib.hid (KY.out.below B0 KY.out.lt)
        have HG1 := Lib.hid (gz_trans HG0.out (gz_of B0 _))
        have k0 := HD0.out.bz.cell 0
        have k1 := HD0.out.bz.cell 1
        have k2 := HD0.out.bz.cell 2
        have f2 := HD0.out.bz.frozen 2
        have f1 := HD0.out.bz.frozen 1
        clear B0
        refine doneG (by kernel_rfl) ?_ _
        go_upto_region 6 with fail
        refine region_gate 15 (fun wx => wx.cell? ⟨Z, 0, none⟩ = some (.slice (some ⟨b, o, none⟩) 224 c) ∧ wx.cell? ⟨Z, 1, none⟩ = some (.int .i64 (p : Int))) (by kernel_rfl) ?th88 (fun hHeld => ?tk88)
        case th88 => ((try dsimp only); exact ⟨k0, k1⟩)
        refine' takeV 0 (oi := _) (d := _) (v := _) ?ti89 ?td89 (by kernel_rfl) (by kernel_rfl) (by kernel_rfl) (by kernel_rfl) (by decide) (fun _ _ _ _ _ h => h) ?tg89 ?ty89 (by assumption) ?tr89
        case ti89 => (simp only [List.getElem?_toArray, List.getElem?_cons_succ, List.getElem?_cons_zero]; rfl)
        case td89 => exact rfl
        case tg89 => exact rfl
        case ty89 => (intro w hSw; (try dsimp only at hSw); go_split_ands; go_simp; try with_reducible rfl)
        simp only [List.setIfInBounds_toArray, List.set_cons_zero, List.set_cons_succ]
        refine' takeV 1 (oi := _) (d := _) (v := _) ?ti90 ?td90 (by kernel_rfl) (by kernel_rfl) (by kernel_rfl) (by kernel_rfl) (by decide) (fun _ _ _ _ _ h => h) ?tg90 ?ty90 (by assumption) ?tr90
        case ti90 => (simp only [List.getElem?_toArray, List.getElem?_cons_succ, List.getElem?_cons_zero]; rfl)
        case td90 => exact rfl
        case tg90 => exact rfl
        case ty90 => (intro w hSw; (try dsimp only at hSw); go_split_ands; go_simp; try with_reducible rfl)
        simp only [List.setIfInBounds_toArray, List.set_cons_zero, List.set_cons_succ]
        refine' takeV 2 (oi := _) (d := _) (v := _) ?ti91 ?td91 (by kernel_rfl) (by kernel_rfl) (by kernel_rfl) (by kernel_rfl) (by decide) (fun _ _ _ _ _ h => h) ?tg91 ?ty91 (by assumption) ?tr91
        case ti91 => (simp only [List.getElem?_toArray, List.getElem?_cons_succ, List.getElem?_cons_zero]; rfl)
        case td91 => exact rfl
        case tg91 => exact rfl
        case ty91 => (intro w hSw; (try dsimp only at hSw); go_split_ands; go_simp; try with_reducible rfl)
        simp only [List.setIfInBounds_toArray, List.set_cons_zero, List.set_cons_succ]
        refine' takeV 3 (oi := _) (d := _) (v := _) ?ti92 ?td92 (by kernel_rfl) (by kernel_rfl) (by kernel_rfl) (by kernel_rfl) (by decide) (fun _ _ _ _ _ h => h) ?tg92 ?ty92 (by assumption) ?tr92
        case ti92 => (simp only [List.getElem?_toArray, List.getElem?_cons_succ, List.getElem?_cons_zero]; rfl)
        case td92 => exact rfl
        case tg92 => exact rfl
        case ty92 => (intro w hSw; (try dsimp only at hSw); go_split_ands; go_simp; try with_reducible rfl)
        simp only [List.setIfInBounds_toArray, List.set_cons_zero, List.set_cons_succ]
        refine' takeV 4 (oi := _) (d := _) (v := _) ?ti93 ?td93 (by kernel_rfl) (by kernel_rfl) (by kernel_rfl) (by kernel_rfl) (by decide) (fun _ _ _ _ _ h => h) ?tg93 ?ty93 (by assumption) ?tr93
        case ti93 => (simp only [List.getElem?_toArray, List.getElem?_cons_succ, List.getElem?_cons_zero]; rfl)
        case td93 => exact rfl
        case tg93 => exact rfl
        case ty93 => (intro w hSw; (try dsimp only at hSw); go_split_ands; go_simp; try with_reducible rfl)
        simp only [List.setIfInBounds_toArray, List.set_cons_zero, List.set_cons_succ]
        refine' takeV 5 (oi := _) (d := _) (v := _) ?ti94 ?td94 (by kernel_rfl) (by kernel_rfl) (by kernel_rfl) (by kernel_rfl) (by decide) (fun _ _ _ _ _ h => h) ?tg94 ?ty94 (by assumption) ?tr94
        case ti94 => (simp only [List.getElem?_toArray, List.getElem?_cons_succ, List.getElem?_cons_zero]; rfl)
        case td94 => exact rfl
        case tg94 => exact rfl
        case ty94 => (intro w hSw; (try dsimp only at hSw); go_split_ands; go_simp; try with_reducible rfl)
        simp only [List.setIfInBounds_toArray, List.set_cons_zero, List.set_cons_succ]
        refine' takeV 6 (oi := _) (d := _) (v := _) ?ti95 ?td95 (by kernel_rfl) (by kernel_rfl) (by kernel_rfl) (by kernel_rfl) (by decide) (fun _ _ _ _ _ h => h) ?tg95 ?ty95 (by assumption) ?tr95
        case ti95 => (simp only [List.getElem?_toArray, List.getElem?_cons_succ, List.getElem?_cons_zero]; rfl)
        case td95 => exact rfl
        case tg95 => exact rfl
        case ty95 => (intro w hSw; (try dsimp only at hSw); go_split_ands; go_simp; try with_reducible rfl)
        simp only [List.setIfInBounds_toArray, List.set_cons_zero, List.set_cons_succ]
        refine' takeV 7 (oi := _) (d := _) (v := _) ?ti96 ?td96 (by kernel_rfl) (by kernel_rfl) (by kernel_rfl) (by kernel_rfl) (by decide) (fun _ _ _ _ _ h => h) ?tg96 ?ty96 (by assumption) ?tr96
        case ti96 => (simp only [List.getElem?_toArray, List.getElem?_cons_succ, List.getElem?_cons_zero]; rfl)
        case td96 => exact rfl
        case tg96 => exact rfl
        case ty96 => (intro w hSw; (try dsimp only at hSw); go_split_ands; go_simp; try with_reducible rfl)
        simp only [List.setIfInBounds_toArray, List.set_cons_zero, List.set_cons_succ]
        refine' takeV 8 (oi := _) (d := _) (v := _) ?ti97 ?td97 (by kernel_rfl) (by kernel_rfl) (by kernel_rfl) (by kernel_rfl) (by decide) (fun _ _ _ _ _ h => h) ?tg97 ?ty97 (by assumption) ?tr97
        case ti97 => (simp only [List.getElem?_toArray, List.getElem?_cons_succ, List.getElem?_cons_zero]; rfl)
        case td97 => exact rfl
        case tg97 => exact rfl
        case ty97 => (intro w hSw; (try dsimp only at hSw); go_split_ands; go_simp; try with_reducible rfl)
        simp only [List.setIfInBounds_toArray, List.set_cons_zero, List.set_cons_succ]
        refine' takeV 9 (oi := _) (d := _) (v := _) ?ti98 ?td98 (by kernel_rfl) (by kernel_rfl) (by kernel_rfl) (by kernel_rfl) (by decide) (fun _ _ _ _ _ h => h) ?tg98 ?ty98 (by assumption) ?tr98
        case ti98 => (simp only [List.getElem?_toArray, List.getElem?_cons_succ, List.getElem?_cons_zero]; rfl)
        case td98 => exact rfl
        case tg98 => exact rfl
        case ty98 => (intro w hSw; (try dsimp only at hSw); go_split_ands; go_simp; try with_reducible rfl)
        simp only [List.setIfInBounds_toArray, List.set_cons_zero, List.set_cons_succ]
        refine' takeV 10 (oi := _) (d := _) (v := _) ?ti99 ?td99 (by kernel_rfl) (by kernel_rfl) (by kernel_rfl) (by kernel_rfl) (by decide) (fun _ _ _ _ _ h => h) ?tg99 ?ty99 (by assumption) ?tr99
        case ti99 => (simp only [List.getElem?_toArray, List.getElem?_cons_succ, List.getElem?_cons_zero]; rfl)
        case td99 => exact rfl
        case tg99 => exact rfl
        case ty99 => (intro w hSw; (try dsimp only at hSw); go_split_ands; go_simp; try with_reducible rfl)
        simp only [List.setIfInBounds_toArray, List.set_cons_zero, List.set_cons_succ]
        refine' takeV 11 (oi := _) (d := _) (v := _) ?ti100 ?td100 (by kernel_rfl) (by kernel_rfl) (by kernel_rfl) (by kernel_rfl) (by decide) (fun _ _ _ _ _ h => h) ?tg100 ?ty100 (by assumption) ?tr100
        case ti100 => (simp only [List.getElem?_toArray, List.getElem?_cons_succ, List.getElem?_cons_zero]; rfl)
        case td100 => exact rfl
        case tg100 => exact rfl
        case ty100 => (intro w hSw; (try dsimp only at hSw); go_split_ands; go_simp; try with_reducible rfl)
        simp only [List.setIfInBounds_toArray, List.set_cons_zero, List.set_cons_succ]
        refine' takeV 12 (oi := _) (d := _) (v := _) ?ti101 ?td101 (by kernel_rfl) (by kernel_rfl) (by kernel_rfl) (by kernel_rfl) (by decide) (fun _ _ _ _ _ h => h) ?tg101 ?ty101 (by assumption) ?tr101
        case ti101 => (simp only [List.getElem?_toArray, List.getElem?_cons_succ, List.getElem?_cons_zero]; rfl)
        case td101 => exact rfl
        case tg101 => exact rfl
        case ty101 => (intro w hSw; (try dsimp only at hSw); go_split_ands; go_simp; try with_reducible rfl)
        simp only [List.setIfInBounds_toArray, List.set_cons_zero, List.set_cons_succ]
        refine' takeV 13 (oi := _) (d := _) (v := _) ?ti102 ?td102 (by kernel_rfl) (by kernel_rfl) (by kernel_rfl) (by kernel_rfl) (by decide) (fun _ _ _ _ _ h => h) ?tg102 ?ty102 (by assumption) ?tr102
        case ti102 => (simp only [List.getElem?_toArray, List.getElem?_cons_succ, List.getElem?_cons_zero]; rfl)
        case td102 => exact rfl
        case tg102 => exact rfl
        case ty102 => (intro w hSw; (try dsimp only at hSw); have htx := hHcp; go_split_ands; go_simp; try with_reducible rfl)
        simp only [List.setIfInBounds_toArray, List.set_cons_zero, List.set_cons_succ]
        refine' takeV 14 (oi := _) (d := _) (v := _) ?ti103 ?td103 (by kernel_rfl) (by kernel_rfl) (by kernel_rfl) (by kernel_rfl) (by decide) (fun _ _ _ _ _ h => h) ?tg103 ?ty103 (by assumption) ?tr103
        case ti103 => (simp only [List.getElem?_toArray, List.getElem?_cons_succ, List.getElem?_cons_zero]; rfl)
        case td103 => exact rfl
        case tg103 => exact rfl
        case ty103 => (intro w hSw; (try dsimp only at hSw); go_split_ands; go_simp; try with_reducible rfl)
        simp only [List.setIfInBounds_toArray, List.set_cons_zero, List.set_cons_succ]
        obtain ⟨V1, hV1⟩ : ∃ V1, V1 = V0.drew := ⟨_, rfl⟩
        have B0 : Below V0.heap.size V0 V1 := by rw [hV1]; exact (Below.refl _ _).drew
        rw [← hV1]
        clear hV1 hHeld
        have HD1 := Lib.hid (HD0.out.below B0)
        have KY1 := Lib.hid (KY0.out.below B0 KY0.out.lt)
        have HG2 := Lib.hid (gz_trans HG1.out (gz_of B0 _))
        have k0 := HD1.out.bz.cell 0
        have k1 := HD1.out.bz.cell 1
        have k2 := HD1.out.bz.cell 2
        have f2 := HD1.out.bz.frozen 2
        have f1 := HD1.out.bz.frozen 1
        clear B0
        refine doneG (by kernel_rfl) ?_ _
        have HC := Lib.hid (refnought_any _ _ _ _ V1 (HRP.out _ HD1.out.rd))
        rw [HZZ.out] at HC
        go_wp2_with fail
        refine HC.out.mono ?_
        rintro e w1 ⟨rfl, rfl⟩
        go_upto_region 11 with fail
        obtain ⟨V, hV⟩ : ∃ V, V = V1.setCell ⟨Z, 1, none⟩ (.int .i64 ((p : Int) + 14)) := ⟨_, rfl⟩
        have KV : Hid (Blk V Y 47 [Value.int .u32 0, .int .u64 0, .int .u16 0].toArray) := by rw [hV]; exact KY1.out.far (by show Y ≠ Z; omega) _
        have HDF : Hid (RDS V Z (some ⟨b, o, none⟩) c l (.ok (p + 14)) (p + 14)) := by rw [hV]; exact HD1.out.move (p + 14) (by omega)
        have HGF : Hid (w.grownBy V (some Z)) := by rw [hV]; exact gz_set HG2.out (.inl rfl) _
        rw [← hV]
        clear hV HC k0 k1 k2 f1 f2
        obtain ⟨C, hC⟩ : ∃ C, c - p = C := ⟨_, rfl⟩
        have hC1 : 14 ≤ C := by omega
        have hC2 : ¬ (C = 4) := by omega
        have hC3 : ¬ (C = 12) := by omega
        have hC4 : (4 : Int) ≤ (C : Int) := by omega
        have hC5 : (12 : Int) ≤ (C : Int) := by omega
        have hC6 : 4 ≤ C := by omega
        have hC7 : 12 ≤ C := by omega
        have HRS : Hid (∀ U, Rd U (some ⟨b, o, none⟩) 224 c l → Rd U (some ⟨b, o + p, none⟩) 4 C ((l.drop p).take 4) ∧ Rd U (some ⟨b, o + p + 4, none⟩) 8 (C - 4) ((l.drop (p + 4)).take 8) ∧ Rd U (some ⟨b, o + p + 12, none⟩) 2 (C - 12) ((l.drop (p + 12)).take 2)) := fun U hr =>
          ⟨hr.part p 4 C _ (fun _ => rfl) (by omega) (by omega) (by unfold maxLen; omega), hr.part (p + 4) 8 (C - 4) _ (fun _ => by rw [Nat.add_assoc]) (by omega) (by omega) (by unfold maxLen; omega), hr.part (p + 12) 2 (C - 12) _ (fun _ => by rw [Nat.add_assoc]) (by omega) (by omega) (by unfold maxLen; omega)⟩
        rw [hC]
        refine region_gate 12 (fun wx => Rd wx (some ⟨b, o + p, none⟩) 4 C ((l.drop p).take 4) ∧ Rd wx (some ⟨b, o + p + 4, none⟩) 8 (C - 4) ((l.drop (p + 4)).take 8) ∧ Rd wx (some ⟨b, o + p + 12, none⟩) 2 (C - 12) ((l.drop (p + 12)).take 2)) (by kernel_rfl) ?th104 (fun hHeld => ?tk104)
        case th104 => ((try dsimp only); exact HRS.out _ (HDF.out.rd.below (Below.refl _ _).drew))
        refine' takeV 0 (oi := _) (d := _) (v := _) ?ti105 ?td105 (by kernel_rfl) (by kernel_rfl) (by kernel_rfl) (by kernel_rfl) (by decide) (fun _ _ _ _ _ h => h) ?tg105 ?ty105 (by assumption) ?tr105
        case ti105 => (simp only [List.getElem?_toArray, List.getElem?_cons_succ, List.getElem?_cons_zero]; rfl)
        case td105 => exact rfl
        case tg105 => exact rfl
        case ty105 => (intro w hSw; (try dsimp only at hSw); go_split_ands; go_simp; try with_reducible rfl)
        simp only [List.setIfInBounds_toArray, List.set_cons_zero, List.set_cons_succ]
        refine' takeV 1 (oi := _) (d := _) (v := _) ?ti106 ?td106 (by kernel_rfl) (by kernel_rfl) (by kernel_rfl) (by kernel_rfl) (by decide) (fun _ _ _ _ _ h => h) ?tg106 ?ty106 (by assumption) ?tr106
        case ti106 => (simp only [List.getElem?_toArray, List.getElem?_cons_succ, List.getElem?_cons_zero]; rfl)
        case td106 => exact rfl
        case tg106 => exact rfl
        case ty106 => (intro w hSw; (try dsimp only at hSw); go_split_ands; go_simp; try with_reducible rfl)
        simp only [List.setIfInBounds_toArray, List.set_cons_zero, List.set_cons_succ]
        refine' takeC 2 (oi := _) (d := _) (v := _) ?ti107 ?td107 (by kernel_rfl) (by kernel_rfl) (by kernel_rfl) (by kernel_rfl) (by decide) (fun _ _ _ _ _ h => h) ?tg107 ?ty107 (by assumption) ?tr107
        case ti107 => (simp only [List.getElem?_toArray, List.getElem?_cons_succ, List.getElem?_cons_zero]; rfl)
        case td107 => exact rfl
        case tg107 => exact rfl
        case ty107 => (intro w hSw; have hc := number_any _ _ _ _ w hSw.1 (by omega); exact OnlyV.call rfl Try.func67 (by kernel_rfl) (by kernel_rfl) (Calls.mono hc (by rintro e w2 ⟨rfl, rfl⟩; constructor <;> rfl)) (by simp only [List.map_toArray, List.map_cons, List.map_nil]; rfl))
        simp only [List.setIfInBounds_toArray, List.set_cons_zero, List.set_cons_succ]
        refine' takeV 3 (oi := _) (d := _) (v := _) ?ti108 ?td108 (by kernel_rfl) (by kernel_rfl) (by kernel_rfl) (by kernel_rfl) (by decide) (fun _ _ _ _ _ h => h) ?tg108 ?ty108 (by assumption) ?tr108
        case ti108 => (simp only [List.getElem?_toArray, List.getElem?_cons_succ, List.getElem?_cons_zero]; rfl)
        case td108 => exact rfl
        case tg108 => exact rfl
        case ty108 => (intro w hSw; (try dsimp only at hSw); go_split_ands; go_simp; try with_reducible rfl)
        simp only [List.setIfInBounds_toArray, List.set_cons_zero, List.set_cons_succ]
        refine' takeV 4 (oi := _) (d := _) (v := _) ?ti109 ?td109 (by kernel_rfl) (by kernel_rfl) (by kernel_rfl) (by kernel_rfl) (by decide) (fun _ _ _ _ _ h => h) ?tg109 ?ty109 (by assumption) ?tr109
        case ti109 => (simp only [List.getElem?_toArray, List.getElem?_cons_succ, List.getElem?_cons_zero]; rfl)
        case td109 => exact rfl
        case tg109 => exact rfl
        case ty109 => (intro w hSw; (try dsimp only at hSw); go_split_ands; go_simp; try with_reducible rfl)
        simp only [List.setIfInBounds_toArray, List.set_cons_zero, List.set_cons_succ]
        refine' takeV 5 (oi := _) (d := _) (v := _) ?ti110 ?td110 (by kernel_rfl) (by kernel_rfl) (by kernel_rfl) (by kernel_rfl) (by decide) (fun _ _ _ _ _ h => h) ?tg110 ?ty110 (by assumption) ?tr110
        case ti110 => (simp only [List.getElem?_toArray, List.getElem?_cons_succ, List.getElem?_cons_zero]; rfl)
        case td110 => exact rfl
        case tg110 => exact rfl
        case ty110 => (intro w hSw; (try dsimp only at hSw); go_split_ands; go_simp; try with_reducible rfl)
        simp only [List.setIfInBounds_toArray, List.set_cons_zero, List.set_cons_succ]
        refine' takeC 6 (oi := _) (d := _) (v := _) ?ti111 ?td111 (by kernel_rfl) (by kernel_rfl) (by kernel_rfl) (by kernel_rfl) (by decide) (fun _ _ _ _ _ h => h) ?tg111 ?ty111 (by assumption) ?tr111
        case ti111 => (simp only [List.getElem?_toArray, List.getElem?_cons_succ, List.getElem?_cons_zero]; rfl)
        case td111 => exact rfl
        case tg111 => exact rfl
        case ty111 => (intro w hSw; have hc := number_any _ _ _ _ w hSw.2.1 (by omega); exact OnlyV.call rfl Try.func67 (by kernel_rfl) (by kernel_rfl) (Calls.mono hc (by rintro e w2 ⟨rfl, rfl⟩; constructor <;> rfl)) (by simp only [List.map_toArray, List.map_cons, List.map_nil]; rfl))
        simp only [List.setIfInBounds_toArray, List.set_cons_zero, List.set_cons_succ]
        refine' takeV 7 (oi := _) (d := _) (v := _) ?ti112 ?td112 (by kernel_rfl) (by kernel_rfl) (by kernel_rfl) (by kernel_rfl) (by decide) (fun _ _ _ _ _ h => h) ?tg112 ?ty112 (by assumption) ?tr112
        case ti112 => (simp only [List.getElem?_toArray, List.getElem?_cons_succ, List.getElem?_cons_zero]; rfl)
        case td112 => exact rfl
        case tg112 => exact rfl
        case ty112 => (intro w hSw; (try dsimp only at hSw); go_split_ands; go_simp; try with_reducible rfl)
        simp only [List.setIfInBounds_toArray, List.set_cons_zero, List.set_cons_succ]
        refine' takeV 8 (oi := _) (d := _) (v := _) ?ti113 ?td113 (by kernel_rfl) (by kernel_rfl) (by kernel_rfl) (by kernel_rfl) (by decide) (fun _ _ _ _ _ h => h) ?tg113 ?ty113 (by assumption) ?tr113
        case ti113 => (simp only [List.getElem?_toArray, List.getElem?_cons_succ, List.getElem?_cons_zero]; rfl)
        case td113 => exact rfl
        case tg113 => exact rfl
        case ty113 => (intro w hSw; (try dsimp only at hSw); go_split_ands; go_simp; try with_reducible rfl)
        simp only [List.setIfInBounds_toArray, List.set_cons_zero, List.set_cons_succ]
        refine' takeC 9 (oi := _) (d := _) (v := _) ?ti114 ?td114 (by kernel_rfl) (by kernel_rfl) (by kernel_rfl) (by kernel_rfl) (by decide) (fun _ _ _ _ _ h => h) ?tg114 ?ty114 (by assumption) ?tr114
        case ti114 => (simp only [List.getElem?_toArray, List.getElem?_cons_succ, List.getElem?_cons_zero]; rfl)
        case td114 => exact rfl
        case tg114 => exact rfl
        case ty114 => (intro w hSw; have hc := number_any _ _ _ _ w hSw.2.2 (by omega); exact OnlyV.call rfl Try.func67 (by kernel_rfl) (by kernel_rfl) (Calls.mono hc (by rintro e w2 ⟨rfl, rfl⟩; constructor <;> rfl)) (by simp only [List.map_toArray, List.map_cons, List.map_nil]; rfl))
        simp only [List.setIfInBounds_toArray, List.set_cons_zero, List.set_cons_succ]
        refine' takeV 10 (oi := _) (d := _) (v := _) ?ti115 ?td115 (by kernel_rfl) (by kernel_rfl) (by kernel_rfl) (by kernel_rfl) (by decide) (fun _ _ _ _ _ h => h) ?tg115 ?ty115 (by assumption) ?tr115
        case ti115 => (simp only [List.getElem?_toArray, List.getElem?_cons_succ, List.getElem?_cons_zero]; rfl)
        case td115 => exact rfl
        case tg115 => exact rfl
        case ty115 => (intro w hSw; (try dsimp only at hSw); go_split_ands; go_simp; try with_reducible rfl)
        simp only [List.setIfInBounds_toArray, List.set_cons_zero, List.set_cons_succ]
        refine' takeV 11 (oi := _) (d := _) (v := _) ?ti116 ?td116 (by kernel_rfl) (by kernel_rfl) (by kernel_rfl) (by kernel_rfl) (by decide) (fun _ _ _ _ _ h => h) ?tg116 ?ty116 (by assumption) ?tr116
        case ti116 => (simp only [List.getElem?_toArray, List.getElem?_cons_succ, List.getElem?_cons_zero]; rfl)
        case td116 => exact rfl
        case tg116 => exact rfl
        case ty116 => (intro w hSw; (try dsimp only at hSw); go_split_ands; go_simp; try with_reducible rfl)
        simp only [List.setIfInBounds_toArray, List.set_cons_zero, List.set_cons_succ]
        rw [HX.out.1, HX.out.2.1, HX.out.2.2]
        obtain ⟨V2, hV2⟩ : ∃ V2, V2 = V.drew := ⟨_, rfl⟩
        have B0 : Below V.heap.size V V2 := by rw [hV2]; exact (Below.refl _ _).drew
        rw [← hV2]
        clear hV2 hHeld
        have HD2 := Lib.hid (HDF.out.below B0)
        have KY2 := Lib.hid (KV.out.below B0 KV.out.lt)
        have HG3 := Lib.hid (gz_trans HGF.out (gz_of B0 _))
        clear B0
        trace_state
        refine stepGate 12 (by kernel_rfl) (by kernel_rfl) (by simp only [List.getElem?_toArray, List.getElem?_cons_succ, List.getElem?_cons_zero]; rfl) (fun K hK => ?_)
        refine step_store_blk rfl 47 (.tmp 2) (.tmp 68) rfl rfl (cs := [.int .u32 (IntKind.u32.wrap (x4 : Int)), .int .u64 (x8 : Int), .int .u16 (IntKind.u16.wrap (x2 : Int))]) rfl KY2.out rfl HIR.out (by intro v hv; simp at hv; rcases hv with rfl | rfl | rfl <;> rfl) ?_
        intro wa hka hga
        refine hK.out _ _ ?_
        clear hK K
        refine doneG (by kernel_rfl) ?_ _
        go_wp2_with fail
        rw [w4.out, w2.out] at hka
        rw [HP.out]
        refine bodyPost_ret (v := RfV (x4, x8, x2)) (ret_blk (p := 2) rfl rfl hka _ Try.underlying47 rfl (by kernel_rfl)) rfl ⟨rfl, ⟨p + 14, HD2.out.kept hga hZ⟩, gz_new HG3.out hga (Nat.le_of_eq HY.out)⟩
end Go.Proofs.Ytihbpmceggghgaa
