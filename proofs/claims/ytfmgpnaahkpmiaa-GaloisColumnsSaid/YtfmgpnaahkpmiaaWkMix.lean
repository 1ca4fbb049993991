/- The walks of the statements of galois that take columns. -/
import Derived.Test.YtfmgpnaahkpmiaaGalG
import Derived.Test.YtfmgpnaahkpmiaaWkGal
import Derived.Deep.RegionHeld3
import Derived.ChangeKeysEq
import Derived.Laws.StructEq
set_option linter.unusedVariables false
namespace Go.Proofs.Ytfmgpnaahkpmiaa
open Go.RowKit Gal

theorem mix_o (c o : Nat → Nat) (hc : Hid (∀ k, c k < 256)) (ho : Hid (o = mix c)) (w : World) :
    Calls Try.prog 24 #[.agg #[.int .u8 (c 0), .int .u8 (c 1), .int .u8 (c 2), .int .u8 (c 3)]] w fun e w' => e = .returned (.agg (col o)) ∧ Below w.heap.size w w' := by
  rw [ho.out]; exact mix_any c hc.out w
theorem unmix_o (c o : Nat → Nat) (hc : Hid (∀ k, c k < 256)) (ho : Hid (o = unmix c)) (w : World) :
    Calls Try.prog 26 #[.agg #[.int .u8 (c 0), .int .u8 (c 1), .int .u8 (c 2), .int .u8 (c 3)]] w fun e w' => e = .returned (.agg (col o)) ∧ Below w.heap.size w w' := by
  rw [ho.out]; exact unmix_any c hc.out w
theorem refmix_o (c o : Nat → Nat) (hc : Hid (∀ k, c k < 256)) (ho : Hid (o = mix c)) (w : World) :
    Calls Try.prog 25 #[.agg #[.int .u8 (c 0), .int .u8 (c 1), .int .u8 (c 2), .int .u8 (c 3)]] w fun e w' => e = .returned (.agg (col o)) ∧ Below w.heap.size w w' := by
  rw [ho.out]; exact refmix_any c hc.out w
theorem refunmix_o (c o : Nat → Nat) (hc : Hid (∀ k, c k < 256)) (ho : Hid (o = unmix c)) (w : World) :
    Calls Try.prog 27 #[.agg #[.int .u8 (c 0), .int .u8 (c 1), .int .u8 (c 2), .int .u8 (c 3)]] w fun e w' => e = .returned (.agg (col o)) ∧ Below w.heap.size w w' := by
  rw [ho.out]; exact refunmix_any c hc.out w

/-- A column is itself. -/
theorem eq4 (o : Nat → Nat) (W : World) : (Op.equalIn 10000 33 (.agg (col o)) (.agg (col o))).run Try.prog W = .ok true W := by
  obtain ⟨i, hi⟩ : ∃ i, Try.prog.info? 5 = some i := Option.isSome_iff_exists.mp (by kernel_rfl)
  have hsz : Try.prog.cellsOf 5 = 1 := by kernel_rfl
  have hk : Try.prog.plainKey 5 = true := by kernel_rfl
  have hu : Try.prog.underlying 5 = some (.int .u8) := by kernel_rfl
  rw [run_equalIn_array W 9999 _ _ (show Try.prog.underlying 33 = some (.array 4 5) by kernel_rfl) hi, hsz]
  have h0 : ∀ W, (part 5 (col o) 0).run Try.prog W = .ok (.int .u8 (o 0)) W := fun W => run_part_plain W hk rfl
  have h1 : ∀ W, (part 5 (col o) 1).run Try.prog W = .ok (.int .u8 (o 1)) W := fun W => run_part_plain W hk rfl
  have h2 : ∀ W, (part 5 (col o) 2).run Try.prog W = .ok (.int .u8 (o 2)) W := fun W => run_part_plain W hk rfl
  have h3 : ∀ W, (part 5 (col o) 3).run Try.prog W = .ok (.int .u8 (o 3)) W := fun W => run_part_plain W hk rfl
  have he : ∀ (a : Int) W, (Op.equalIn 9999 5 (.int .u8 a) (.int .u8 a)).run Try.prog W = .ok true W := fun a W => by rw [run_equalIn_int W 9998 _ .u8 .u8 a a hu]; simp
  rw [show List.range 4 = [0, 1, 2, 3] from rfl]
  simp only [Op.eqItems, Sem.run_bind, Nat.zero_mul, Nat.one_mul, Nat.mul_one, h0, h1, h2, h3, he, Result.andThen_ok, Bool.not_true, Bool.false_eq_true, if_false]
  rfl

/-- The cells of a column in block H, and all below H as it was. -/
def HeldC (c : Nat → Nat) (H : Nat) (w w1 : World) : Prop :=
  w1.cell? ⟨H, 0, none⟩ = some (.int .u8 (c 0)) ∧ w1.cell? ⟨H, 1, none⟩ = some (.int .u8 (c 1)) ∧ w1.cell? ⟨H, 2, none⟩ = some (.int .u8 (c 2)) ∧ w1.cell? ⟨H, 3, none⟩ = some (.int .u8 (c 3)) ∧ Below H w w1
theorem keepC {c : Nat → Nat} {H : Nat} {w w1 w2 : World} (hb2 : Below w1.heap.size w1 w2) (h : HeldC c H w w1) : HeldC c H w w2 := by
  obtain ⟨h0, h1, h2, h3, hb⟩ := h
  have hl := World.block_lt_of_cell? w1 _ h0
  have hk : ∀ i, w2.cell? ⟨H, i, none⟩ = w1.cell? ⟨H, i, none⟩ := fun i => hb2.cell (p := ⟨H, i, none⟩) hl
  exact ⟨(hk 0).trans h0, (hk 1).trans h1, (hk 2).trans h2, (hk 3).trans h3, hb.trans (hb2.mono (Nat.le_of_lt hl))⟩
theorem startC (c : Nat → Nat) (H : Nat) (t : TypeId) (w : World) (hH : w.heap.size = H) : HeldC c H w (w.alloc (.cells (col c) t)).drew := by
  have hb : Blk (w.alloc (.cells (col c) t)).drew H t (col c) := (Blk.new' w t _ H hH).drew
  exact ⟨hb.cell 0, hb.cell 1, hb.cell 2, hb.cell 3, (((Below.refl _ _).alloc (by omega) _)).drew⟩

set_option maxHeartbeats 1600000 in
theorem galoisMix_walk0 (c : Nat → Nat) (hc : ∀ k, c k < 256) (w : World) :
    Calls Try.prog 11 #[.agg (col c)] w fun e w' => e = .returned (.bool true) ∧ Below w.heap.size w w' := by
  obtain ⟨H, hH⟩ : ∃ H, w.heap.size = H := ⟨_, rfl⟩
  obtain ⟨o, HO⟩ : ∃ o, Hid (o = mix c) := ⟨_, rfl⟩
  obtain ⟨u, HU⟩ : ∃ o, Hid (o = unmix c) := ⟨_, rfl⟩
  have HC := Lib.hid hc
  clear hc
  have EO := eq4 o
  have EU := eq4 u
  go_enter Try.func11, Try.ntmps11
  rw [hH]
  go_wp2_with fail
  have kC := startC c H 33 w hH
  go_region_held3 (fun w' => w'.cell? ⟨H, 0, none⟩ = some (.int .u8 (c 0)) ∧ w'.cell? ⟨H, 1, none⟩ = some (.int .u8 (c 1)) ∧ w'.cell? ⟨H, 2, none⟩ = some (.int .u8 (c 2)) ∧ w'.cell? ⟨H, 3, none⟩ = some (.int .u8 (c 3)) ∧ Below H w w')
    (first | exact kC | exact keepC (by assumption) (by assumption))
    (first
      | (go_at_call 24; refine (mix_o c o HC HO _).mono ?_; rintro e w' ⟨rfl, hb⟩)
      | (go_at_call 25; refine (refmix_o c o HC HO _).mono ?_; rintro e w' ⟨rfl, hb⟩)
      | (go_at_call 26; refine (unmix_o c u HC HU _).mono ?_; rintro e w' ⟨rfl, hb⟩)
      | (go_at_call 27; refine (refunmix_o c u HC HU _).mono ?_; rintro e w' ⟨rfl, hb⟩)
      | (go_at_call 15; refine (known_b _).mono ?_; rintro e w' ⟨rfl, hb⟩))
  go_wp2
  go_ret
  rename_i hh
  exact ⟨rfl, hh.2.2.2.2⟩
/-- A list of four bytes as a column. -/
def colOf (l : List UInt8) (k : Nat) : Nat := (l.getD k 0).toNat
theorem colOf_lt (l : List UInt8) (k : Nat) : colOf l k < 256 := (l.getD k 0).toNat_lt
theorem col_list (l : List UInt8) (hl : l.length = 4) : (l.map B8).toArray = col (colOf l) := by
  match l, hl with
  | [a, b, c, d], _ => rfl
theorem galoisMix_walk (l : List UInt8) (w : World) (hl : l.length = 4) :
    Calls Try.prog 11 #[.agg (l.map B8).toArray] w fun e w' => e = .returned (.bool true) ∧ Below w.heap.size w w' := by
  rw [col_list l hl]
  exact galoisMix_walk0 _ (colOf_lt l) w
end Go.Proofs.Ytfmgpnaahkpmiaa
