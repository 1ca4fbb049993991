/- Sixteen bytes compared; the sum that the laws of ghash know; the walk of GhashMul. -/
import Derived.Test.YtikhnjoobhfgdaaGhD
import Derived.Test.YtikhnjoobhfgdaaGhE
import Derived.Test.YtikhnjoobhfgdaaGhZero
import Derived.ChangeKeysEq
import Derived.Laws.StructEq
set_option linter.unusedVariables false
namespace Go.Proofs.Ytikhnjoobhfgdaa
open Go.RowKit

theorem eqItems_bytes (d : Nat) (a b : List UInt8) (n : Nat) (ha : a.length = n) (hb : b.length = n) (is : List Nat) (his : ∀ i ∈ is, i < n) (W : World) :
    (Op.eqItems (d + 1) 5 1 (a.map B8).toArray (b.map B8).toArray is).run Try.prog W = .ok (decide (∀ i ∈ is, a.getD i 0 = b.getD i 0)) W := by
  have hk : Try.prog.plainKey 5 = true := by kernel_rfl
  have hu : Try.prog.underlying 5 = some (.int .u8) := by kernel_rfl
  induction is with
  | nil => simp [Op.eqItems]
  | cons i is ih =>
    have hi := his i (List.mem_cons_self ..)
    have h1 : (part 5 (a.map B8).toArray (i * 1)).run Try.prog W = .ok (B8 (a.getD i 0)) W := run_part_plain W hk (by
      simp [List.getD, List.getElem?_eq_getElem (show i < a.length by omega)])
    have h2 : (part 5 (b.map B8).toArray (i * 1)).run Try.prog W = .ok (B8 (b.getD i 0)) W := run_part_plain W hk (by
      simp [List.getD, List.getElem?_eq_getElem (show i < b.length by omega)])
    have h3 : (Op.equalIn (d + 1) 5 (B8 (a.getD i 0)) (B8 (b.getD i 0))).run Try.prog W = .ok (((a.getD i 0).toNat : Int) == ((b.getD i 0).toNat : Int)) W := run_equalIn_int W d _ .u8 .u8 _ _ hu
    simp only [Op.eqItems, Sem.run_bind, h1, h2, h3, Result.andThen_ok]
    have hrec := ih fun j hj => his j (List.mem_cons_of_mem _ hj)
    by_cases he : a.getD i 0 = b.getD i 0
    · rw [he]
      simp only [beq_self_eq_true, Bool.not_true, Bool.false_eq_true, if_false, hrec]
      congr 1
      rw [Bool.eq_iff_iff]
      simp only [decide_eq_true_eq, List.mem_cons, forall_eq_or_imp, he, true_and]
    · have hne : (((a.getD i 0).toNat : Int) == ((b.getD i 0).toNat : Int)) = false := by
        rw [beq_eq_false_iff_ne]
        intro e
        exact he (UInt8.toNat_inj.1 (by omega))
      rw [hne]
      simp only [Bool.not_false, if_true, Sem.run_pure]
      congr 1
      have : ¬ (∀ j ∈ i :: is, a.getD j 0 = b.getD j 0) := fun h => he (h i (List.mem_cons_self ..))
      simp [this]
      intro h
      exact absurd h he
/-- Sixteen bytes are the same. -/
theorem eq16 (a b : List UInt8) (ha : a.length = 16) (hb : b.length = 16) (W : World) : (Op.equalIn 10000 22 (A16 a) (A16 b)).run Try.prog W = .ok (a == b) W := by
  obtain ⟨i, hi⟩ : ∃ i, Try.prog.info? 5 = some i := Option.isSome_iff_exists.mp (by kernel_rfl)
  have hsz : Try.prog.cellsOf 5 = 1 := by kernel_rfl
  rw [A16, A16, run_equalIn_array W 9999 _ _ (show Try.prog.underlying 22 = some (.array 16 5) by kernel_rfl) hi, hsz, eqItems_bytes 9998 a b 16 ha hb _ (fun i hi => by simpa using hi)]
  congr 1
  rw [Bool.eq_iff_iff, decide_eq_true_eq, beq_iff_eq]
  constructor
  · intro h
    apply List.ext_getElem (by omega)
    intro j h1 h2
    have := h j (by simp; omega)
    simpa [List.getD, List.getElem?_eq_getElem h1, List.getElem?_eq_getElem h2] using this
  · intro e j _
    rw [e]

def knH : List UInt8 := [0x66, 0xe9, 0x4b, 0xd4, 0xef, 0x8a, 0x2c, 0x3b, 0x88, 0x4c, 0xfa, 0x59, 0xca, 0x34, 0x2b, 0x2e]
def knT : List UInt8 := [0x03, 0x88, 0xda, 0xce, 0x60, 0xb6, 0xa3, 0x92, 0xf3, 0x28, 0xc2, 0xb9, 0x71, 0xb2, 0xfe, 0x78]
def knS : List UInt8 := [0xf3, 0x8c, 0xbb, 0x1a, 0xd6, 0x92, 0x23, 0xdc, 0xc3, 0x45, 0x7a, 0xe5, 0xb6, 0xb0, 0xf8, 0x85]
theorem gmul_f (x y : Nat) : gmul x y = fmul 128 x y 0 := (fmul_eq x y 128 (Nat.le_refl _)).symm
theorem kn_eq : be (gfin (num knH) [] knT) 16 = knS := by
  have e : gfin (num knH) [] knT = fmul 128 (fmul 128 (0 ^^^ num (pad16 knT)) (num knH) 0 ^^^ glens 0 16) (num knH) 0 := by
    rw [gfin, ght_nil, ght_step _ _ knT (by decide), show knT.drop 16 = [] by rfl, ght_nil, gmul_f, gmul_f, show ([] : List UInt8).length = 0 by rfl, show knT.length = 16 by rfl]
  rw [e]
  decide +kernel
theorem Rd.fresh' (w : World) (l : List UInt8) (n H : Nat) (hH : w.heap.size = H) (hn : n = l.length) (hm : n ≤ 140737488355328) : Rd (w.alloc (.cells (l.map B8).toArray 5)) (some ⟨H, 0, none⟩) n n l := by
  subst hH; exact Rd.fresh w l n hn hm
theorem known_sum (A : Option Addr) (n c : Nat) (w : World) (h : Rd w A 16 c knT) :
    Calls Try.prog 10 #[A16 knH, .slice none 0 0, .slice A 16 c] w fun e w' => e = .returned (.agg #[.int .u8 243, .int .u8 140, .int .u8 187, .int .u8 26, .int .u8 214, .int .u8 146, .int .u8 35, .int .u8 220, .int .u8 195, .int .u8 69, .int .u8 122, .int .u8 229, .int .u8 182, .int .u8 176, .int .u8 248, .int .u8 133]) ∧ Below w.heap.size w w' := by
  have := sum_any knH rfl none 0 0 [] A 16 c knT w (Rd.none_ w) h (by omega) (by omega)
  rw [kn_eq] at this
  exact this
set_option maxRecDepth 100000 in
theorem known_any (w : World) : Calls Try.prog 8 #[] w fun e w' => e = .returned (.bool true) ∧ Below w.heap.size w w' := by
  have hq : ∀ W, (Op.equalIn 10000 22 (.agg #[.int .u8 243, .int .u8 140, .int .u8 187, .int .u8 26, .int .u8 214, .int .u8 146, .int .u8 35, .int .u8 220, .int .u8 195, .int .u8 69, .int .u8 122, .int .u8 229, .int .u8 182, .int .u8 176, .int .u8 248, .int .u8 133]) (.agg #[.int .u8 243, .int .u8 140, .int .u8 187, .int .u8 26, .int .u8 214, .int .u8 146, .int .u8 35, .int .u8 220, .int .u8 195, .int .u8 69, .int .u8 122, .int .u8 229, .int .u8 182, .int .u8 176, .int .u8 248, .int .u8 133])).run Try.prog W = .ok true W := fun W => by
    have := eq16 knS knS rfl rfl W
    rw [beq_self_eq_true] at this
    exact this
  go_enter Try.func8, Try.ntmps8
  go_wp2_with fail
  refine (known_sum _ 16 16 _ ?_).mono ?_
  · exact Rd.fresh' _ knT 16 (w.heap.size + 1) (by simp) rfl (by omega)
  rintro e w1 ⟨rfl, hb1⟩
  go_wp2
  go_ret
  exact ⟨rfl, ((below_new _ _).alloc (by simp) _).trans (hb1.mono (by simp; omega))⟩
end Go.Proofs.Ytikhnjoobhfgdaa
