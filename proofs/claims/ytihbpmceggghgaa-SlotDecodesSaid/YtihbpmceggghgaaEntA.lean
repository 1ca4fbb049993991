/- Contracts: what may stand where. -/
import Derived.Test.YtihbpmceggghgaaEnt
set_option linter.unusedVariables false
set_option linter.unusedSimpArgs false
namespace Go.Proofs.Ytihbpmceggghgaa
open Go.RowKit

theorem natb (a b : Nat) : ((a : Int) == (b : Int)) = (a == b) := by rw [Bool.eq_iff_iff, beq_iff_eq, beq_iff_eq]; omega
theorem natb0 (a : Nat) : ((a : Int) == 0) = (a == 0) := by rw [Bool.eq_iff_iff]; simp
theorem rf_beq (r s : Rf) : (r == s) = ((r.1 == s.1) && ((r.2.1 == s.2.1) && (r.2.2 == s.2.2))) := by
  obtain ⟨a, b, c⟩ := r
  obtain ⟨d, e, f⟩ := s
  rfl
theorem fieldsRef : Try.prog.fieldsOf 47 = Try.prog.fieldsOf 47 := rfl
/-- Two Refs compared. -/
theorem eqRf (r s : Rf) (W : World) : (Op.equalIn 10000 47 (.agg #[.int .u32 (r.1 : Int), .int .u64 (r.2.1 : Int), .int .u16 (r.2.2 : Int)]) (.agg #[.int .u32 (s.1 : Int), .int .u64 (s.2.1 : Int), .int .u16 (s.2.2 : Int)])).run Try.prog W = .ok (r == s) W := by
  have hst := run_equalIn_agg (P := Try.prog) W 9999 47 #[.int .u32 (r.1 : Int), .int .u64 (r.2.1 : Int), .int .u16 (r.2.2 : Int)] #[.int .u32 (s.1 : Int), .int .u64 (s.2.1 : Int), .int .u16 (s.2.2 : Int)] (by kernel_rfl) (by kernel_rfl)
  have k32 : ∀ (xs : Array Value) (i : Nat) (v : Value) (W : World), xs[i]? = some v → (part 43 xs i).run Try.prog W = .ok v W := fun xs i v W h => run_part_plain W (by kernel_rfl) h
  have k64 : ∀ (xs : Array Value) (i : Nat) (v : Value) (W : World), xs[i]? = some v → (part 44 xs i).run Try.prog W = .ok v W := fun xs i v W h => run_part_plain W (by kernel_rfl) h
  have k16 : ∀ (xs : Array Value) (i : Nat) (v : Value) (W : World), xs[i]? = some v → (part 45 xs i).run Try.prog W = .ok v W := fun xs i v W h => run_part_plain W (by kernel_rfl) h
  have e32 : ∀ (a b : Int) W, (Op.equalIn 9999 43 (.int .u32 a) (.int .u32 b)).run Try.prog W = .ok (a == b) W := fun a b W => run_equalIn_int W 9998 _ .u32 .u32 a b Try.underlying43
  have e64 : ∀ (a b : Int) W, (Op.equalIn 9999 44 (.int .u64 a) (.int .u64 b)).run Try.prog W = .ok (a == b) W := fun a b W => run_equalIn_int W 9998 _ .u64 .u64 a b Try.underlying44
  have e16 : ∀ (a b : Int) W, (Op.equalIn 9999 45 (.int .u16 a) (.int .u16 b)).run Try.prog W = .ok (a == b) W := fun a b W => run_equalIn_int W 9998 _ .u16 .u16 a b Try.underlying45
  have hfs : (Try.prog.fieldsOf 47).toList.map (fun f => (f.name == "_", f.type, f.offset)) = [(false, 43, 0), (false, 44, 1), (false, 45, 2)] := by kernel_rfl
  have hl : (Try.prog.fieldsOf 47).toList.length = 3 := by have := congrArg List.length hfs; simpa using this
  rw [hst]
  clear hst
  revert hfs hl
  generalize (Try.prog.fieldsOf 47).toList = fs
  intro hfs hl
  match fs, hl with
  | [f0, f1, f2], _ =>
    simp only [List.map_cons, List.map_nil, List.cons.injEq, Prod.mk.injEq, beq_eq_false_iff_ne] at hfs
    obtain ⟨⟨n0, t0, o0⟩, ⟨n1, t1, o1⟩, ⟨n2, t2, o2⟩, _⟩ := hfs
    rw [rf_beq]
    simp only [Op.eqFields, n0, n1, n2, t0, t1, t2, o0, o1, o2, ne_eq, not_false_eq_true, if_true, Sem.run_bind]
    rw [k32 _ 0 (.int .u32 (r.1 : Int)) _ rfl]
    simp only [Result.andThen_ok]
    rw [k32 _ 0 (.int .u32 (s.1 : Int)) _ rfl]
    simp only [Result.andThen_ok]
    rw [e32, natb]
    simp only [Result.andThen_ok]
    cases h0 : (r.1 == s.1)
    · simp only [Bool.not_false, if_true, Sem.run_pure, Bool.false_and]
    · simp only [Bool.not_true, Bool.false_eq_true, if_false, Bool.true_and, Sem.run_bind]
      rw [k64 _ 1 (.int .u64 (r.2.1 : Int)) _ rfl]
      simp only [Result.andThen_ok]
      rw [k64 _ 1 (.int .u64 (s.2.1 : Int)) _ rfl]
      simp only [Result.andThen_ok]
      rw [e64, natb]
      simp only [Result.andThen_ok]
      cases h1 : (r.2.1 == s.2.1)
      · simp only [Bool.not_false, if_true, Sem.run_pure, Bool.false_and]
      · simp only [Bool.not_true, Bool.false_eq_true, if_false, Bool.true_and, Sem.run_bind]
        rw [k16 _ 2 (.int .u16 (r.2.2 : Int)) _ rfl]
        simp only [Result.andThen_ok]
        rw [k16 _ 2 (.int .u16 (s.2.2 : Int)) _ rfl]
        simp only [Result.andThen_ok]
        rw [e16, natb]
        simp only [Result.andThen_ok]
        cases h2 : (r.2.2 == s.2.2)
        · simp only [Bool.not_false, if_true, Sem.run_pure]
        · simp only [Bool.not_true, Bool.false_eq_true, if_false, Sem.run_pure]
theorem eqRf0 (r : Rf) (W : World) : (Op.equalIn 10000 47 (.agg #[.int .u32 (r.1 : Int), .int .u64 (r.2.1 : Int), .int .u16 (r.2.2 : Int)]) (.agg #[.int .u32 0, .int .u64 0, .int .u16 0])).run Try.prog W = .ok (r == r0) W := eqRf r r0 W
attribute [local go_sem ↓] eqRf0
theorem nle64 (n : Nat) : decide ((n : Int) ≤ 64) = decide (n ≤ 64) := by rw [Bool.eq_iff_iff, decide_eq_true_iff, decide_eq_true_iff]; omega
theorem nle32 (n : Nat) : decide ((n : Int) ≤ 32) = decide (n ≤ 32) := by rw [Bool.eq_iff_iff, decide_eq_true_iff, decide_eq_true_iff]; omega
theorem kmay_any (k i n : Nat) (w : World) (hk : k < 256) (hi : i ≤ 9223372036854775807) (hn : n ≤ 9223372036854775807) :
    Calls Try.prog 50 #[.int .u8 (k : Int), .int .i64 (i : Int), .int .i64 (n : Int)] w fun e w' => e = .returned (.bool (kmay k i n)) ∧ w = w' := by
  by_cases h : k = 2 ∧ i = 0
  · obtain ⟨rfl, rfl⟩ := h
    have HB : Hid (kmay 2 0 n = ((n : Int) == 0)) := by show _ = _; rw [natb0]; rfl
    go_enter Try.func50, Try.ntmps50
    go_wp2
    go_ret
    exact ⟨by rw [HB.out]; rfl, rfl⟩
  · have HB : Hid (kmay k i n = (decide (1 ≤ n) && decide ((n : Int) ≤ 32))) := by show _ = _; rw [kmay, if_neg h, nle32]
    by_cases h1 : 1 ≤ n
    all_goals
      by_cases h2 : k = 2
      · have hi0 : ((i : Int) == 0) = false := by rw [beq_eq_false_iff_ne]; intro e; exact h ⟨h2, by omega⟩
        subst h2
        clear h
        go_enter Try.func50, Try.ntmps50
        go_wp2
        go_ret
        exact ⟨by rw [HB.out]; simp [h1], rfl⟩
      · have hk0 : ((k : Int) == 2) = false := by rw [beq_eq_false_iff_ne]; omega
        clear h h2
        go_enter Try.func50, Try.ntmps50
        go_wp2
        go_ret
        exact ⟨by rw [HB.out]; simp [h1], rfl⟩

set_option maxHeartbeats 1600000 in
theorem emay_any (k i : Nat) (A : Option Addr) (n c : Nat) (A' : Option Addr) (n' c' : Nat) (L : Int) (r s : Rf) (w : World) (hk : k < 256) (hi : i ≤ 9223372036854775807) (hn : n ≤ 9223372036854775807) (hn' : n' ≤ 9223372036854775807) :
    Calls Try.prog 28 #[.int .u8 (k : Int), .int .i64 (i : Int), EnV A n c A' n' c' L r s] w fun e w' => e = .returned (.bool (emayL k i n n' L r s)) ∧ Below w.heap.size w w' := by
  obtain ⟨q, hq⟩ : ∃ q, kmay k i n = q := ⟨_, rfl⟩
  have M := Lib.hid (fun W => kmay_any k i n W hk hi hn)
  rw [hq] at M
  have HE : Hid (emayL k i n n' L r s = (q && (if k = 2 then s != r0 && (r == r0 && (n' == 0 && L == 0)) else s == r0 && (if L = 0 then r == r0 && decide ((n' : Int) ≤ 64) else decide (64 < L) && (decide (L ≤ 1024) && (r != r0 && n' == 0)))))) := by
    show _ = _
    rw [emayL, hq, nle64]
  clear hq
  cases q with
  | false =>
    go_enter Try.func28, Try.ntmps28
    go_wp2_with (go_at_call 50; refine (M.out _).mono ?_; rintro e w' ⟨rfl, rfl⟩)
    go_ret
    exact ⟨by rw [HE.out, Bool.false_and]; rfl, ((Below.refl _ _).alloc (Nat.le_refl _) _).alloc (by simp) _⟩
  | true =>
    by_cases h2 : k = 2
    · have HF := HE.out
      rw [if_pos h2, Bool.true_and] at HF
      have HG := Lib.hid HF
      clear HF HE
      have hk0 : ((k : Int) == 2) = true := by rw [beq_iff_eq]; omega
      clear h2
      go_enter Try.func28, Try.ntmps28
      go_wp2_with (go_at_call 50; refine (M.out _).mono ?_; rintro e w' ⟨rfl, rfl⟩)
      all_goals
        go_ret
        refine ⟨?_, ((Below.refl _ _).alloc (Nat.le_refl _) _).alloc (by simp) _⟩
        rw [HG.out]
        clear M HG hk0
        simp_all <;> first | rfl | (rw [natb0]; rfl) | (intros; omega)
    · have HF := HE.out
      rw [if_neg h2, Bool.true_and] at HF
      have HG := Lib.hid HF
      clear HF HE
      have hk0 : ((k : Int) == 2) = false := by rw [beq_eq_false_iff_ne]; omega
      clear h2
      go_enter Try.func28, Try.ntmps28
      go_wp2_with (go_at_call 50; refine (M.out _).mono ?_; rintro e w' ⟨rfl, rfl⟩)
      all_goals
        go_ret
        refine ⟨?_, ((Below.refl _ _).alloc (Nat.le_refl _) _).alloc (by simp) _⟩
        rw [HG.out]
        clear M HG hk0
        simp_all <;> first | rfl | (rw [natb0]; rfl) | (intros; omega)

theorem shp_any (k l : Nat) (w : World) (hk : k < 256) (hl : l < 256) :
    Calls Try.prog 27 #[.int .u8 (k : Int), .int .u8 (l : Int)] w fun e w' => e = .returned (.bool (shp k l)) ∧ w = w' := by
  have HS : Hid (shp k l = (((k : Int) == 1) && ((l : Int) == 0) || (((k : Int) == 2) && (decide ((1 : Int) ≤ l) && decide ((l : Int) ≤ 30))))) := by
    show _ = _
    rw [shp, natb0, show ((k : Int) == 1) = (k == 1) from natb k 1, show ((k : Int) == 2) = (k == 2) from natb k 2, show decide ((1 : Int) ≤ l) = decide (1 ≤ l) by rw [Bool.eq_iff_iff, decide_eq_true_iff, decide_eq_true_iff]; omega, show decide ((l : Int) ≤ 30) = decide (l ≤ 30) by rw [Bool.eq_iff_iff, decide_eq_true_iff, decide_eq_true_iff]; omega]
  go_enter Try.func27, Try.ntmps27
  go_wp2
  all_goals
    go_ret
    refine ⟨?_, rfl⟩
    rw [HS.out]
    clear HS
    simp_all <;> (intros; omega)
theorem refkmay_any (k i n : Nat) (w : World) (hk : k < 256) (hi : i ≤ 9223372036854775807) (hn : n ≤ 9223372036854775807) :
    Calls Try.prog 58 #[.int .u8 (k : Int), .int .i64 (i : Int), .int .i64 (n : Int)] w fun e w' => e = .returned (.bool (kmay k i n)) ∧ w = w' := by
  by_cases h : k = 2 ∧ i = 0
  · obtain ⟨rfl, rfl⟩ := h
    have HB : Hid (kmay 2 0 n = ((n : Int) == 0)) := by show _ = _; rw [natb0]; rfl
    go_enter Try.func58, Try.ntmps58
    go_wp2
    go_ret
    exact ⟨by rw [HB.out]; rfl, rfl⟩
  · have HB : Hid (kmay k i n = (decide (1 ≤ n) && decide ((n : Int) ≤ 32))) := by show _ = _; rw [kmay, if_neg h, nle32]
    by_cases h1 : 1 ≤ n
    all_goals
      by_cases h2 : k = 2
      · have hi0 : ((i : Int) == 0) = false := by rw [beq_eq_false_iff_ne]; intro e; exact h ⟨h2, by omega⟩
        subst h2
        clear h
        go_enter Try.func58, Try.ntmps58
        go_wp2
        go_ret
        exact ⟨by rw [HB.out]; simp [h1], rfl⟩
      · have hk0 : ((k : Int) == 2) = false := by rw [beq_eq_false_iff_ne]; omega
        clear h h2
        go_enter Try.func58, Try.ntmps58
        go_wp2
        go_ret
        exact ⟨by rw [HB.out]; simp [h1], rfl⟩
theorem refshp_any (k l : Nat) (w : World) (hk : k < 256) (hl : l < 256) :
    Calls Try.prog 31 #[.int .u8 (k : Int), .int .u8 (l : Int)] w fun e w' => e = .returned (.bool (shp k l)) ∧ w = w' := by
  have HS : Hid (shp k l = (((k : Int) == 1) && ((l : Int) == 0) || (((k : Int) == 2) && (decide ((1 : Int) ≤ l) && decide ((l : Int) ≤ 30))))) := by
    show _ = _
    rw [shp, natb0, show ((k : Int) == 1) = (k == 1) from natb k 1, show ((k : Int) == 2) = (k == 2) from natb k 2, show decide ((1 : Int) ≤ l) = decide (1 ≤ l) by rw [Bool.eq_iff_iff, decide_eq_true_iff, decide_eq_true_iff]; omega, show decide ((l : Int) ≤ 30) = decide (l ≤ 30) by rw [Bool.eq_iff_iff, decide_eq_true_iff, decide_eq_true_iff]; omega]
  go_enter Try.func31, Try.ntmps31
  go_wp2
  all_goals
    go_ret
    refine ⟨?_, rfl⟩
    rw [HS.out]
    clear HS
    simp_all <;> (intros; omega)
set_option maxHeartbeats 1600000 in
theorem refemay_any (k i : Nat) (A : Option Addr) (n c : Nat) (A' : Option Addr) (n' c' : Nat) (L : Int) (r s : Rf) (w : World) (hk : k < 256) (hi : i ≤ 9223372036854775807) (hn : n ≤ 9223372036854775807) (hn' : n' ≤ 9223372036854775807) :
    Calls Try.prog 32 #[.int .u8 (k : Int), .int .i64 (i : Int), EnV A n c A' n' c' L r s] w fun e w' => e = .returned (.bool (emayL k i n n' L r s)) ∧ Below w.heap.size w w' := by
  obtain ⟨q, hq⟩ : ∃ q, kmay k i n = q := ⟨_, rfl⟩
  have M := Lib.hid (fun W => refkmay_any k i n W hk hi hn)
  rw [hq] at M
  have HE : Hid (emayL k i n n' L r s = (q && (if k = 2 then s != r0 && (r == r0 && (n' == 0 && L == 0)) else s == r0 && (if L = 0 then r == r0 && decide ((n' : Int) ≤ 64) else decide (64 < L) && (decide (L ≤ 1024) && (r != r0 && n' == 0)))))) := by
    show _ = _
    rw [emayL, hq, nle64]
  clear hq
  obtain ⟨Z, HZ⟩ : ∃ Z, Hid (emayL k i n n' L r s = Z) := ⟨_, rfl⟩
  rw [HZ.out] at HE ⊢
  clear HZ
  cases q with
  | false =>
    go_enter Try.func32, Try.ntmps32
    go_wp2_with (go_at_call 58; refine (M.out _).mono ?_; rintro e w' ⟨rfl, rfl⟩)
    go_ret
    exact ⟨by rw [HE.out, Bool.false_and]; rfl, ((Below.refl _ _).alloc (Nat.le_refl _) _).alloc (by simp) _⟩
  | true =>
    by_cases h2 : k = 2
    · have HF := HE.out
      rw [if_pos h2, Bool.true_and] at HF
      have HG := Lib.hid HF
      clear HF HE
      have hk0 : ((k : Int) == 2) = true := by rw [beq_iff_eq]; omega
      clear h2
      go_enter Try.func32, Try.ntmps32
      go_wp2_with (go_at_call 58; refine (M.out _).mono ?_; rintro e w' ⟨rfl, rfl⟩)
      all_goals
        go_ret
        refine ⟨?_, ((Below.refl _ _).alloc (Nat.le_refl _) _).alloc (by simp) _⟩
        rw [HG.out]
        clear M HG hk0
        simp_all <;> first | rfl | (rw [natb0]; rfl) | (intros; omega)
    · have HF := HE.out
      rw [if_neg h2, Bool.true_and] at HF
      have HG := Lib.hid HF
      clear HF HE
      have hk0 : ((k : Int) == 2) = false := by rw [beq_eq_false_iff_ne]; omega
      clear h2
      go_enter Try.func32, Try.ntmps32
      go_wp2_with (go_at_call 58; refine (M.out _).mono ?_; rintro e w' ⟨rfl, rfl⟩)
      all_goals
        go_ret
        refine ⟨?_, ((Below.refl _ _).alloc (Nat.le_refl _) _).alloc (by simp) _⟩
        rw [HG.out]
        clear M HG hk0
        simp_all <;> first | rfl | (rw [natb0]; rfl) | (intros; omega)
end Go.Proofs.Ytihbpmceggghgaa
