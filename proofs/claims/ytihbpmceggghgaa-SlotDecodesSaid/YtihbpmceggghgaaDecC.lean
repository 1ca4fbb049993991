/- The closures of slot.Decode: the tests that are handed in; text. -/
import Derived.Test.YtihbpmceggghgaaDecB
set_option linter.unusedVariables false
set_option linter.unusedSimpArgs false
namespace Go.Proofs.Ytihbpmceggghgaa
open Go.RowKit

theorem en_txt : Enters Try.prog 42 := enters_of Try.func42 (by kernel_rfl) rfl
theorem en_any : Enters Try.prog 43 := enters_of Try.func43 (by kernel_rfl) rfl
theorem en_6 : Enters Try.prog 46 := enters_of Try.func46 (by kernel_rfl) rfl
theorem en_7 : Enters Try.prog 47 := enters_of Try.func47 (by kernel_rfl) rfl
theorem en_8 : Enters Try.prog 48 := enters_of Try.func48 (by kernel_rfl) rfl
theorem en_9 : Enters Try.prog 49 := enters_of Try.func49 (by kernel_rfl) rfl
theorem en_10 : Enters Try.prog 51 := enters_of Try.func51 (by kernel_rfl) rfl
theorem en_11 : Enters Try.prog 52 := enters_of Try.func52 (by kernel_rfl) rfl
theorem en_12 : Enters Try.prog 53 := enters_of Try.func53 (by kernel_rfl) rfl
theorem en_13 : Enters Try.prog 54 := enters_of Try.func54 (by kernel_rfl) rfl
theorem may_txt {g : Nat} {lb : Array Value} {may : Nat → Bool} {H p Y : Nat} {w : World} (hp : p ≤ 224) (kp : Blk w (H + 2) 3 #[.int .i64 (p : Int)]) (hY : Blk w Y 59 #[fnV g lb]) (he : Enters Try.prog g) (hm : MayG g lb may 256 w) :
    MayG 42 #[ptr Y, ptr (H + 2)] (fun v => may v && decide (v + p + 1 ≤ 224)) 256 w := by
  intro v hv W hb
  have HM := Lib.hid (hm v hv W hb)
  have k := (hY.below hb hY.lt).cell 0
  have k2 := (kp.below hb kp.lt).cell 0
  have eg : ∀ (args : Array Value) (w : World), (callFunc g args).run Try.prog w = .ok (.enter g args) w := he
  clear hm hY kp hb he
  show Calls Try.prog 42 #[.int .u64 (v : Int), ptr Y, ptr (H + 2)] W _
  cases hq : may v with
  | false =>
    rw [hq] at HM
    have HQ : Hid (may v = false) := hq
    clear hq
    go_enter Try.func42, Try.ntmps42
    go_wp2_with fail
    refine HM.out.mono ?_
    rintro e w1 ⟨rfl, rfl⟩
    go_wp2_with fail
    go_ret
    exact ⟨by rw [HQ.out]; rfl, rfl⟩
  | true =>
    rw [hq] at HM
    have HQ : Hid (may v = true) := hq
    clear hq
    obtain ⟨d, hd⟩ : ∃ d, decide (v + p + 1 ≤ 224) = d := ⟨_, rfl⟩
    have HD := Lib.hid hd
    cases d with
    | true =>
      have h1 : (v : Int) ≤ 224 - (p : Int) - 1 := by have := of_decide_eq_true hd; omega
      clear hd
      go_enter Try.func42, Try.ntmps42
      go_wp2_with fail
      refine HM.out.mono ?_
      rintro e w1 ⟨rfl, rfl⟩
      go_wp2_with fail
      go_ret
      exact ⟨by rw [HQ.out, HD.out]; rfl, rfl⟩
    | false =>
      have h1 : ¬ ((v : Int) ≤ 224 - (p : Int) - 1) := by have := of_decide_eq_false hd; omega
      have HD3 : Hid (decide ((v : Int) ≤ 224 - (p : Int) - 1) = false) := decide_eq_false h1
      clear hd
      go_enter Try.func42, Try.ntmps42
      go_wp2_with fail
      refine HM.out.mono ?_
      rintro e w1 ⟨rfl, rfl⟩
      go_wp2_with fail
      go_ret
      exact ⟨by rw [HQ.out, HD.out]; show Ending.returned (Value.bool (decide _)) = _; rw [HD3.out]; rfl, rfl⟩
theorem may_any (N : Nat) (w : World) : MayG 43 #[] (fun _ => true) N w := fun v _ W _ => any_any v W
theorem may_kind (w : World) : MayG 46 #[] (fun v => v == 1 || v == 2) 256 w := by
  intro v hv W hb
  clear hb
  show Calls Try.prog 46 #[.int .u64 (v : Int)] W _
  have e1 : ((v : Int) == 1) = (v == 1) := by rw [Bool.eq_iff_iff, beq_iff_eq, beq_iff_eq]; omega
  have e2 : ((v : Int) == 2) = (v == 2) := by rw [Bool.eq_iff_iff, beq_iff_eq, beq_iff_eq]; omega
  obtain ⟨d, hd⟩ : ∃ d, (v == 1) = d := ⟨_, rfl⟩
  obtain ⟨d2, hd2⟩ : ∃ d, (v == 2) = d := ⟨_, rfl⟩
  have HV : Hid ((v == 1 || v == 2) = (d || d2)) := by show _ = _; rw [hd, hd2]
  rw [hd] at e1
  rw [hd2] at e2
  clear hd hd2
  cases d
  all_goals
    go_enter Try.func46, Try.ntmps46
    go_wp2
    go_ret
    exact ⟨by rw [HV.out]; first | rfl | (cases d2 <;> rfl), rfl⟩
theorem may_level {X : Nat} {k l0 : Nat} {q : Value} {w : World} (kn : Blk w X 24 #[.int .u8 (k : Int), .int .u8 (l0 : Int), q]) (hk : k < 256) : MayG 47 #[ptr X] (fun v => shp k v) 256 w := by
  intro v hv W hb
  have k1 := (kn.below hb kn.lt).cell 0
  have HC := Lib.hid (shp_any k v W hk hv)
  clear kn hb
  show Calls Try.prog 47 #[.int .u64 (v : Int), ptr X] W _
  go_enter Try.func47, Try.ntmps47
  go_wp2_with fail
  refine HC.out.mono ?_
  rintro e w1 ⟨rfl, rfl⟩
  go_wp2
  go_ret
  exact ⟨rfl, rfl⟩
theorem may_count {X : Nat} {k l0 : Nat} {q : Value} {w : World} (kn : Blk w X 24 #[.int .u8 (k : Int), .int .u8 (l0 : Int), q]) : MayG 48 #[ptr X] (fun v => decide (0 < v) || k == 1) 256 w := by
  intro v hv W hb
  have k1 := (kn.below hb kn.lt).cell 0
  have e2 : ((k : Int) == 1) = (k == 1) := by rw [Bool.eq_iff_iff, beq_iff_eq, beq_iff_eq]; omega
  obtain ⟨d2, hd2⟩ : ∃ d, (k == 1) = d := ⟨_, rfl⟩
  rw [hd2] at e2
  have HV : Hid ((k == 1) = d2) := hd2
  clear kn hb hd2
  show Calls Try.prog 48 #[.int .u64 (v : Int), ptr X] W _
  by_cases h0 : 0 < v
  · have h1 : (v : Int) > 0 := by omega
    go_enter Try.func48, Try.ntmps48
    go_wp2
    go_ret
    exact ⟨by simp [h0], rfl⟩
  · have h1 : ¬ ((v : Int) > 0) := by omega
    go_enter Try.func48, Try.ntmps48
    go_wp2
    go_ret
    exact ⟨by rw [HV.out]; simp [h0], rfl⟩
theorem may_key {X Y : Nat} {k l0 i : Nat} {q : Value} {w : World} (kn : Blk w X 24 #[.int .u8 (k : Int), .int .u8 (l0 : Int), q]) (ki : Blk w Y 3 #[.int .i64 (i : Int)]) (hk : k < 256) (hi : i ≤ 1000) : MayG 49 #[ptr X, ptr Y] (kmay k i) 256 w := by
  intro v hv W hb
  have k1 := (kn.below hb kn.lt).cell 0
  have k2 := (ki.below hb ki.lt).cell 0
  have HC := Lib.hid (kmay_any k i v W hk (by omega) (by omega))
  clear kn ki hb
  show Calls Try.prog 49 #[.int .u64 (v : Int), ptr X, ptr Y] W _
  go_enter Try.func49, Try.ntmps49
  go_wp2_with fail
  refine HC.out.mono ?_
  rintro e w1 ⟨rfl, rfl⟩
  go_wp2
  go_ret
  exact ⟨rfl, rfl⟩
theorem may_form (w : World) : MayG 51 #[] (fun v => decide (v < 2)) 256 w := by
  intro v hv W hb
  clear hb
  show Calls Try.prog 51 #[.int .u64 (v : Int)] W _
  have e1 : decide ((v : Int) < 2) = decide (v < 2) := by rw [Bool.eq_iff_iff, decide_eq_true_iff, decide_eq_true_iff]; omega
  have HE := Lib.hid e1
  clear e1
  go_enter Try.func51, Try.ntmps51
  go_wp2
  go_ret
  exact ⟨by rw [← HE.out]; rfl, rfl⟩
theorem may_len (w : World) : MayG 52 #[] (fun v => decide (64 < v) && decide (v ≤ 1024)) 65536 w := by
  intro v hv W hb
  clear hb
  show Calls Try.prog 52 #[.int .u64 (v : Int)] W _
  have e1 : decide ((v : Int) ≤ 1024) = decide (v ≤ 1024) := by rw [Bool.eq_iff_iff, decide_eq_true_iff, decide_eq_true_iff]; omega
  have HE := Lib.hid e1
  clear e1
  by_cases h : 64 < v
  · have h1 : (v : Int) > 64 := by omega
    go_enter Try.func52, Try.ntmps52
    go_wp2
    go_ret
    exact ⟨by rw [← HE.out]; simp [h], rfl⟩
  · have h1 : ¬ ((v : Int) > 64) := by omega
    go_enter Try.func52, Try.ntmps52
    go_wp2
    go_ret
    exact ⟨by simp [h], rfl⟩
theorem may_short (w : World) : MayG 53 #[] (fun v => decide (v ≤ 64)) 256 w := by
  intro v hv W hb
  clear hb
  show Calls Try.prog 53 #[.int .u64 (v : Int)] W _
  have HE := Lib.hid (nle64 v)
  go_enter Try.func53, Try.ntmps53
  go_wp2
  go_ret
  exact ⟨by rw [← HE.out]; rfl, rfl⟩
theorem may_nought (w : World) : MayG 54 #[] (fun v => v == 0) 256 w := by
  intro v hv W hb
  clear hb
  show Calls Try.prog 54 #[.int .u64 (v : Int)] W _
  have HE := Lib.hid (natb0 v)
  go_enter Try.func54, Try.ntmps54
  go_wp2
  go_ret
  exact ⟨by rw [← HE.out]; rfl, rfl⟩
end Go.Proofs.Ytihbpmceggghgaa
