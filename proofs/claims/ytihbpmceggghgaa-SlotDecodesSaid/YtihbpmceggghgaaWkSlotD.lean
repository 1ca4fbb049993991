/- The walk of SlotDecodes. -/
import Derived.Test.YtihbpmceggghgaaRdrD
import Derived.Test.YtihbpmceggghgaaKnown12
import Derived.Test.YtihbpmceggghgaaSameR
import Derived.Test.YtihbpmceggghgaaSpoil
set_option linter.unusedVariables false
set_option linter.unusedSimpArgs false
namespace Go.Proofs.Ytihbpmceggghgaa
open Go.RowKit

/-- What both answer. -/
def dvL (l : List UInt8) : Nat × Nat × List Ent × Int × Int :=
  if l.length = 224 then (match decEnd l with
    | .ok _ => ((kd l).1, (lv l).1, (enEnd l).1, 0, 0)
    | .error f => (0, 0, [], 5, (f : Int))) else (0, 0, [], 2, 0)
def DvP (l : List UInt8) (H : Nat) (w : World) (e : Ending) (w' : World) : Prop :=
  ∃ A' c', e = .returned (.tuple #[NdV (dvL l).1 (dvL l).2.1 A' (dvL l).2.2.1.length c', .int .i64 (dvL l).2.2.2.1, .int .i64 (dvL l).2.2.2.2]) ∧ OwnN w' H A' (dvL l).2.2.1.length c' (dvL l).2.2.1 ∧ Below H w w'
theorem DecP.dv {l : List UInt8} (hl : l.length = 224) {H : Nat} {w w' : World} {e : Ending} (h : DecP l H w e w') : DvP l H w e w' := by
  obtain ⟨h1, hb⟩ := h
  unfold DvP dvL
  rw [if_pos hl]
  cases hx : decEnd l with
  | ok q =>
    rw [hx] at h1
    obtain ⟨A', c', he, ho⟩ := h1
    exact ⟨A', c', he, ho, hb⟩
  | error f =>
    rw [hx] at h1
    exact ⟨none, 0, h1, OwnN.nil _ _ _, hb⟩
theorem dvL_lt (l : List UInt8) : (dvL l).1 < 256 ∧ (dvL l).2.1 < 256 := by
  unfold dvL
  split
  · split
    · have h1 : (kd l).1 < 256 ^ 1 := tkR_le (by omega)
      have h2 : (lv l).1 < 256 ^ 1 := tkR_le (by omega)
      exact ⟨h1, h2⟩
    · exact ⟨Nat.zero_lt_succ _, Nat.zero_lt_succ _⟩
  · exact ⟨Nat.zero_lt_succ _, Nat.zero_lt_succ _⟩
theorem decode_all (A : Option Addr) (n c : Nat) (l : List UInt8) (w : World) (h : Rd w A n c l) : Calls Try.prog 22 #[.slice A n c] w fun e w' => DvP l w.heap.size w e w' := by
  by_cases hn : n = 224
  · subst hn
    exact (decode_any A c l w _ rfl h).mono fun e w' hp => hp.dv h.len.symm
  · have hm := h.cap
    have hx := h.max
    unfold maxLen at hx
    refine (decode_bad A n c w hn (by omega)).mono fun e w' hp => ?_
    obtain ⟨rfl, hb⟩ := hp
    have hl : ¬ (l.length = 224) := by rw [← h.len]; exact hn
    unfold DvP dvL
    rw [if_neg hl]
    exact ⟨none, 0, rfl, OwnN.nil _ _ _, hb⟩
theorem refdecode_all (A : Option Addr) (n c : Nat) (l : List UInt8) (w : World) (h : Rd w A n c l) : Calls Try.prog 23 #[.slice A n c] w fun e w' => DvP l w.heap.size w e w' := by
  by_cases hn : n = 224
  · subst hn
    exact (refdecode_any A c l w _ rfl h).mono fun e w' hp => hp.dv h.len.symm
  · have hm := h.cap
    have hx := h.max
    unfold maxLen at hx
    refine (refdecode_bad A n c w hn (by omega)).mono fun e w' hp => ?_
    obtain ⟨rfl, hb⟩ := hp
    have hl : ¬ (l.length = 224) := by rw [← h.len]; exact hn
    unfold DvP dvL
    rw [if_neg hl]
    exact ⟨none, 0, rfl, OwnN.nil _ _ _, hb⟩
theorem same_rfl (A : Option Addr) (n c : Nat) (l : List UInt8) (A' : Option Addr) (n' c' : Nat) (w : World) (h : Rd w A n c l) (h' : Rd w A' n' c' l) :
    Calls Try.prog 19 #[.slice A n c, .slice A' n' c'] w fun e w' => e = .returned (.bool true) ∧ w = w' := by
  refine (same_any A n c l A' n' c' l w h h').mono ?_
  rintro e w' ⟨rfl, rfl⟩
  exact ⟨by simp, rfl⟩
set_option maxHeartbeats 3200000 in
theorem slotDecodes_walk (A : Option Addr) (n c : Nat) (l : List UInt8) (w : World) (h : Rd w A n c l) (hr : c ≤ 140737488351232) :
    Calls Try.prog 6 #[.slice A n c] w fun e w' => e = .returned (.bool true) ∧ Below w.heap.size w w' := by
  have hcap := h.cap
  by_cases hn : n ≤ 4096
  · have hn2 : ¬ ((n : Int) > 4096) := by omega
    have HR := Lib.hid h
    have HC := Lib.hid (copy_any A n c l w h (by omega))
    obtain ⟨⟨k, v, es, E, F⟩, hdv⟩ : ∃ d, dvL l = d := ⟨_, rfl⟩
    have hlt := dvL_lt l
    rw [hdv] at hlt
    have hk : k < 256 := hlt.1
    have hv : v < 256 := hlt.2
    have HDV := Lib.hid hdv
    clear h hn hdv hlt
    go_enter Try.func6, Try.ntmps6
    go_wp2_with fail
    refine HC.out.mono ?_
    rintro e w1 ⟨A1, c1, rfl, hown, hb1⟩
    have HB1 := Lib.hid hb1
    have HR1 := Lib.hid (HR.out.below hb1)
    have HI1 : Hid (Rd w1 A1 n c1 l) := Rd.of_own hown
    have HD1 := Lib.hid (decode_all A1 n c1 l w1 HI1.out)
    clear hown hb1 HC
    go_wp2_with fail
    refine HD1.out.mono ?_
    rintro e w2 hp
    unfold DvP at hp
    rw [HDV.out] at hp
    obtain ⟨A2, c2, rfl, hown2, hb2⟩ := hp
    dsimp only at hown2 ⊢
    obtain ⟨m, hm⟩ : ∃ m, es.length = m := ⟨_, rfl⟩
    rw [hm] at hown2
    rw [hm]
    have HM := Lib.hid hm
    have HO2 := Lib.hid hown2
    have HB2 := Lib.hid (HB1.out.trans (hb2.mono HB1.out.size))
    have HBI : Hid (Below w1.heap.size w1 w2) := hb2
    clear hown2 hb2 hm HD1
    go_upto_region 5 with fail
    obtain ⟨w3, hw3⟩ : ∃ w3, w3 = w2.alloc (.cells #[.int .u8 (k : Int), .int .u8 (v : Int), .slice A2 m c2] 24) := ⟨_, rfl⟩
    obtain ⟨X, hX⟩ : ∃ X, w2.heap.size = X := ⟨_, rfl⟩
    have hb3 : Below w2.heap.size w2 w3 := by rw [hw3]; exact below_new1 _ _
    have KX : Hid (Blk w3 X 24 (ndA k v A2 m c2)) := by rw [hw3]; exact Blk.new' _ _ _ _ hX
    have HO3 := Lib.hid (HO2.out.below hb3)
    have HBI3 := Lib.hid (HBI.out.trans (hb3.mono HBI.out.size))
    have HB3 := Lib.hid (HB2.out.trans (hb3.mono HB2.out.size))
    rw [← hw3, hX]
    clear hw3 hb3 hX HO2 HBI HB2
    have HR3 := Lib.hid (HR.out.below HB3.out)
    have HI3 := Lib.hid (HI1.out.below HBI3.out)
    have HD3 := Lib.hid (refdecode_all A n c l w3 HR3.out)
    go_wp2_with fail
    refine HD3.out.mono ?_
    rintro e w4 hp
    unfold DvP at hp
    rw [HDV.out] at hp
    obtain ⟨A4, c4, rfl, hown4, hb4⟩ := hp
    dsimp only at hown4 ⊢
    rw [HM.out] at hown4
    rw [HM.out]
    have HO4 := Lib.hid (hown4.rdl HM.out.symm)
    have HO5 := Lib.hid (HO3.out.below hb4)
    have KX4 := Lib.hid (KX.out.below hb4 KX.out.lt)
    have HBI4 := Lib.hid (HBI3.out.trans (hb4.mono HBI3.out.size))
    have HB4 := Lib.hid (HB3.out.trans (hb4.mono HB3.out.size))
    clear hown4 hb4 HD3 HO3 KX HBI3 HB3 HR3 HI3
    go_upto_region 6 with fail
    obtain ⟨w5, hw5⟩ : ∃ w5, w5 = w4.alloc (.cells #[.int .u8 (k : Int), .int .u8 (v : Int), .slice A4 m c4] 24) := ⟨_, rfl⟩
    obtain ⟨Y, hY⟩ : ∃ Y, w4.heap.size = Y := ⟨_, rfl⟩
    have hb5 : Below w4.heap.size w4 w5 := by rw [hw5]; exact below_new1 _ _
    have KY : Hid (Blk w5 Y 24 (ndA k v A4 m c4)) := by rw [hw5]; exact Blk.new' _ _ _ _ hY
    have HO6 := Lib.hid (HO5.out.below hb5)
    have HM6 := Lib.hid (HO4.out.below hb5)
    have KX5 := Lib.hid (KX4.out.below hb5 KX4.out.lt)
    have HBI5 := Lib.hid (HBI4.out.trans (hb5.mono HBI4.out.size))
    have HB5 := Lib.hid (HB4.out.trans (hb5.mono HB4.out.size))
    rw [← hw5, hY]
    clear hw5 hb5 hY HO4 HO5 KX4 HBI4 HB4
    have HR5 := Lib.hid (HR.out.below HB5.out)
    have HI5 := Lib.hid (HI1.out.below HBI5.out)
    have d0 := KX5.out.cell 0
    have d1 := KX5.out.cell 1
    have d2 := KX5.out.cell 2
    have e0 := KY.out.cell 0
    have e1 := KY.out.cell 1
    have e2 := KY.out.cell 2
    have HSM := Lib.hid (refsame_any k v A2 m c2 es k v A4 m c4 es w5 (HO6.out.rdl HM.out.symm) HM6.out hk hv hk hv)
    rw [sameN_refl] at HSM
    have HS1 := Lib.hid (same_rfl A1 n c1 l A n c w5 HI5.out HR5.out)
    go_upto_region 8 with (first
      | (go_at_call 19; refine HS1.out.mono ?_; rintro e w6 ⟨rfl, rfl⟩)
      | (go_at_call 15; refine HSM.out.mono ?_; rintro e w6 ⟨rfl, hb6⟩))
    have KX6 := Lib.hid (KX5.out.below hb6 KX5.out.lt)
    have HO7 := Lib.hid (HO6.out.below hb6)
    have HBI6 := Lib.hid (HBI5.out.trans (hb6.mono HBI5.out.size))
    have HB6 := Lib.hid (HB5.out.trans (hb6.mono HB5.out.size))
    clear hb6 d0 d1 d2 e0 e1 e2 HSM HS1 HO6 HM6 KX5 KY HBI5 HB5 HR5 HI5
    have d0 := KX6.out.cell 0
    have d1 := KX6.out.cell 1
    have d2 := KX6.out.cell 2
    have HSP := Lib.hid (spoil_any k v A2 m c2 es w1.heap.size w6 HO7.out HBI6.out.size)
    go_upto_region 9 with (go_at_call 24; refine HSP.out.mono ?_; rintro e w7 ⟨rfl, hb7⟩)
    have HBI7 : Hid (Below w1.heap.size w1 w7) := HBI6.out.trans hb7
    have HB7 : Hid (Below w.heap.size w w7) := HB6.out.trans (hb7.mono HB1.out.size)
    have HR7 := Lib.hid (HR.out.below HB7.out)
    have HI7 := Lib.hid (HI1.out.below HBI7.out)
    clear hb7 d0 d1 d2 HSP HO7 KX6 HBI6 HB6
    have HS2 := Lib.hid (same_rfl A1 n c1 l A n c w7 HI7.out HR7.out)
    go_wp2_with (first
      | (go_at_call 19; refine HS2.out.mono ?_; rintro e w8 ⟨rfl, rfl⟩)
      | (go_at_call 10; refine (known_any _).mono ?_; rintro e w9 ⟨rfl, hb9⟩))
    go_ret
    exact ⟨rfl, HB7.out.trans (hb9.mono HB7.out.size)⟩
  · have hn2 : ((n : Int) > 4096) := by omega
    clear h hn
    go_enter Try.func6, Try.ntmps6
    go_wp2_with (go_at_call 10; refine (known_any _).mono ?_; rintro e w3 ⟨rfl, hb3⟩)
    go_ret
    exact ⟨rfl, hb3⟩
end Go.Proofs.Ytihbpmceggghgaa
