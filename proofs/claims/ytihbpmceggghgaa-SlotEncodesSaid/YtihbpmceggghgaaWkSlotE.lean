/- The walk of SlotEncodes. -/
import Derived.Test.YtihbpmceggghgaaWkSlotR
set_option linter.unusedVariables false
set_option linter.unusedSimpArgs false
namespace Go.Proofs.Ytihbpmceggghgaa
open Go.RowKit

theorem same_refl (A : Option Addr) (n c : Nat) (l : List UInt8) (A' : Option Addr) (n' c' : Nat) (w : World) (h : Rd w A n c l) (h' : Rd w A' n' c' l) :
    Calls Try.prog 19 #[.slice A n c, .slice A' n' c'] w fun e w' => e = .returned (.bool true) ∧ w = w' := by
  refine (same_any A n c l A' n' c' l w h h').mono ?_
  rintro e w' ⟨rfl, rfl⟩
  exact ⟨by simp, rfl⟩
set_option maxHeartbeats 3200000 in
theorem slotEncodes_walk (k l : Nat) (A : Option Addr) (n c : Nat) (es : List Ent) (w : World) (hk : k < 256) (hl : l < 256) (h : RdL w A n c es) (hin : esIn es) :
    Calls Try.prog 4 #[NdV k l A n c] w fun e w' => e = .returned (.bool true) ∧ Below w.heap.size w w' := by
  obtain ⟨W, hW⟩ : ∃ W, W = w.alloc (.cells #[.int .u8 (k : Int), .int .u8 (l : Int), .slice A n c] 24) := ⟨_, rfl⟩
  have HB0 : Hid (Below w.heap.size w W) := by rw [hW]; exact below_new1 _ _
  have N0 : Hid (Nin W w.heap.size k l A n c es) := by rw [hW]; exact Nin.new h k l
  have HM := Lib.hid (heavy_any k l A n c es W N0.out.rd hk hl)
  have HW := Lib.hid hW
  have HIN := Lib.hid hin
  have HNL := Lib.hid h.len
  clear h hW hin
  have d0 := N0.out.c0
  have d1 := N0.out.c1
  have d2 := N0.out.c2
  go_enter Try.func4, Try.ntmps4
  go_wp2_with fail
  rw [← HW.out]
  refine HM.out.mono ?_
  rintro e w1 ⟨b, rfl, hbb, hb⟩
  have N1 := Lib.hid (N0.out.below hb)
  have HB1 := Lib.hid (HB0.out.trans (hb.mono HB0.out.size))
  have HBB := Lib.hid hbb
  clear hb hbb d0 d1 d2
  cases b with
  | true =>
    go_wp2_with (go_at_call 10; refine (known_any _).mono ?_; rintro e w3 ⟨rfl, hb3⟩)
    go_ret
    exact ⟨rfl, HB1.out.trans (hb3.mono HB1.out.size)⟩
  | false =>
    have HO := Lib.hid (HBB.out rfl)
    clear HBB
    have d0 := N1.out.c0
    have d1 := N1.out.c1
    have d2 := N1.out.c2
    have HC := Lib.hid (copynode_any k l A n c es w1 N1.out.rd (by have := HO.out.1; have := HNL.out; omega) HO.out.2)
    go_wp2_with fail
    refine HC.out.mono ?_
    rintro e w2 ⟨A2, c2, rfl, hown2, hb⟩
    have HB2 := Lib.hid (HB1.out.trans (hb.mono HB1.out.size))
    have N2 := Lib.hid (N1.out.below hb)
    have HO2 := Lib.hid (hown2.rdl HNL.out)
    clear hown2 hb d0 d1 d2 HC
    obtain ⟨w3, hw3⟩ : ∃ w3, w3 = w2.alloc (.cells #[.int .u8 (k : Int), .int .u8 (l : Int), .slice A2 n c2] 24) := ⟨_, rfl⟩
    have hb : Below w2.heap.size w2 w3 := by rw [hw3]; exact below_new1 _ _
    have I3 : Hid (Nin w3 w2.heap.size k l A2 n c2 es) := by rw [hw3]; exact Nin.new HO2.out k l
    have HB3 := Lib.hid (HB2.out.trans (hb.mono HB2.out.size))
    have N3 := Lib.hid (N2.out.below hb)
    have HW3 := Lib.hid hw3
    clear hb hw3
    have d0 := I3.out.c0
    have d1 := I3.out.c1
    have d2 := I3.out.c2
    have HC := Lib.hid (encode_any k l A2 n c2 es w3 I3.out.rd hk hl HIN.out HO.out.reach)
    obtain ⟨E, HE⟩ : ∃ E, Hid (encE k l es = E) := ⟨_, rfl⟩
    obtain ⟨V, HV⟩ : ∃ V, Hid (encV k l es = V) := ⟨_, rfl⟩
    rw [HE.out, HV.out] at HC
    go_wp2_with fail
    rw [← HW3.out]
    refine HC.out.mono ?_
    rintro e w4 ⟨A4, n4, c4, rfl, hown, hb⟩
    have HB4 := Lib.hid (HB3.out.trans (hb.mono HB3.out.size))
    have HL4 := Lib.hid hb
    have HO4 := Lib.hid hown
    have N4 := Lib.hid (N3.out.below hb)
    clear hb hown d0 d1 d2 HC
    have d0 := N4.out.c0
    have d1 := N4.out.c1
    have d2 := N4.out.c2
    have HC := Lib.hid (refencode_any k l A n c es w4 N4.out.rd hk hl HIN.out HO.out.reach)
    rw [HE.out, HV.out] at HC
    go_wp2_with fail
    refine HC.out.mono ?_
    rintro e w5 ⟨A5, n5, c5, rfl, hown, hb⟩
    have HL5 : Hid (Below w3.heap.size w3 w5) := HL4.out.trans (hb.mono HL4.out.size)
    have HO5 := Lib.hid (HO4.out.below hb)
    have HR5 := Lib.hid hown.rd
    clear hb hown d0 d1 d2 HC
    go_wp2_with (go_at_call 19; refine (same_refl A4 n4 c4 V A5 n5 c5 _ HO5.out.rd HR5.out).mono ?_; rintro e w' ⟨rfl, rfl⟩)
    have hm4 : c4 ≤ 9223372036854775807 := by have := HO5.out.rd.max; unfold maxLen at this; omega
    have hn4 : n4 ≤ c4 := HO5.out.rd.cap
    go_loopw [35] (fun i wr => ∃ (j : Nat) (l' : List UInt8), j ≤ n4 ∧ i = .int .i64 j ∧ Own wr w3.heap.size A4 n4 c4 l' ∧ Below w3.heap.size w3 wr) (fun i _ => n4 - (intOf i).toNat)
    case atStart => exact ⟨0, V, Nat.zero_le _, rfl, HO5.out, HL5.out⟩
    case round =>
      obtain ⟨j, l', hj, rfl, hown, hbel⟩ := hrel
      have HOW := Lib.hid hown
      clear hown
      have HBW : Hid (Below w.heap.size w wr) := HB3.out.trans (hbel.mono HB3.out.size)
      by_cases hlt : j < n4
      · obtain ⟨g2, rfl, hg2⟩ := HOW.out.split (by omega)
        have hcell : wr.cell? ⟨g2, j, none⟩ = some (B8 (l'.getD j 0)) := own_cell HOW.out j hlt
        have hfr : wr.frozen? ⟨g2, j, none⟩ = false := HOW.out.frozenAt j
        obtain ⟨x, HX⟩ : ∃ x, Hid (x = l'.getD j 0) := ⟨_, rfl⟩
        rw [← HX.out] at hcell
        have hx := x.toNat_lt
        have hfl := flip255 x
        go_wp2
        go_roundw
        case rel => exact ⟨j + 1, l'.set j (x ^^^ 255), by omega, by go_num, own_set HOW.out j (x ^^^ 255), hbel.setCell hg2 _⟩
        case measure => first | (simp [intOf]; done) | (simp [intOf]; omega)
      · obtain rfl : j = n4 := by omega
        have NW := Lib.hid (N3.out.below hbel)
        have IW := Lib.hid (I3.out.below hbel)
        have HC := Lib.hid (refsame_any k l A2 n c2 es k l A n c es wr IW.out.rd NW.out.rd hk hl hk hl)
        rw [sameN_refl] at HC
        clear hbel HOW
        have d0 := NW.out.c0
        have d1 := NW.out.c1
        have d2 := NW.out.c2
        have e0 := IW.out.c0
        have e1 := IW.out.c1
        have e2 := IW.out.c2
        go_wp2_with (first
          | (go_at_call 15; refine HC.out.mono ?_; rintro e w6 ⟨rfl, hb6⟩; have HB6 := Lib.hid (HBW.out.trans (hb6.mono HBW.out.size)); clear hb6)
          | (go_at_call 10; refine (known_any _).mono ?_; rintro e w7 ⟨rfl, hb7⟩))
        go_ret
        exact ⟨rfl, HB6.out.trans (hb7.mono HB6.out.size)⟩
end Go.Proofs.Ytihbpmceggghgaa
