/- The walk of SlotRight. -/
import Derived.Test.YtihbpmceggghgaaRefEnc
import Derived.Test.YtihbpmceggghgaaKnown12
set_option linter.unusedVariables false
set_option linter.unusedSimpArgs false
namespace Go.Proofs.Ytihbpmceggghgaa
open Go.RowKit

theorem HOk.reach {k l : Nat} {es : List Ent} (h : HOk es) : rE k l es = 0 → 3 + (entsB k es).length ≤ 140737488355328 := fun hr => by
  have h1 := entsB_le (right_all hr) es.length (Nat.le_refl _)
  rw [List.take_length] at h1
  have := h.1
  omega
/-- A node in a variable of its own. -/
structure Nin (w : World) (g k l : Nat) (A : Option Addr) (n c : Nat) (es : List Ent) : Prop where
  blk : Blk w g 24 (ndA k l A n c)
  rd : RdL w A n c es
namespace Nin
variable {w w' : World} {g k l n c : Nat} {A : Option Addr} {es : List Ent}
theorem below (h : Nin w g k l A n c es) (hb : Below w.heap.size w w') : Nin w' g k l A n c es := ⟨h.blk.below hb h.blk.lt, h.rd.below hb⟩
theorem c0 (h : Nin w g k l A n c es) : w.cell? ⟨g, 0, none⟩ = some (.int .u8 (k : Int)) := h.blk.cell 0
theorem c1 (h : Nin w g k l A n c es) : w.cell? ⟨g, 1, none⟩ = some (.int .u8 (l : Int)) := h.blk.cell 1
theorem c2 (h : Nin w g k l A n c es) : w.cell? ⟨g, 2, none⟩ = some (.slice A n c) := h.blk.cell 2
theorem new (h : RdL w A n c es) (k l : Nat) : Nin (w.alloc (.cells #[.int .u8 (k : Int), .int .u8 (l : Int), .slice A n c] 24)) w.heap.size k l A n c es := ⟨Blk.new _ _ _, h.below (below_new1 _ _)⟩
end Nin
set_option maxHeartbeats 3200000 in
theorem slotRight_walk (k l : Nat) (A : Option Addr) (n c : Nat) (es : List Ent) (w : World) (hk : k < 256) (hl : l < 256) (h : RdL w A n c es) (hin : esIn es) :
    Calls Try.prog 3 #[NdV k l A n c] w fun e w' => e = .returned (.bool true) ∧ Below w.heap.size w w' := by
  obtain ⟨W, hW⟩ : ∃ W, W = w.alloc (.cells #[.int .u8 (k : Int), .int .u8 (l : Int), .slice A n c] 24) := ⟨_, rfl⟩
  have HB0 : Hid (Below w.heap.size w W) := by rw [hW]; exact below_new1 _ _
  have N0 : Hid (Nin W w.heap.size k l A n c es) := by rw [hW]; exact Nin.new h k l
  have HM := Lib.hid (heavy_any k l A n c es W N0.out.rd hk hl)
  have HW := Lib.hid hW
  have HIN := Lib.hid hin
  have HNL := Lib.hid h.len
  clear h hW hin
  have d0 := N0.out.c0
  have d1 := N0.out.c1
  have d2 := N0.out.c2
  go_enter Try.func3, Try.ntmps3
  go_wp2_with fail
  rw [← HW.out]
  refine HM.out.mono ?_
  rintro e w1 ⟨b, rfl, hbb, hb⟩
  have N1 := Lib.hid (N0.out.below hb)
  have HB1 := Lib.hid (HB0.out.trans (hb.mono HB0.out.size))
  have HBB := Lib.hid hbb
  clear hb hbb d0 d1 d2
  cases b with
  | true =>
    go_wp2_with (go_at_call 10; refine (known_any _).mono ?_; rintro e w3 ⟨rfl, hb3⟩)
    go_ret
    exact ⟨rfl, HB1.out.trans (hb3.mono HB1.out.size)⟩
  | false =>
    have HO := Lib.hid (HBB.out rfl)
    clear HBB
    have d0 := N1.out.c0
    have d1 := N1.out.c1
    have d2 := N1.out.c2
    have HC := Lib.hid (copynode_any k l A n c es w1 N1.out.rd (by have := HO.out.1; have := HNL.out; omega) HO.out.2)
    go_wp2_with fail
    refine HC.out.mono ?_
    rintro e w2 ⟨A2, c2, rfl, hown2, hb⟩
    have HB2 := Lib.hid (HB1.out.trans (hb.mono HB1.out.size))
    have N2 := Lib.hid (N1.out.below hb)
    have HO2 := Lib.hid (hown2.rdl HNL.out)
    clear hown2 hb d0 d1 d2 HC
    obtain ⟨w3, hw3⟩ : ∃ w3, w3 = w2.alloc (.cells #[.int .u8 (k : Int), .int .u8 (l : Int), .slice A2 n c2] 24) := ⟨_, rfl⟩
    have hb : Below w2.heap.size w2 w3 := by rw [hw3]; exact below_new1 _ _
    have I3 : Hid (Nin w3 w2.heap.size k l A2 n c2 es) := by rw [hw3]; exact Nin.new HO2.out k l
    have HB3 := Lib.hid (HB2.out.trans (hb.mono HB2.out.size))
    have N3 := Lib.hid (N2.out.below hb)
    have HW3 := Lib.hid hw3
    clear hb hw3
    have d0 := I3.out.c0
    have d1 := I3.out.c1
    have d2 := I3.out.c2
    have HC := Lib.hid (right_any k l A2 n c2 es w3 I3.out.rd hk hl)
    go_wp2_with fail
    rw [← HW3.out]
    refine HC.out.mono ?_
    rintro e w4 ⟨rfl, hb⟩
    have HB4 := Lib.hid (HB3.out.trans (hb.mono HB3.out.size))
    have N4 := Lib.hid (N3.out.below hb)
    have I4 := Lib.hid (I3.out.below hb)
    clear hb d0 d1 d2 HC
    have d0 := I4.out.c0
    have d1 := I4.out.c1
    have d2 := I4.out.c2
    have HC := Lib.hid (size_any k l A2 n c2 es w4 I4.out.rd hk hl HIN.out HO.out.reach)
    go_wp2_with fail
    refine HC.out.mono ?_
    rintro e w5 ⟨rfl, hb⟩
    have HB5 := Lib.hid (HB4.out.trans (hb.mono HB4.out.size))
    have N5 := Lib.hid (N4.out.below hb)
    have I5 := Lib.hid (I4.out.below hb)
    clear hb d0 d1 d2 HC
    have d0 := N5.out.c0
    have d1 := N5.out.c1
    have d2 := N5.out.c2
    have HC := Lib.hid (refright_any k l A n c es w5 N5.out.rd hk hl)
    go_wp2_with fail
    refine HC.out.mono ?_
    rintro e w6 ⟨rfl, hb⟩
    have HB6 := Lib.hid (HB5.out.trans (hb.mono HB5.out.size))
    have N6 := Lib.hid (N5.out.below hb)
    have I6 := Lib.hid (I5.out.below hb)
    clear hb d0 d1 d2 HC
    have d0 := N6.out.c0
    have d1 := N6.out.c1
    have d2 := N6.out.c2
    have e0 := I6.out.c0
    have e1 := I6.out.c1
    have e2 := I6.out.c2
    have HC := Lib.hid (refsame_any k l A2 n c2 es k l A n c es w6 I6.out.rd N6.out.rd hk hl hk hl)
    rw [sameN_refl] at HC
    obtain ⟨E, HE⟩ : ∃ E, Hid (rE k l es = E) := ⟨_, rfl⟩
    rw [HE.out]
    go_wp2_with fail
    refine HC.out.mono ?_
    rintro e w7 ⟨rfl, hb⟩
    have HB7 := Lib.hid (HB6.out.trans (hb.mono HB6.out.size))
    have N7 := Lib.hid (N6.out.below hb)
    clear hb d0 d1 d2 e0 e1 e2 HC
    by_cases hE : E = 0
    · subst hE
      have HC := Lib.hid (refsize_any k l A n c es w7 N7.out.rd hk hl HIN.out HE.out (HO.out.reach HE.out))
      have d0 := N7.out.c0
      have d1 := N7.out.c1
      have d2 := N7.out.c2
      go_wp2_with fail
      refine HC.out.mono ?_
      rintro e w8 ⟨rfl, hb⟩
      have HB8 := Lib.hid (HB7.out.trans (hb.mono HB7.out.size))
      clear hb d0 d1 d2 HC
      go_wp2_with fail
      refine (known_any _).mono ?_
      rintro e w9 ⟨rfl, hb⟩
      go_wp2_with fail
      go_ret
      exact ⟨rfl, HB8.out.trans (hb.mono HB8.out.size)⟩
    · have hne : (E != 0) = true := by rw [bne_iff_ne]; exact hE
      have hsz : sizeV k l es = 0 := by rw [sizeV, if_neg (by rw [HE.out]; exact hE)]
      rw [hsz]
      go_wp2_with fail
      refine (known_any _).mono ?_
      rintro e w9 ⟨rfl, hb⟩
      go_wp2_with fail
      go_ret
      exact ⟨rfl, HB7.out.trans (hb.mono HB7.out.size)⟩
end Go.Proofs.Ytihbpmceggghgaa
