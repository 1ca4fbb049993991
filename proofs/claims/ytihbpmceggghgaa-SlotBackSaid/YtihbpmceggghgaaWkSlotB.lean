/- The walk of SlotBack. -/
import Derived.Test.YtihbpmceggghgaaWkSlotO
import Derived.Test.YtihbpmceggghgaaSame12
import Derived.Test.YtihbpmceggghgaaSameR
set_option linter.unusedVariables false
set_option linter.unusedSimpArgs false
namespace Go.Proofs.Ytihbpmceggghgaa
open Go.RowKit

theorem entB_pos (k : Nat) (x : Ent) : 1 ≤ (entB k x).length := by
  unfold entB
  rw [List.length_append, List.length_cons]
  omega
theorem entsB_ge (k : Nat) : ∀ es : List Ent, es.length ≤ (entsB k es).length
  | [] => Nat.le_refl _
  | x :: es => by
    have e : entsB k (x :: es) = entB k x ++ entsB k es := by simp [entsB]
    have ih := entsB_ge k es
    have h1 := entB_pos k x
    rw [e, List.length_append, List.length_cons]
    omega
theorem esOk_of {k l : Nat} {es : List Ent} (h : rE k l es = 0) (hin : esIn es) : esOk k es := fun j hj => by
  obtain ⟨h1, h2⟩ := (right_may h).2.2.2 j hj
  exact ⟨h1, h2, (hin j hj).2.1, (hin j hj).2.2⟩
/-- A right node's bytes: what slot.Decode finds in them. -/
theorem back_dec {k v : Nat} {es : List Ent} (hr : rE k v es = 0) (hin : esIn es) (hf : 3 + (entsB k es).length ≤ 224) :
    (encV k v es).length = 224 ∧ (∃ q, decEnd (encV k v es) = .ok q) ∧ (kd (encV k v es)).1 = k ∧ (lv (encV k v es)).1 = v ∧ (enEnd (encV k v es)).1 = es ∧ ∀ i, 3 + (entsB k es).length ≤ i → i < 224 → (encV k v es).getD i 0 = 0 := by
  have he : encV k v es = nodeB k v es ++ List.replicate (224 - (3 + (entsB k es).length)) 0 := by unfold encV; rw [if_pos ⟨hr, hf⟩]
  have hn := entsB_ge k es
  have hd := dec_mk hr (esOk_of hr hin) (by omega) hf
  rw [← he] at hd
  have hnl : (nodeB k v es).length = 3 + (entsB k es).length := by unfold nodeB; simp; omega
  have hl : (encV k v es).length = 224 := by rw [he, List.length_append, hnl, List.length_replicate]; omega
  rw [dec_decEnd hl] at hd
  cases hx : decEnd (encV k v es) with
  | error f => rw [hx] at hd; cases hd
  | ok q =>
    rw [hx] at hd
    injection hd with hd
    injection hd with h1 hd
    injection hd with h2 h3
    refine ⟨hl, ⟨q, rfl⟩, h1, h2, h3, fun i h4 h5 => ?_⟩
    rw [he]
    simp only [List.getD_eq_getElem?_getD]
    rw [List.getElem?_append_right (by omega), hnl, List.getElem?_replicate]
    split <;> rfl
set_option maxHeartbeats 3200000 in
theorem slotBack_walk (k l : Nat) (A : Option Addr) (n c : Nat) (es : List Ent) (w : World) (hk : k < 256) (hl : l < 256) (h : RdL w A n c es) (hin : esIn es) (hre : n * 104 ≤ 140737488351232) :
    Calls Try.prog 8 #[NdV k l A n c] w fun e w' => e = .returned (.bool true) ∧ Below w.heap.size w w' := by
  obtain ⟨W, hW⟩ : ∃ W, W = w.alloc (.cells #[.int .u8 (k : Int), .int .u8 (l : Int), .slice A n c] 24) := ⟨_, rfl⟩
  have HB0 : Hid (Below w.heap.size w W) := by rw [hW]; exact below_new1 _ _
  have N0 : Hid (Nin W w.heap.size k l A n c es) := by rw [hW]; exact Nin.new h k l
  have HREACH : Hid (rE k l es = 0 → 3 + (entsB k es).length ≤ 140737488355328) := fun hr => by
    have h1 := entsB_le (right_all hr) es.length (Nat.le_refl _)
    rw [List.take_length] at h1
    have := h.len
    omega
  have HM := Lib.hid (size_any k l A n c es W N0.out.rd hk hl hin HREACH.out)
  have HW := Lib.hid hW
  have HIN := Lib.hid hin
  clear h hW hin hre
  have d0 := N0.out.c0
  have d1 := N0.out.c1
  have d2 := N0.out.c2
  by_cases hr : rE k l es = 0
  · have HR := Lib.hid hr
    have hsv : sizeV k l es = 3 + (entsB k es).length := by unfold sizeV; rw [if_pos hr]
    obtain ⟨S, hS⟩ : ∃ S, 3 + (entsB k es).length = S := ⟨_, rfl⟩
    rw [hr, hsv, hS] at HM
    have HS := Lib.hid hS
    have hS3 : 3 ≤ S := by omega
    have hSm : S ≤ 140737488355328 := by rw [← hS]; exact HREACH.out hr
    clear hr hsv hS
    go_enter Try.func8, Try.ntmps8
    go_wp2_with fail
    rw [← HW.out]
    refine HM.out.mono ?_
    rintro e w1 ⟨rfl, hb⟩
    have N1 := Lib.hid (N0.out.below hb)
    have HB1 := Lib.hid (HB0.out.trans (hb.mono HB0.out.size))
    clear hb d0 d1 d2 HM
    have d0 := N1.out.c0
    have d1 := N1.out.c1
    have d2 := N1.out.c2
    have HC := Lib.hid (encode_any k l A n c es w1 N1.out.rd hk hl HIN.out HREACH.out)
    by_cases h2 : S ≤ 224
    · have hE : encE k l es = 0 := by unfold encE; rw [if_pos HR.out, HS.out, if_pos h2]
      rw [hE] at HC
      obtain ⟨b1, ⟨q, b2⟩, b3, b4, b5, b6⟩ := back_dec HR.out HIN.out (by rw [HS.out]; exact h2)
      obtain ⟨L, hL⟩ : ∃ L, encV k l es = L := ⟨_, rfl⟩
      rw [hL] at HC b1 b2 b3 b4 b5 b6
      have HZ : Hid (∀ i, S ≤ i → i < 224 → L.getD i 0 = 0) := fun i h3 h4 => b6 i (by rw [HS.out]; exact h3) h4
      have HDE := Lib.hid b2
      have HK : Hid ((kd L).1 = k ∧ (lv L).1 = l ∧ (enEnd L).1 = es) := ⟨b3, b4, b5⟩
      have HL := Lib.hid b1
      have hS2 : ¬ ((S : Int) > 224) := by omega
      have hS4 : ¬ ((S : Int) < 3) := by omega
      clear b1 b2 b3 b4 b5 b6 hL hE
      go_wp2_with fail
      refine HC.out.mono ?_
      rintro e w2 ⟨A2, n2, c2, rfl, hown, hb⟩
      obtain rfl : n2 = 224 := by rw [hown.len, HL.out]
      have N2 := Lib.hid (N1.out.below hb)
      have HB2 := Lib.hid (HB1.out.trans (hb.mono HB1.out.size))
      have HO := Lib.hid hown.rd
      clear hown hb d0 d1 d2 HC
      go_wp2_with fail
      go_loopw [7] (fun i wr => ∃ j : Nat, S ≤ j ∧ j ≤ 224 ∧ i = .int .i64 (j : Int) ∧ wr = w2) (fun i _ => 224 - (intOf i).toNat)
      case atStart => exact ⟨S, Nat.le_refl _, h2, rfl, rfl⟩
      case round =>
        obtain ⟨j, hj1, hj2, rfl, hwr⟩ := hrel
        subst hwr
        by_cases hlt : j < 224
        · obtain ⟨b, o, rfl, hc⟩ := HO.out.at_ (by omega)
          have hcell := hc j hlt
          rw [HZ.out j hj1 hlt] at hcell
          have hcell2 : wr.cell? ⟨b, o + j, none⟩ = some (.int .u8 0) := hcell
          have i1 : (0 : Int) ≤ (j : Int) := by omega
          have i2 : (j : Int) < 224 := by omega
          clear hc hcell
          go_wp2_with fail
          go_roundw
          case rel => exact ⟨j + 1, by omega, by omega, by go_num, trivial⟩
          case measure => first | (simp [intOf]; done) | (simp [intOf]; omega)
        · obtain rfl : j = 224 := by omega
          have HC := Lib.hid (decode_any A2 c2 L wr wr.heap.size rfl HO.out)
          go_wp2_with fail
          refine HC.out.mono ?_
          rintro e w3 hp
          unfold DecP at hp
          rw [HDE.out] at hp
          obtain ⟨⟨A', c', he, hown⟩, hb3⟩ := hp
          rw [HK.out.1, HK.out.2.1, HK.out.2.2] at he
          rw [HK.out.2.2] at hown
          subst he
          obtain ⟨m, hm⟩ : ∃ m, es.length = m := ⟨_, rfl⟩
          rw [hm] at hown
          rw [hm]
          have HO3 := Lib.hid (hown.rdl hm.symm)
          have HB3 := Lib.hid (HB2.out.trans (hb3.mono HB2.out.size))
          have N3 := Lib.hid (N2.out.below hb3)
          clear hown hb3 hm
          obtain ⟨w4, hw4⟩ : ∃ w4, w4 = w3.alloc (.cells #[.int .u8 (k : Int), .int .u8 (l : Int), .slice A' m c'] 24) := ⟨_, rfl⟩
          have hb4 : Below w3.heap.size w3 w4 := by rw [hw4]; exact below_new1 _ _
          have M4 : Hid (Nin w4 w3.heap.size k l A' m c' es) := by rw [hw4]; exact Nin.new HO3.out k l
          have N4 := Lib.hid (N3.out.below hb4)
          have HB4 : Hid (Below w.heap.size w w4) := HB3.out.trans (hb4.mono HB3.out.size)
          clear hb4
          have d0 := N4.out.c0
          have d1 := N4.out.c1
          have d2 := N4.out.c2
          have e0 := M4.out.c0
          have e1 := M4.out.c1
          have e2 := M4.out.c2
          have HSM := Lib.hid (slotsame_any k l A' m c' es k l A n c es w4 M4.out.rd N4.out.rd)
          rw [sameN_refl] at HSM
          go_upto_region 15 with fail
          rw [← hw4]
          clear hw4
          go_wp2_with (first
            | (go_at_call 20; refine HSM.out.mono ?_; rintro e w5 ⟨rfl, hb5⟩; have HB5 := Lib.hid (HB4.out.trans (hb5.mono HB4.out.size)); clear hb5)
            | (go_at_call 10; refine (known_any _).mono ?_; rintro e w6 ⟨rfl, hb6⟩))
          go_ret
          exact ⟨rfl, HB5.out.trans (hb6.mono HB5.out.size)⟩
    · have hE : encE k l es = 3 := by unfold encE; rw [if_pos HR.out, HS.out, if_neg h2]
      have hV : encV k l es = [] := by unfold encV; rw [if_neg (fun h => h2 (by rw [← HS.out]; exact h.2))]
      rw [hE, hV] at HC
      have hS2 : ((S : Int) > 224) := by omega
      clear hE hV h2
      go_wp2_with fail
      refine HC.out.mono ?_
      rintro e w2 ⟨A2, n2, c2, rfl, hown, hb⟩
      obtain rfl : n2 = 0 := by rw [hown.len]; rfl
      have HB2 := Lib.hid (HB1.out.trans (hb.mono HB1.out.size))
      clear hown hb d0 d1 d2 HC
      go_wp2_with (go_at_call 10; refine (known_any _).mono ?_; rintro e w6 ⟨rfl, hb6⟩)
      go_ret
      exact ⟨rfl, HB2.out.trans (hb6.mono HB2.out.size)⟩
  · have hsv : sizeV k l es = 0 := by unfold sizeV; rw [if_neg hr]
    rw [hsv] at HM
    have HRG := Lib.hid (right_any k l A n c es)
    obtain ⟨E, hE⟩ : ∃ E, rE k l es = E := ⟨_, rfl⟩
    rw [hE] at HM hr
    have hrb : (E != 0) = true := by rw [bne_iff_ne]; exact hr
    have HE := Lib.hid hE
    clear hsv hE hr
    go_enter Try.func8, Try.ntmps8
    go_wp2_with fail
    rw [← HW.out]
    refine HM.out.mono ?_
    rintro e w1 ⟨rfl, hb⟩
    have N1 := Lib.hid (N0.out.below hb)
    have HB1 := Lib.hid (HB0.out.trans (hb.mono HB0.out.size))
    clear hb d0 d1 d2 HM
    have d0 := N1.out.c0
    have d1 := N1.out.c1
    have d2 := N1.out.c2
    have HC := Lib.hid (HRG.out w1 N1.out.rd hk hl)
    rw [HE.out] at HC
    go_wp2_with (first
      | (go_at_call 12; refine HC.out.mono ?_; rintro e w5 ⟨rfl, hb5⟩; have HB5 := Lib.hid (HB1.out.trans (hb5.mono HB1.out.size)); clear hb5)
      | (go_at_call 10; refine (known_any _).mono ?_; rintro e w6 ⟨rfl, hb6⟩))
    go_ret
    exact ⟨rfl, HB5.out.trans (hb6.mono HB5.out.size)⟩
end Go.Proofs.Ytihbpmceggghgaa
