/- The walk of SlotOnly. -/
import Derived.Test.YtihbpmceggghgaaWkSlotR
import Derived.Test.YtihbpmceggghgaaDecF
set_option linter.unusedVariables false
set_option linter.unusedSimpArgs false
namespace Go.Proofs.Ytihbpmceggghgaa
open Go.RowKit

theorem esOk_in {k : Nat} {es : List Ent} (h : esOk k es) : esIn es := fun j hj => by
  obtain ⟨h1, _, h3, h4⟩ := h j hj
  obtain ⟨_, _, q3, q4⟩ := emay_le h1
  exact ⟨⟨by omega, by omega⟩, h3, h4⟩
/-- What slot.Decode reads, its bytes again. -/
structure DecG (l : List UInt8) (k v : Nat) (es : List Ent) : Prop where
  right : rE k v es = 0
  ok : esOk k es
  k_ : k < 256
  v_ : v < 256
  n : es.length < 256
  fit : 3 + (entsB k es).length ≤ 224
  bytes : nodeB k v es ++ List.replicate (224 - (3 + (entsB k es).length)) 0 = l
theorem decG {l : List UInt8} (hb : l.length = 224) {q : Nat} (h : decEnd l = .ok q) : DecG l (kd l).1 (lv l).1 (enEnd l).1 := by
  obtain ⟨a, b, c, d, e, f, g⟩ := dec_ok hb (dec_good hb h)
  exact ⟨a, b, c, d, e, f, g⟩
theorem DecG.encE {l : List UInt8} {k v : Nat} {es : List Ent} (h : DecG l k v es) : encE k v es = 0 := by
  unfold Go.Proofs.Ytihbpmceggghgaa.encE
  rw [if_pos h.right, if_pos h.fit]
theorem DecG.encV {l : List UInt8} {k v : Nat} {es : List Ent} (h : DecG l k v es) : encV k v es = l := by
  unfold Go.Proofs.Ytihbpmceggghgaa.encV
  rw [if_pos ⟨h.right, h.fit⟩, h.bytes]
set_option maxHeartbeats 3200000 in
theorem slotOnly_walk (A : Option Addr) (n c : Nat) (l : List UInt8) (w : World) (h : Rd w A n c l) (hr : c ≤ 140737488351232) :
    Calls Try.prog 7 #[.slice A n c] w fun e w' => e = .returned (.bool true) ∧ Below w.heap.size w w' := by
  have hcap := h.cap
  by_cases hn : n = 224
  · subst hn
    have HL := Lib.hid h.len
    have HC := Lib.hid (decode_any A c l w w.heap.size rfl h)
    have HR := Lib.hid h
    cases hd : decEnd l with
    | ok q =>
      have HG := Lib.hid (decG h.len.symm hd)
      have HDE := Lib.hid hd
      clear h hd
      obtain ⟨k, hk⟩ : ∃ k, (kd l).1 = k := ⟨_, rfl⟩
      obtain ⟨v, hv⟩ : ∃ v, (lv l).1 = v := ⟨_, rfl⟩
      obtain ⟨es, hes⟩ : ∃ es, (enEnd l).1 = es := ⟨_, rfl⟩
      rw [hk, hv, hes] at HG
      have HK : Hid ((kd l).1 = k ∧ (lv l).1 = v ∧ (enEnd l).1 = es) := ⟨hk, hv, hes⟩
      clear hk hv hes
      go_enter Try.func7, Try.ntmps7
      go_wp2_with fail
      refine HC.out.mono ?_
      rintro e w1 hp
      unfold DecP at hp
      rw [HDE.out] at hp
      obtain ⟨⟨A', c', he, hown⟩, hb1⟩ := hp
      rw [HK.out.1, HK.out.2.1, HK.out.2.2] at he
      rw [HK.out.2.2] at hown
      subst he
      obtain ⟨m, hm⟩ : ∃ m, es.length = m := ⟨_, rfl⟩
      rw [hm] at hown
      rw [hm]
      have HO := Lib.hid (hown.rdl hm.symm)
      have HB1 := Lib.hid hb1
      have HR1 := Lib.hid (HR.out.below hb1)
      clear hown hb1 hm
      have hkl := HG.out.k_
      have hvl := HG.out.v_
      obtain ⟨w2, hw2⟩ : ∃ w2, w2 = w1.alloc (.cells #[.int .u8 (k : Int), .int .u8 (v : Int), .slice A' m c'] 24) := ⟨_, rfl⟩
      have hb2 : Below w1.heap.size w1 w2 := by rw [hw2]; exact below_new1 _ _
      have N2 : Hid (Nin w2 w1.heap.size k v A' m c' es) := by rw [hw2]; exact Nin.new HO.out k v
      have HB2 : Hid (Below w.heap.size w w2) := HB1.out.trans (hb2.mono HB1.out.size)
      have HR2 := Lib.hid (HR1.out.below hb2)
      clear hb2
      have d0 := N2.out.c0
      have d1 := N2.out.c1
      have d2 := N2.out.c2
      have HE := Lib.hid (encode_any k v A' m c' es w2 N2.out.rd hkl hvl (esOk_in HG.out.ok) (fun _ => by have := HG.out.fit; omega))
      rw [HG.out.encE, HG.out.encV] at HE
      go_upto_region 2 with fail
      rw [← hw2]
      clear hw2
      go_wp2_with fail
      refine HE.out.mono ?_
      rintro e w3 ⟨A3, n3, c3, rfl, hown3, hb3⟩
      have N3 := Lib.hid (N2.out.below hb3)
      have HB3 : Hid (Below w.heap.size w w3) := HB2.out.trans (hb3.mono HB2.out.size)
      have k1 := hown3.rd.str (P := Try.prog) 34 5 9 Try.underlying34 Try.underlying5 Try.underlying9
      have k2 := (HR2.out.below hb3).str (P := Try.prog) 34 5 9 Try.underlying34 Try.underlying5 Try.underlying9
      clear hown3 hb3 HE d0 d1 d2
      have d0 := N3.out.c0
      have d1 := N3.out.c1
      have d2 := N3.out.c2
      have HM := Lib.hid (right_any k v A' m c' es w3 N3.out.rd hkl hvl)
      rw [HG.out.right] at HM
      go_wp2_with (first
        | (go_at_call 12; refine HM.out.mono ?_; rintro e w4 ⟨rfl, hb4⟩; have HB4 := Lib.hid (HB3.out.trans (hb4.mono HB3.out.size)); clear hb4)
        | (go_at_call 10; refine (known_any _).mono ?_; rintro e w5 ⟨rfl, hb5⟩))
      go_ret
      exact ⟨rfl, HB4.out.trans (hb5.mono HB4.out.size)⟩
    | error f =>
      have hf := decEnd_le h.len.symm hd
      have HDE := Lib.hid hd
      clear h hd
      go_enter Try.func7, Try.ntmps7
      go_wp2_with fail
      refine HC.out.mono ?_
      rintro e w1 hp
      unfold DecP at hp
      rw [HDE.out] at hp
      obtain ⟨rfl, hb1⟩ := hp
      have HB1 := Lib.hid hb1
      have hb2 : Below w1.heap.size w1 (w1.alloc (.cells #[.int .u8 0, .int .u8 0, .slice none 0 0] 24)) := below_new1 _ _
      have HB2 : Hid (Below w.heap.size w (w1.alloc (.cells #[.int .u8 0, .int .u8 0, .slice none 0 0] 24))) := HB1.out.trans (hb2.mono HB1.out.size)
      clear hb1 hb2
      have i1 : (0 : Int) ≤ (f : Int) := by omega
      have i2 : (f : Int) ≤ 224 := by omega
      go_wp2_with (go_at_call 10; refine (known_any _).mono ?_; rintro e w5 ⟨rfl, hb5⟩)
      go_ret
      exact ⟨rfl, HB2.out.trans (hb5.mono HB2.out.size)⟩
  · have HC := Lib.hid (decode_bad A n c w hn (by omega))
    have hnb : ((n : Int) != 224) = true := by rw [bne_iff_ne]; omega
    clear h
    go_enter Try.func7, Try.ntmps7
    go_wp2_with fail
    refine HC.out.mono ?_
    rintro e w1 ⟨rfl, hb1⟩
    have HB1 := Lib.hid hb1
    have hb2 : Below w1.heap.size w1 (w1.alloc (.cells #[.int .u8 0, .int .u8 0, .slice none 0 0] 24)) := below_new1 _ _
    have HB2 : Hid (Below w.heap.size w (w1.alloc (.cells #[.int .u8 0, .int .u8 0, .slice none 0 0] 24))) := HB1.out.trans (hb2.mono HB1.out.size)
    clear hb1 hb2
    go_wp2_with (go_at_call 10; refine (known_any _).mono ?_; rintro e w5 ⟨rfl, hb5⟩)
    go_ret
    exact ⟨rfl, HB2.out.trans (hb5.mono HB2.out.size)⟩
end Go.Proofs.Ytihbpmceggghgaa
