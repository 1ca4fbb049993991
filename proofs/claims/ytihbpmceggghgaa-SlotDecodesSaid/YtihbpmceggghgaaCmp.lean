/- Contracts: rows of bytes compared: bytes.Compare, bytes.Equal, and the reference's Less. -/
import Derived.Test.YtihbpmceggghgaaEntA
import Derived.Lib.BytesEntry
import Derived.Lib.Bytealg
import Derived.Laws.Externs
import Derived.Deep.QuietTactic
import Derived.BigQuiet
set_option linter.unusedVariables false
set_option linter.unusedSimpArgs false
namespace Go.Proofs.Ytihbpmceggghgaa
open Go.RowKit

theorem bytesOf_map (l : List UInt8) : Lib.bytesOf (l.map fun x => (x.toNat : Int)) = l := by
  unfold Lib.bytesOf
  rw [List.map_map]
  have : (fun n : Int => UInt8.ofNat n.toNat) ∘ (fun x : UInt8 => (x.toNat : Int)) = id := by
    funext x; simp
  rw [this, List.map_id]
theorem rd_bytesOf {P : Program} {w : World} {A : Option Addr} {n c : Nat} {l : List UInt8} (h : Rd w A n c l) : (Extern.Bytes.bytesOf (.slice A n c)).run P w = .ok ⟨l.toArray⟩ w := by
  have he : (⟨ByteArray.empty.data ++ l.toArray⟩ : ByteArray) = ⟨l.toArray⟩ := by
    apply ByteArray.ext
    show (#[] : Array UInt8) ++ l.toArray = l.toArray
    simp
  by_cases h0 : 0 < n
  · obtain ⟨b, o, rfl, hc⟩ := h.at_ h0
    have hl := Lib.run_loadBytesX (P := P) w (l.map fun x => (x.toNat : Int)) ⟨b, o, none⟩ .empty (fun j x hj => by
      have hjl : j < l.length := by simpa using (List.getElem?_eq_some_iff.1 hj).1
      rw [Addr.add_lit, hc j (by rw [h.len]; exact hjl)]
      simp only [List.getElem?_map, List.getElem?_eq_getElem hjl, Option.map_some, Option.some.injEq] at hj
      subst hj
      simp [List.getD, List.getElem?_eq_getElem hjl])
    rw [bytesOf_map, List.length_map, ← h.len, he] at hl
    exact hl
  · obtain rfl : n = 0 := by omega
    obtain rfl : l = [] := List.eq_nil_of_length_eq_zero h.len.symm
    cases A with
    | none => rfl
    | some a => rfl
theorem run_compareRd {P : Program} {w : World} {A : Option Addr} {n c : Nat} {l : List UInt8} {A' : Option Addr} {n' c' : Nat} {l' : List UInt8} (h : Rd w A n c l) (h' : Rd w A' n' c' l') :
    (Extern.BytealgCompare.compare #[.slice A n c, .slice A' n' c']).run P w = .ok (.int .i64 (Lib.compareBytes l l')) w := by
  change Sem.run P (do pure (goInt (Extern.BytealgCompare.cmp (← Extern.Bytes.bytesOf (.slice A n c)) (← Extern.Bytes.bytesOf (.slice A' n' c'))))) w = _
  simp only [Sem.run_bind, rd_bytesOf h, rd_bytesOf h', Sem.run_pure, Result.andThen]
  rw [Lib.cmp_eq]
  rfl
theorem cmp_less : ∀ a b : List UInt8, decide (Lib.compareBytes a b ≥ 0) = !less a b
  | [], [] => rfl
  | [], _ :: _ => rfl
  | _ :: _, [] => rfl
  | x :: a, y :: b => by
    unfold Lib.compareBytes less
    by_cases h1 : x < y
    · have hn : x ≠ y := fun e => UInt8.lt_irrefl y (by rw [e] at h1; exact h1)
      rw [if_pos h1, if_neg hn, decide_eq_true (UInt8.lt_iff_toNat_lt.1 h1)]
      rfl
    · rw [if_neg h1]
      by_cases h2 : y < x
      · have hn : x ≠ y := fun e => UInt8.lt_irrefl y (by rw [e] at h2; exact h2)
        have e1 : decide (x.toNat < y.toNat) = false := decide_eq_false (by have := UInt8.lt_iff_toNat_lt.1 h2; omega)
        rw [if_pos h2, if_neg hn, e1]
        rfl
      · have he : x = y := UInt8.le_antisymm (UInt8.not_lt.1 h2) (UInt8.not_lt.1 h1)
        rw [if_neg h2, if_pos he]
        exact cmp_less a b
theorem cmp_range : ∀ a b : List UInt8, -1 ≤ Lib.compareBytes a b ∧ Lib.compareBytes a b ≤ 1
  | [], [] => by decide
  | [], _ :: _ => by simp [Lib.compareBytes]
  | _ :: _, [] => by simp [Lib.compareBytes]
  | x :: a, y :: b => by
    unfold Lib.compareBytes
    split
    · decide
    · split
      · decide
      · exact cmp_range a b
set_option maxHeartbeats 1000000 in
set_option maxRecDepth 100000 in
theorem compare_any (A : Option Addr) (n c : Nat) (l : List UInt8) (A' : Option Addr) (n' c' : Nat) (l' : List UInt8) (w : World) (h : Rd w A n c l) (h' : Rd w A' n' c' l') :
    Calls Try.prog 29 #[.slice A n c, .slice A' n' c'] w fun e w' => e = .returned (.int .i64 (Lib.compareBytes l l')) ∧ w = w' := by
  have HR := Lib.hid (run_compareRd (P := Try.prog) h h')
  clear h h'
  go_enter Try.func29, Try.ntmps29
  go_wp2
  rw [run_callFunc_extern Try.func56 (by kernel_rfl) (by kernel_rfl) (by kernel_rfl) (e := Extern.BytealgCompare.compare) (by kernel_rfl), HR.out]
  simp only [Result.andThen]
  rw [Oper.upon_value]
  go_wp2
  go_ret
  exact ⟨rfl, rfl⟩
set_option maxHeartbeats 400000 in
theorem equal_any (A : Option Addr) (n c : Nat) (l : List UInt8) (A' : Option Addr) (n' c' : Nat) (l' : List UInt8) (w : World) (h : Rd w A n c l) (h' : Rd w A' n' c' l') :
    Calls Try.prog 37 #[.slice A n c, .slice A' n' c'] w fun e w' => e = .returned (.bool (l == l')) ∧ w = w' := by
  have k1 := h.str (P := Try.prog) 34 5 9 Try.underlying34 Try.underlying5 Try.underlying9
  have k2 := h'.str (P := Try.prog) 34 5 9 Try.underlying34 Try.underlying5 Try.underlying9
  clear h h'
  go_enter Try.func37, Try.ntmps37
  go_wp2
  go_ret
  exact ⟨rfl, rfl⟩

theorem less_drop : ∀ (k : Nat) (a b : List UInt8), a.take k = b.take k → k ≤ a.length → k ≤ b.length → less a b = less (a.drop k) (b.drop k)
  | 0, _, _, _, _, _ => rfl
  | k + 1, [], _, _, h, _ => absurd h (by simp)
  | k + 1, _ :: _, [], _, _, h => absurd h (by simp)
  | k + 1, x :: a, y :: b, h, h1, h2 => by
    simp only [List.take_succ_cons, List.cons.injEq] at h
    rw [less, if_pos h.1, List.drop_succ_cons, List.drop_succ_cons]
    exact less_drop k a b h.2 (by simpa using h1) (by simpa using h2)
theorem less_at (a b : List UInt8) (k : Nat) (x y : UInt8) (h : a.take k = b.take k) (h1 : k < a.length) (h2 : k < b.length) (hx : a.getD k 0 = x) (hy : b.getD k 0 = y) (hne : x ≠ y) : less a b = decide (x.toNat < y.toNat) := by
  rw [less_drop k a b h (by omega) (by omega), List.drop_eq_getElem_cons h1, List.drop_eq_getElem_cons h2]
  have e1 : a[k] = x := by rw [← hx]; simp [List.getD, List.getElem?_eq_getElem h1]
  have e2 : b[k] = y := by rw [← hy]; simp [List.getD, List.getElem?_eq_getElem h2]
  rw [e1, e2, less, if_neg hne]
theorem less_end (a b : List UInt8) (k : Nat) (h : a.take k = b.take k) (h1 : k ≤ a.length) (h2 : k ≤ b.length) (he : a.length ≤ k ∨ b.length ≤ k) : less a b = decide (a.length < b.length) := by
  rw [less_drop k a b h h1 h2]
  have l1 := List.length_drop (l := a) (i := k)
  have l2 := List.length_drop (l := b) (i := k)
  rcases hd : b.drop k with _ | ⟨y, b'⟩
  · rw [hd] at l2
    rw [show less (a.drop k) [] = false by cases a.drop k <;> rfl, eq_comm, decide_eq_false_iff_not]
    simp at l2; omega
  · rw [hd] at l2
    simp at l2
    have : a.drop k = [] := List.drop_eq_nil_of_le (by omega)
    rw [this, show less [] (y :: b') = true from rfl, eq_comm, decide_eq_true_iff]
    omega
set_option maxHeartbeats 800000 in
theorem refless_any (A : Option Addr) (n c : Nat) (l : List UInt8) (A' : Option Addr) (n' c' : Nat) (l' : List UInt8) (w : World) (h : Rd w A n c l) (h' : Rd w A' n' c' l') :
    Calls Try.prog 33 #[.slice A n c, .slice A' n' c'] w fun e w' => e = .returned (.bool (less l l')) ∧ Drawn w w' := by
  have HL := Lib.hid h.len
  have HL' := Lib.hid h'.len
  have hcm := h.cap
  have hcx := h.max
  have hcm' := h'.cap
  have hcx' := h'.max
  unfold maxLen at hcx hcx'
  have HA := Lib.hid h.at_
  have HA' := Lib.hid h'.at_
  clear h h'
  go_enter Try.func33, Try.ntmps33
  go_wp2_with fail
  go_loopw [5] (fun i wr => ∃ k q0 : Nat, k ≤ n ∧ k ≤ n' ∧ i = .int .i64 (k : Int) ∧ l.take k = l'.take k ∧ wr = w.drewN q0) (fun i _ => n - (intOf i).toNat)
  case atStart => exact ⟨0, 0, Nat.zero_le _, Nat.zero_le _, rfl, rfl, rfl⟩
  case round =>
    obtain ⟨k, q0, hk, hk', rfl, ht, rfl⟩ := hrel
    have HT := Lib.hid ht
    clear ht
    by_cases hlt : k < n
    · have hd : decide ((k : Int) < (n : Int)) = true := decide_eq_true (by omega)
      by_cases hlt' : k < n'
      · have hd' : decide ((k : Int) < (n' : Int)) = true := decide_eq_true (by omega)
        obtain ⟨b, o, rfl, hc⟩ := HA.out (by omega)
        obtain ⟨b', o', rfl, hc'⟩ := HA'.out (by omega)
        have HC := Lib.hid hc
        have HC' := Lib.hid hc'
        clear hc hc'
        obtain ⟨x, HX, hcell, hx⟩ := Rd.cellx HC k hlt
        obtain ⟨y, HY, hcell', hy⟩ := Rd.cellx HC' k hlt'
        by_cases hxy : x = y
        · have hb : ((x.toNat : Int) != (y.toNat : Int)) = false := by rw [hxy]; simp
          have HN : Hid (l.take (k + 1) = l'.take (k + 1)) := by
            show _ = _
            rw [take_snoc l k (by rw [← HL.out]; exact hlt), take_snoc l' k (by rw [← HL'.out]; exact hlt'), HT.out, HX.out, HY.out, hxy]
          clear hxy
          go_wp2
          go_quiet (fail)
          go_wp2
          go_roundw
          case rel => exact ⟨k + 1, _, by omega, by omega, by go_num, HN.out, rfl⟩
          case measure => first | (simp [intOf]; done) | (simp [intOf]; omega)
        · have hb : ((x.toNat : Int) != (y.toNat : Int)) = true := by
            rw [bne_iff_ne]; intro e; apply hxy; rw [← UInt8.toNat_inj]; omega
          have HF := Lib.hid (less_at l l' k x y HT.out (by rw [← HL.out]; exact hlt) (by rw [← HL'.out]; exact hlt') HX.out HY.out hxy)
          clear hxy
          go_wp2
          go_quiet (fail)
          go_wp2
          go_quiet (fail)
          go_wp2
          go_ret
          exact ⟨by rw [HF.out]; rfl, ((Drawn.of _).trans (Drawn.of _)).trans (Drawn.of _)⟩
      · have hd' : decide ((k : Int) < (n' : Int)) = false := decide_eq_false (by omega)
        have HF := Lib.hid (less_end l l' k HT.out (by rw [← HL.out]; exact hk) (by rw [← HL'.out]; exact hk') (.inr (by rw [← HL'.out]; omega)))
        rw [← HL.out, ← HL'.out] at HF
        go_wp2
        go_ret
        exact ⟨by rw [HF.out]; rfl, ⟨_, rfl⟩⟩
    · have hd : decide ((k : Int) < (n : Int)) = false := decide_eq_false (by omega)
      have HF := Lib.hid (less_end l l' k HT.out (by rw [← HL.out]; exact hk) (by rw [← HL'.out]; exact hk') (.inl (by rw [← HL.out]; omega)))
      rw [← HL.out, ← HL'.out] at HF
      go_wp2
      go_ret
      exact ⟨by rw [HF.out]; rfl, ⟨_, rfl⟩⟩
end Go.Proofs.Ytihbpmceggghgaa
