/- Contracts: chain's Cut. -/
import Derived.Test.YtbfcpapibenndaaOwnV
set_option linter.unusedVariables false
namespace Go.Proofs.Ytbfcpapibenndaa
open Go.RowKit

/-- The pieces of n bytes in block b, the first k of them, as values. -/
def pcAt (b n i : Nat) : Value := .slice (some ⟨b, 208 * i, none⟩) (min 208 (n - 208 * i)) (min 208 (n - 208 * i))
def pcV (b n k : Nat) : List Value := (List.range k).map (pcAt b n)
theorem pcV_succ (b n k : Nat) : pcV b n (k + 1) = pcV b n k ++ [pcAt b n k] := by simp [pcV, List.range_succ]
theorem pcV_get (b n k i : Nat) (h : i < k) : (pcV b n k)[i]? = some (pcAt b n i) := by simp [pcV, h]
theorem Own.ne_V {w : World} {H H' g n c m c' : Nat} {l : List UInt8} {A : Option Addr} {vs : List Value} (h : Own w H (some ⟨g, 0, none⟩) n c l) (h' : OwnV w H' A m c' vs) : ∀ a, A = some a → a.block ≠ g := by
  intro a ha e
  subst ha
  rcases h.2 with ⟨hv, _⟩ | ⟨g1, cap, cur, hv, _, hg, _⟩
  · cases hv
  · injection hv with h1 _ _
    injection h1 with h1
    injection h1 with h1
    subst h1
    rcases h'.2 with ⟨hv', _⟩ | ⟨g2, cap', cur', hv', _, hg', _⟩
    · cases hv'
    · injection hv' with h2 _ _
      injection h2 with h2
      subst h2
      dsimp only at e
      subst e
      rw [hg] at hg'
      injection hg' with hg'
      injection hg' with _ ht
      exact absurd ht (by decide)
theorem cut_long (A : Option Addr) (n c : Nat) (w : World) (h : 1024 < n) (hm : n ≤ 9223372036854775807) :
    Calls Try.prog 17 #[.slice A n c] w fun e w' => e = .returned (.tuple #[.slice none 0 0, .int .i64 3]) ∧ w = w' := by
  have h1 := pieces_any n w (by omega) (by omega)
  have e1 : pcsN (n : Int) = 0 := by rw [pcsN, if_neg (by omega), if_pos (by omega)]
  have e2 : pcsE (n : Int) = 3 := by rw [pcsE, if_neg (by omega), if_pos (by omega)]
  rw [e1, e2] at h1
  have M := Lib.hid h1
  clear h1 e1 e2 h
  go_enter Try.func17, Try.ntmps17
  go_wp2_with fail
  refine M.out.mono ?_
  rintro e w1 ⟨rfl, rfl⟩
  go_wp2_with fail
  go_ret2
  exact ⟨rfl, rfl⟩
set_option maxHeartbeats 1600000 in
theorem cut_any (A : Option Addr) (n c : Nat) (l : List UInt8) (w : World) (h : Rd w A n c l) (hn : n ≤ 1024) :
    Calls Try.prog 17 #[.slice A n c] w fun e w' => ∃ A1 c1 A2 c2, e = .returned (.tuple #[.slice A2 ((n + 207) / 208) c2, .int .i64 0]) ∧
      Own w' w.heap.size A1 n c1 l ∧ OwnV w' w.heap.size A2 ((n + 207) / 208) c2 (pcV ((A1.map (·.block)).getD 0) n ((n + 207) / 208)) ∧ Below w.heap.size w w' := by
  have h1 := pieces_any n w (by omega) (by omega)
  obtain ⟨k, hk⟩ : ∃ k, k = (n + 207) / 208 := ⟨_, rfl⟩
  have e1 : pcsN (n : Int) = (k : Int) := by rw [pcsN, if_neg (by omega), if_neg (by omega)]; omega
  have e2 : pcsE (n : Int) = 0 := by rw [pcsE, if_neg (by omega), if_neg (by omega)]
  rw [e1, e2] at h1
  have M := Lib.hid h1
  have hk5 : k ≤ 5 := by omega
  rw [← hk]
  have HK := Lib.hid hk
  have HR := Lib.hid h
  have hcap := h.cap
  obtain ⟨i0, hi, hz0, hz1, hz2⟩ := info_parts infoSl
  clear h1 e1 e2 h hk
  have HE0 : Hid (Own (w.alloc (.cells #[] 5)) w.heap.size (some ⟨w.heap.size, 0, none⟩) 0 0 []) := Own.fresh w w.heap.size [] 0 rfl (by omega) (Nat.le_refl _)
  have HB0 : Hid (Below w.heap.size w (w.alloc (.cells #[] 5))) := below_new1 _ _
  have HR0 : Hid (Rd (w.alloc (.cells #[] 5)) A n c l) := HR.out.below HB0.out
  go_enter Try.func17, Try.ntmps17
  go_wp2_with fail
  refine M.out.mono ?_
  rintro e w1 ⟨rfl, rfl⟩
  go_wp2_with (first
    | (at_builtin; refine wpList_app 27 Try.underlying27 rfl (.tmp 19) (.tmp 20) rfl rfl rfl HE0.out HR0.out (by simp) (by omega) ?_; intro A1 c1 w1 hown1 hg1 hb1; have HO1 := Lib.hid hown1; have HB1 : Hid (Below w.heap.size w w1) := HB0.out.trans hb1; clear hown1 hg1 hb1)
    | (at_make; refine wpList_make_own _ rfl (.const _) (.tmp 22) 38 rfl w.heap.size 27 i0 (.slice none 0 0) 1 Try.underlying38 hi hz0 hz1 .i64 .i64 _ k rfl rfl rfl (by rw [hz2]; omega) (by unfold maxLen; omega) HB1.out.size ?_; intro w2 hown2 hg2; have HV2 : Hid (OwnV w2 w.heap.size (some ⟨w1.heap.size, 0, none⟩) 0 k []) := hown2; have HO2 : Hid (Own w2 w.heap.size A1 (0 + n) c1 ([] ++ l)) := HO1.out.kept hg2 (by intro a _ e; cases e); have HB2 : Hid (Below w.heap.size w w2) := HB1.out.grown hg2 HB1.out.size (by intro k hk; cases hk); clear hown2 hg2))
  rw [Nat.zero_add, List.nil_append] at HO2
  clear HE0 HB0 HR0 HO1
  go_loopw [7, 8] (fun s7 s8 wr => ∃ (j f c2 : Nat) (A2 : Option Addr), f = 208 * j ∧ j ≤ k ∧ s8 = .int .i64 f ∧ s7 = .slice A2 j c2 ∧ OwnV wr w.heap.size A2 j c2 (pcV ((A1.map (·.block)).getD 0) n j) ∧ Own wr w.heap.size A1 n c1 l ∧ Below w.heap.size w wr)
    (fun _ i _ => 1248 - (intOf i).toNat)
  case atStart => exact ⟨0, 0, k, _, rfl, Nat.zero_le _, rfl, rfl, HV2.out, HO2.out, HB2.out⟩
  case round =>
    obtain ⟨j, f, c2, A2, hf, hj, rfl, rfl, hownV, hown, hbel⟩ := hrel
    have HV := Lib.hid hownV
    have HO := Lib.hid hown
    have hbs := hbel.size
    have hmax := hown.rd.max
    have hcap1 := hown.rd.cap
    unfold maxLen at hmax
    clear hownV hown HV2 HO2 HB2
    by_cases hlt : f < n
    · obtain ⟨g, rfl, hg⟩ := HO.out.split (by omega)
      have hj2 : j < k := by have := HK.out; omega
      have HF := Lib.hid hf
      clear hf hj
      have HVV : Hid (pcV ((Option.map (fun x => x.block) (some (⟨g, 0, none⟩ : Addr))).getD 0) n (j + 1) = pcV ((Option.map (fun x => x.block) (some (⟨g, 0, none⟩ : Addr))).getD 0) n j ++ [pcAt g n j]) := pcV_succ g n j
      by_cases hsh : n < f + 208
      · obtain ⟨t, ht⟩ : ∃ t, n = f + t := ⟨n - f, by omega⟩
        have ht2 : t < 208 := by omega
        have ht1 : 1 ≤ t := by omega
        have hpc : Hid (pcAt g n j = .slice (some ⟨g, f, none⟩) t t) := by
          show _ = _
          rw [pcAt, ← HF.out, show min 208 (n - f) = t by omega]
        have hd1 : (n : Int) < (f : Int) + 208 := by omega
        have hd2 : (n : Int) - (f : Int) = (t : Int) := by omega
        have hd3 : n - f = t := by omega
        clear hsh ht
        go_wp2_with (at_builtin; refine wpList_appV 38 Try.underlying38 rfl (.tmp 35) (.tmp 41) rfl (v := .slice (some ⟨g, f, none⟩) t t) rfl rfl (HV.out.alloc _) ((Blk.new wr 27 _).cell 0) rfl (by simp; omega) (by omega) ?_; intro A3 c3 w3 hown3 hg3 hb3)
        go_roundw
        case rel =>
          refine ⟨j + 1, f + 208, c3, A3, by have := HF.out; omega, by omega, by go_num, rfl, ?_, ?_, ?_⟩
          · rw [HVV.out, hpc.out]; exact hown3
          · refine (HO.out.alloc _).kept hg3 fun a ha e => ?_
            cases A2 with
            | none => cases e
            | some a2 =>
              injection ha with ha
              simp only [Option.map_some, Option.some.injEq] at e
              exact (HO.out.ne_V HV.out) a2 rfl (by rw [← e, ← ha])
          · exact (hbel.alloc hbs _).trans (hb3.mono (by first | (simp; done) | (simp; omega)))
        case measure => first | (simp [intOf]; done) | (simp [intOf]; omega)
      · have hpc : Hid (pcAt g n j = .slice (some ⟨g, f, none⟩) 208 208) := by
          show _ = _
          rw [pcAt, ← HF.out, show min 208 (n - f) = 208 by omega]
        have hd1 : ¬ (n : Int) < (f : Int) + 208 := by omega
        clear hsh
        go_wp2_with (at_builtin; refine wpList_appV 38 Try.underlying38 rfl (.tmp 35) (.tmp 41) rfl (v := .slice (some ⟨g, f, none⟩) 208 208) rfl rfl (HV.out.alloc _) ((Blk.new wr 27 _).cell 0) rfl (by simp; omega) (by omega) ?_; intro A3 c3 w3 hown3 hg3 hb3)
        go_roundw
        case rel =>
          refine ⟨j + 1, f + 208, c3, A3, by have := HF.out; omega, by omega, by go_num, rfl, ?_, ?_, ?_⟩
          · rw [HVV.out, hpc.out]; exact hown3
          · refine (HO.out.alloc _).kept hg3 fun a ha e => ?_
            cases A2 with
            | none => cases e
            | some a2 =>
              injection ha with ha
              simp only [Option.map_some, Option.some.injEq] at e
              exact (HO.out.ne_V HV.out) a2 rfl (by rw [← e, ← ha])
          · exact (hbel.alloc hbs _).trans (hb3.mono (by first | (simp; done) | (simp; omega)))
        case measure => first | (simp [intOf]; done) | (simp [intOf]; omega)
    · obtain rfl : j = k := by have := HK.out; omega
      clear hf hj
      go_wp2
      go_ret2
      exact ⟨A1, c1, A2, c2, rfl, HO.out, HV.out, hbel⟩
end Go.Proofs.Ytbfcpapibenndaa
