/- Contracts: chain's Read. -/
import Derived.Test.YtbfcpapibenndaaChB
set_option linter.unusedVariables false
namespace Go.Proofs.Ytbfcpapibenndaa
open Go.RowKit

def rPage (L : List UInt8) : Nat := num (L.take 4)
def rCommit (L : List UInt8) : Nat := num ((L.drop 4).take 8)
def rGen (L : List UInt8) : Nat := num ((L.drop 12).take 2)
def rSize (L : List UInt8) : Nat := num ((L.drop 14).take 2)
def rPiece (L : List UInt8) : List UInt8 := (L.drop 16).take (rSize L)
theorem zeros_iff (l : List UInt8) : zeros l = true ↔ l = List.replicate l.length 0 := by
  rw [List.eq_replicate_iff]
  simp [zeros]
theorem split224 (L : List UInt8) (hl : L.length = 224) (h2 : rSize L ≤ 208) :
    L = (L.take 4 ++ (L.drop 4).take 8 ++ (L.drop 12).take 2) ++ ((L.drop 14).take 2 ++ (rPiece L ++ L.drop (16 + rSize L))) := by
  have e1 : L = L.take 4 ++ L.drop 4 := (List.take_append_drop 4 L).symm
  have e2 : L.drop 4 = (L.drop 4).take 8 ++ L.drop 12 := by
    rw [show L.drop 12 = (L.drop 4).drop 8 by rw [List.drop_drop], List.take_append_drop]
  have e3 : L.drop 12 = (L.drop 12).take 2 ++ L.drop 14 := by
    rw [show L.drop 14 = (L.drop 12).drop 2 by rw [List.drop_drop], List.take_append_drop]
  have e4 : L.drop 14 = (L.drop 14).take 2 ++ L.drop 16 := by
    rw [show L.drop 16 = (L.drop 14).drop 2 by rw [List.drop_drop], List.take_append_drop]
  have e5 : L.drop 16 = rPiece L ++ L.drop (16 + rSize L) := by
    rw [← List.drop_drop]; exact (List.take_append_drop _ _).symm
  conv => lhs; rw [e1, e2, e3, e4, e5]
  simp
theorem rPiece_length (L : List UInt8) (hl : L.length = 224) (h2 : rSize L ≤ 208) : (rPiece L).length = rSize L := by
  unfold rPiece; rw [List.length_take, List.length_drop, hl]; omega
theorem refB_read (L : List UInt8) (hl : L.length = 224) : refB (rPage L) (rCommit L) (rGen L) = L.take 4 ++ (L.drop 4).take 8 ++ (L.drop 12).take 2 := by
  have a : be (num (L.take 4)) 4 = L.take 4 := by have := be_num (L.take 4); rwa [show (L.take 4).length = 4 by simp [hl]] at this
  have b : be (num ((L.drop 4).take 8)) 8 = (L.drop 4).take 8 := by have := be_num ((L.drop 4).take 8); rwa [show ((L.drop 4).take 8).length = 8 by simp [hl]] at this
  have c : be (num ((L.drop 12).take 2)) 2 = (L.drop 12).take 2 := by have := be_num ((L.drop 12).take 2); rwa [show ((L.drop 12).take 2).length = 2 by simp [hl]] at this
  unfold refB rPage rCommit rGen
  rw [a, b, c]
/-- A payload is its piece's page, made again, just if the rest is noughts. -/
theorem page_read (L : List UInt8) (hl : L.length = 224) (h2 : rSize L ≤ 208) :
    pageB (rPiece L) (rPage L) (rCommit L) (rGen L) = L ↔ zeros (L.drop (16 + rSize L)) = true := by
  have d : be (rSize L) 2 = (L.drop 14).take 2 := by
    have := be_num ((L.drop 14).take 2); rwa [show ((L.drop 14).take 2).length = 2 by simp [hl]] at this
  have hlen : (L.drop (16 + rSize L)).length = 208 - rSize L := by rw [List.length_drop, hl]; omega
  rw [zeros_iff, hlen]
  unfold pageB
  rw [rPiece_length L hl h2, refB_read L hl, d]
  conv => lhs; rhs; rw [split224 L hl h2]
  constructor
  · intro e
    have e1 := List.append_cancel_left e
    have e2 := List.append_cancel_left e1
    exact (List.append_cancel_left e2).symm
  · intro e
    rw [e]
theorem rSize_lt (L : List UInt8) : rSize L < 65536 := by
  have := num_lt ((L.drop 14).take 2)
  have hp : 256 ^ ((L.drop 14).take 2).length ≤ 256 ^ 2 := Nat.pow_le_pow_right (by omega) (by simp; omega)
  unfold rSize; omega
theorem rPage_lt (L : List UInt8) : rPage L < 4294967296 := by
  have := num_lt (L.take 4)
  have hp : 256 ^ (L.take 4).length ≤ 256 ^ 4 := Nat.pow_le_pow_right (by omega) (by simp; omega)
  unfold rPage; omega
theorem rGen_lt (L : List UInt8) : rGen L < 65536 := by
  have := num_lt ((L.drop 12).take 2)
  have hp : 256 ^ ((L.drop 12).take 2).length ≤ 256 ^ 2 := Nat.pow_le_pow_right (by omega) (by simp; omega)
  unfold rGen; omega
theorem rCommit_lt (L : List UInt8) : rCommit L < 18446744073709551616 := num_lt8 _ (by simp; omega)
/-- What is made is read. -/
theorem read_page (l : List UInt8) (p q g : Nat) (h1 : 1 ≤ l.length) (h2 : l.length ≤ 208) (hp : p < 4294967296) (hq : q < 18446744073709551616) (hg : g < 65536) :
    rPage (pageB l p q g) = p ∧ rCommit (pageB l p q g) = q ∧ rGen (pageB l p q g) = g ∧ rSize (pageB l p q g) = l.length ∧ rPiece (pageB l p q g) = l ∧ zeros ((pageB l p q g).drop (16 + l.length)) = true := by
  have hL : pageB l p q g = be p 4 ++ (be q 8 ++ (be g 2 ++ (be l.length 2 ++ (l ++ List.replicate (208 - l.length) 0)))) := by simp [pageB, refB]
  have b4 := be_length p 4
  have b8 := be_length q 8
  have b2 := be_length g 2
  have bs := be_length l.length 2
  have d4 : (pageB l p q g).drop 4 = be q 8 ++ (be g 2 ++ (be l.length 2 ++ (l ++ List.replicate (208 - l.length) 0))) := by rw [hL, List.drop_left' b4]
  have d12 : (pageB l p q g).drop 12 = be g 2 ++ (be l.length 2 ++ (l ++ List.replicate (208 - l.length) 0)) := by
    rw [show (pageB l p q g).drop 12 = ((pageB l p q g).drop 4).drop 8 by rw [List.drop_drop], d4, List.drop_left' b8]
  have d14 : (pageB l p q g).drop 14 = be l.length 2 ++ (l ++ List.replicate (208 - l.length) 0) := by
    rw [show (pageB l p q g).drop 14 = ((pageB l p q g).drop 12).drop 2 by rw [List.drop_drop], d12, List.drop_left' b2]
  have d16 : (pageB l p q g).drop 16 = l ++ List.replicate (208 - l.length) 0 := by
    rw [show (pageB l p q g).drop 16 = ((pageB l p q g).drop 14).drop 2 by rw [List.drop_drop], d14, List.drop_left' bs]
  have hs : rSize (pageB l p q g) = l.length := by
    unfold rSize; rw [d14, List.take_left' bs, num_be_lt _ _ (by omega)]
  refine ⟨?_, ?_, ?_, hs, ?_, ?_⟩
  · unfold rPage; rw [hL, List.take_left' b4, num_be_lt _ _ (by omega)]
  · unfold rCommit; rw [d4, List.take_left' b8, num_be_lt _ _ (by omega)]
  · unfold rGen; rw [d12, List.take_left' b2, num_be_lt _ _ (by omega)]
  · unfold rPiece; rw [hs, d16, List.take_left' rfl]
  · rw [show (pageB l p q g).drop (16 + l.length) = ((pageB l p q g).drop 16).drop l.length by rw [List.drop_drop], d16, List.drop_left' rfl]
    simp [zeros]

abbrev Ref0 : Value := .agg #[.int .u32 0, .int .u64 0, .int .u16 0]
theorem read_len (A : Option Addr) (n c : Nat) (w : World) (h : n ≠ 224) (hm : n ≤ 9223372036854775807) :
    Calls Try.prog 21 #[.slice A n c] w fun e w' => e = .returned (.tuple #[.slice none 0 0, Ref0, .int .i64 2]) ∧ Below w.heap.size w w' := by
  have hd : ((n : Int) != 224) = true := by rw [bne_iff_ne]; omega
  have hb := below_new1 w (.cells #[.int .u32 0, .int .u64 0, .int .u16 0] 32)
  go_enter Try.func21, Try.ntmps21
  go_wp2
  have hbk : Blk (w.alloc (.cells #[.int .u32 0, .int .u64 0, .int .u16 0] 32)) w.heap.size 32 #[.int .u32 0, .int .u64 0, .int .u16 0] := Blk.new _ _ _
  have e0 := hbk.cell 0
  have e1 := hbk.cell 1
  have e2 := hbk.cell 2
  refine bodyPost_ret (v := .tuple #[.slice none 0 0, Ref0, .int .i64 2]) ?_ rfl ⟨rfl, hb⟩
  simp [results, Try.results21, go_sem, e0, e1, e2]
theorem get_at {b o c : Nat} {L : List UInt8} {W : World} (h : Rd W (some ⟨b, o, none⟩) 224 c L) (i m x : Nat) (hx : num ((L.drop i).take m) = x) (h1 : 1 ≤ m) (h8 : m ≤ 8) (hi : i + m ≤ 224) (A : Option Addr) (hA : A = some ⟨b, o + i, none⟩) (c' : Nat) (hc : c' = c - i) :
    Calls Try.prog 26 #[.slice A m c'] W fun e w' => e = .returned (.tuple #[.int .u64 x, .int .i64 0]) ∧ W = w' := by
  subst hx
  have hcap := h.cap
  have hmax := h.max
  exact get_any A m c' _ W (h.part i m c' A (fun _ => hA) hi (by omega) (by omega)) h1 h8
theorem nought_at {b o c : Nat} {L : List UInt8} {W : World} (h : Rd W (some ⟨b, o, none⟩) 224 c L) (i : Nat) (z : Bool) (hz : Hid (zeros (L.drop i) = z)) (hi : i ≤ 224) (A : Option Addr) (n' c' : Nat) (hn : n' = 224 - i) (hc : n' ≤ c') (hm : c' ≤ maxLen) (hA : 0 < n' → A = some ⟨b, o + i, none⟩) :
    Calls Try.prog 27 #[.slice A n' c'] W fun e w' => e = .returned (.bool z) ∧ W = w' := by
  have hl := h.len
  have hp := h.part i n' c' A hA (by omega) hc hm
  have e : (L.drop i).take n' = L.drop i := List.take_of_length_le (by rw [List.length_drop]; omega)
  rw [e] at hp
  have := nought_any A n' c' _ W hp
  rwa [hz.out] at this
set_option maxHeartbeats 1600000 in
theorem read_bad (A : Option Addr) (c : Nat) (L : List UInt8) (w : World) (h : Rd w A 224 c L) (hbad : rSize L < 1 ∨ 208 < rSize L ∨ zeros (L.drop (16 + rSize L)) = false) :
    Calls Try.prog 21 #[.slice A 224 c] w fun e w' => e = .returned (.tuple #[.slice none 0 0, Ref0, .int .i64 5]) ∧ Below w.heap.size w w' := by
  have hcap := h.cap
  have hmax := h.max
  unfold maxLen at hmax
  obtain ⟨b, o, rfl, _⟩ := h.at_ (by omega)
  have hb := below_new1 w (.cells #[.int .u32 0, .int .u64 0, .int .u16 0] 32)
  obtain ⟨W, hW⟩ : ∃ W, W = w.alloc (.cells #[.int .u32 0, .int .u64 0, .int .u16 0] 32) := ⟨_, rfl⟩
  have HR : Hid (Rd W (some ⟨b, o, none⟩) 224 c L) := by rw [hW]; exact h.below hb
  have HW := Lib.hid hW
  obtain ⟨p, hp⟩ : ∃ p, num ((L.drop 0).take 4) = p := ⟨_, rfl⟩
  obtain ⟨q, hq⟩ : ∃ p, num ((L.drop 4).take 8) = p := ⟨_, rfl⟩
  obtain ⟨g, hg⟩ : ∃ p, num ((L.drop 12).take 2) = p := ⟨_, rfl⟩
  obtain ⟨s, hs⟩ : ∃ p, num ((L.drop 14).take 2) = p := ⟨_, rfl⟩
  have G1 := Lib.hid (get_at HR.out 0 4 p hp (by omega) (by omega) (by omega) (some ⟨b, o, none⟩) rfl c rfl)
  have G2 := Lib.hid (get_at HR.out 4 8 q hq (by omega) (by omega) (by omega) (some ⟨b, o + 4, none⟩) rfl (c - 4) rfl)
  have G3 := Lib.hid (get_at HR.out 12 2 g hg (by omega) (by omega) (by omega) (some ⟨b, o + 12, none⟩) rfl (c - 12) rfl)
  have G4 := Lib.hid (get_at HR.out 14 2 s hs (by omega) (by omega) (by omega) (some ⟨b, o + 14, none⟩) rfl (c - 14) rfl)
  have hsr : rSize L = s := hs
  rw [hsr] at hbad
  have hs16 : s < 65536 := by rw [← hsr]; exact rSize_lt L
  clear h hp hq hg hs hsr
  have fin : Blk W w.heap.size 32 #[.int .u32 0, .int .u64 0, .int .u16 0] := by rw [HW.out]; exact Blk.new _ _ _
  have hbW : Below w.heap.size w W := by rw [HW.out]; exact hb
  have HBW := Lib.hid hbW
  clear fin hbW hb HW
  subst hW
  by_cases hs1 : s < 1
  · have hd1 : decide ((s : Int) < 1) = true := decide_eq_true (by omega)
    clear hbad
    go_enter Try.func21, Try.ntmps21
    go_wp2_with fail
    refine G1.out.mono ?_
    rintro e w' ⟨rfl, rfl⟩
    go_wp2_with fail
    refine G2.out.mono ?_
    rintro e w' ⟨rfl, rfl⟩
    go_wp2_with fail
    refine G3.out.mono ?_
    rintro e w' ⟨rfl, rfl⟩
    go_wp2_with fail
    refine G4.out.mono ?_
    rintro e w' ⟨rfl, rfl⟩
    go_wp2
    have hbk := Blk.new w 32 #[.int .u32 0, .int .u64 0, .int .u16 0]
    have e0 := hbk.cell 0
    have e1 := hbk.cell 1
    have e2 := hbk.cell 2
    refine bodyPost_ret (v := .tuple #[.slice none 0 0, Ref0, .int .i64 5]) ?_ rfl ⟨rfl, HBW.out⟩
    simp [results, Try.results21, go_sem, e0, e1, e2]
  · have hd1 : decide ((s : Int) < 1) = false := decide_eq_false (by omega)
    by_cases hs2 : 208 < s
    · have hd2 : decide ((s : Int) > 208) = true := decide_eq_true (by omega)
      clear hbad
      go_enter Try.func21, Try.ntmps21
      go_wp2_with fail
      refine G1.out.mono ?_
      rintro e w' ⟨rfl, rfl⟩
      go_wp2_with fail
      refine G2.out.mono ?_
      rintro e w' ⟨rfl, rfl⟩
      go_wp2_with fail
      refine G3.out.mono ?_
      rintro e w' ⟨rfl, rfl⟩
      go_wp2_with fail
      refine G4.out.mono ?_
      rintro e w' ⟨rfl, rfl⟩
      go_wp2
      have hbk := Blk.new w 32 #[.int .u32 0, .int .u64 0, .int .u16 0]
      have e0 := hbk.cell 0
      have e1 := hbk.cell 1
      have e2 := hbk.cell 2
      refine bodyPost_ret (v := .tuple #[.slice none 0 0, Ref0, .int .i64 5]) ?_ rfl ⟨rfl, HBW.out⟩
      simp [results, Try.results21, go_sem, e0, e1, e2]
    · have hd2 : decide ((s : Int) > 208) = false := decide_eq_false (by omega)
      have hz : Hid (zeros (L.drop (16 + s)) = false) := by
        rcases hbad with h | h | h
        · omega
        · omega
        · exact h
      clear hbad
      have hw16 : IntKind.u64.wrap (16 + (s : Int)) = 16 + (s : Int) := IntWalk.u64_in _ (by omega)
      go_enter Try.func21, Try.ntmps21
      go_wp2_with fail
      refine G1.out.mono ?_
      rintro e w' ⟨rfl, rfl⟩
      go_wp2_with fail
      refine G2.out.mono ?_
      rintro e w' ⟨rfl, rfl⟩
      go_wp2_with fail
      refine G3.out.mono ?_
      rintro e w' ⟨rfl, rfl⟩
      go_wp2_with fail
      refine G4.out.mono ?_
      rintro e w' ⟨rfl, rfl⟩
      go_wp2_with fail
      all_goals
        refine (nought_at HR.out (16 + s) false hz (by omega) _ _ _ rfl (by omega) (by unfold maxLen; omega) (by intro _; first | rfl | omega)).mono ?_
        rintro e w' ⟨rfl, rfl⟩
        go_wp2
        have hbk := Blk.new w 32 #[.int .u32 0, .int .u64 0, .int .u16 0]
        have e0 := hbk.cell 0
        have e1 := hbk.cell 1
        have e2 := hbk.cell 2
        refine bodyPost_ret (v := .tuple #[.slice none 0 0, Ref0, .int .i64 5]) ?_ rfl ⟨rfl, HBW.out⟩
        simp [results, Try.results21, go_sem, e0, e1, e2]
end Go.Proofs.Ytbfcpapibenndaa
