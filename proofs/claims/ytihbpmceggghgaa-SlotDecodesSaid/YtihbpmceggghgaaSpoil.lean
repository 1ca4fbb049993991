/- Contracts: donjonref12.Spoil. -/
import Derived.Test.YtihbpmceggghgaaCopyN
import Derived.Deep.MidRow
set_option linter.unusedVariables false
set_option linter.unusedSimpArgs false
namespace Go.Proofs.Ytihbpmceggghgaa
open Go.RowKit

theorem grown_setCell (w : World) (g j : Nat) (v : Value) : w.grownBy (w.setCell ⟨g, j, none⟩ v) (some g) := ⟨rfl, rfl, rfl, by simp [World.setCell], fun k _ hk => Below.heap_setCell w _ _ k (fun e => hk (by rw [e]))⟩
/-- A byte is written somewhere: a row of bytes stays one. -/
theorem Own.poke {w : World} {H n c : Nat} {A : Option Addr} {l : List UInt8} (h : Own w H A n c l) (g j : Nat) (x : UInt8) : ∃ l', Own (w.setCell ⟨g, j, none⟩ (B8 x)) H A n c l' := by
  rcases h.2 with ⟨hv, _⟩ | ⟨g2, cap, cur, hv, _⟩
  · injection hv with h1 _ _
    subst h1
    exact ⟨l, h.kept (grown_setCell w g j _) (fun a ha => by cases ha)⟩
  · injection hv with h1 _ _
    subst h1
    by_cases e : g2 = g
    · subst e
      exact ⟨_, own_set h j x⟩
    · refine ⟨l, h.kept (grown_setCell w g j _) (fun a ha => ?_)⟩
      injection ha with ha
      subst ha
      simpa using e
theorem EC.poke {w : World} {H : Nat} {cs : List Value} {x : Ent} (h : EC w H cs x) (g j : Nat) (y : UInt8) : ∃ x', EC (w.setCell ⟨g, j, none⟩ (B8 y)) H cs x' := by
  obtain ⟨B1, n1, d1, B2, n2, d2, e, h1, h2⟩ := h
  obtain ⟨l1, k1⟩ := h1.poke g j y
  obtain ⟨l2, k2⟩ := h2.poke g j y
  exact ⟨⟨l1, l2, x.len, x.chain, x.child⟩, B1, n1, d1, B2, n2, d2, e, k1, k2⟩
theorem EC.of {w : World} {H : Nat} {cs : List Value} {x : Ent} (h : EC w H cs x) {B1 : Option Addr} {n1 d1 : Nat} {B2 : Option Addr} {n2 d2 : Nat} {L : Int} {r s : Rf} (e : cs = enC B1 n1 d1 B2 n2 d2 L r s) : ∃ k v, Own w H B1 n1 d1 k ∧ Own w H B2 n2 d2 v := by
  obtain ⟨C1, m1, f1, C2, m2, f2, e2, h1, h2⟩ := h
  rw [e] at e2
  simp only [enC, List.cons.injEq, Value.slice.injEq] at e2
  obtain ⟨⟨rfl, rfl, rfl⟩, ⟨rfl, rfl, rfl⟩, _⟩ := e2
  exact ⟨_, _, h1, h2⟩
/-- A row of entries, all of the call's own, whatever their texts hold. -/
structure SP (w : World) (H : Nat) (A : Option Addr) (n c : Nat) (css : List (List Value)) : Prop where
  own : OwnE w H A n c css
  each : ∀ j, j < n → ∃ x, EC w H (css.getD j []) x
namespace SP
variable {w w' : World} {H n c : Nat} {A : Option Addr} {css : List (List Value)}
theorem below (h : SP w H A n c css) (hb : Below w.heap.size w w') : SP w' H A n c css := ⟨h.own.below hb, fun j hj => let ⟨x, hx⟩ := h.each j hj; ⟨x, hx.below hb⟩⟩
theorem poke (h : SP w H A n c css) {H' g m d : Nat} {l : List UInt8} (hg : Own w H' (some ⟨g, 0, none⟩) m d l) (j : Nat) (y : UInt8) : SP (w.setCell ⟨g, j, none⟩ (B8 y)) H A n c css :=
  ⟨h.own.keptB hg (grown_setCell w g j _), fun i hi => let ⟨x, hx⟩ := h.each i hi; hx.poke g j y⟩
end SP
/-- Many cells of a row are set. -/
def setMany (xs : List Value) : Nat → List Value → List Value
  | _, [] => xs
  | o, v :: vs => setMany (xs.set o v) (o + 1) vs
theorem setMany_get : ∀ (vs : List Value) (o : Nat) (xs : List Value) (t : Nat), (setMany xs o vs)[t]? = if o ≤ t ∧ t < o + vs.length ∧ t < xs.length then vs[t - o]? else xs[t]?
  | [], o, xs, t => by
    rw [setMany, if_neg (by simp only [List.length_nil]; omega)]
  | v :: vs, o, xs, t => by
    rw [setMany, setMany_get vs (o + 1) (xs.set o v) t]
    simp only [List.length_set, List.length_cons]
    by_cases h1 : o = t
    · subst h1
      rw [if_neg (by omega), List.getElem?_set_self']
      by_cases h2 : o < xs.length
      · rw [if_pos ⟨by omega, by omega, h2⟩]
        simp [h2]
      · rw [if_neg (by omega)]
        simp [h2]
    · rw [List.getElem?_set_ne h1]
      by_cases h2 : o + 1 ≤ t ∧ t < o + 1 + vs.length ∧ t < xs.length
      · rw [if_pos h2, if_pos ⟨by omega, by omega, h2.2.2⟩, show t - o = (t - (o + 1)) + 1 by omega, List.getElem?_cons_succ]
      · rw [if_neg h2, if_neg (by omega)]
theorem setMany_flat (css : List (List Value)) (cs : List Value) (i : Nat) (hl : ∀ c ∈ css, c.length = 9) (hc : cs.length = 9) (hi : i < css.length) : setMany css.flatten (i * 9) cs = (css.set i cs).flatten := by
  have hl' : ∀ c ∈ css.set i cs, c.length = 9 := fun c h => by
    rcases List.mem_or_eq_of_mem_set h with h | h
    · exact hl c h
    · rw [h]; exact hc
  apply List.ext_getElem?
  intro t
  rw [setMany_get, flat9_length css hl, hc]
  by_cases ht : t < css.length * 9
  · obtain ⟨j, r, hr, rfl⟩ : ∃ j r, r < 9 ∧ t = j * 9 + r := ⟨t / 9, t % 9, by omega, by omega⟩
    have hj : j < css.length := by omega
    rw [flat9 _ j r hl' (by simpa using hj) hr]
    by_cases e : j = i
    · subst e
      rw [if_pos ⟨by omega, by omega, ht⟩]
      simp [List.getD, hj, show j * 9 + r - j * 9 = r by omega]
    · rw [if_neg (by omega), flat9 _ j r hl hj hr]
      simp [List.getD, List.getElem?_set_ne (Ne.symm e)]
  · rw [if_neg (by omega), List.getElem?_eq_none (by rw [flat9_length css hl]; omega), List.getElem?_eq_none (by rw [flat9_length _ hl']; simp; omega)]
theorem own_setCells {H g n cap size : Nat} {e : TypeId} : ∀ (vs : List Value) (o : Nat) (w : World) (xs : List Value), w.ownsRow H e size (.slice (some ⟨g, 0, none⟩) n cap) n xs →
    (w.setCells g o vs).ownsRow H e size (.slice (some ⟨g, 0, none⟩) n cap) n (setMany xs o vs) ∧ w.grownBy (w.setCells g o vs) (some g)
  | [], o, w, xs, h => ⟨h, World.grownBy.refl _ _⟩
  | v :: vs, o, w, xs, h => by
    obtain ⟨h1, h2⟩ := h.stored o v
    obtain ⟨h3, h4⟩ := own_setCells vs (o + 1) _ _ h1
    exact ⟨h3, h4.os.trans h2.os, h4.tape.trans h2.tape, h4.output.trans h2.output, Nat.le_trans h2.size h4.size, fun k hk hne => (h4.block k (Nat.lt_of_lt_of_le hk h2.size) hne).trans (h2.block k hk hne)⟩
theorem OwnE.there {w : World} {H g n c : Nat} {css : List (List Value)} (h : OwnE w H (some ⟨g, 0, none⟩) n c css) (i : Nat) (hi : i < n) : w.there g (i * 9) 9 := fun j hj => by
  have hl : (css.getD i []).length = 9 := by
    have hi' : i < css.length := by rw [h.2.1]; exact hi
    have := h.2.2 css[i] (List.getElem_mem hi')
    simpa [List.getD, hi'] using this
  refine ⟨?_, h.1.frozenAt _⟩
  rw [h.at_ i hi j hj, List.getElem?_eq_getElem (by omega)]
  rfl
theorem OwnE.put {w : World} {H g n c : Nat} {css : List (List Value)} (h : OwnE w H (some ⟨g, 0, none⟩) n c css) (i : Nat) (hi : i < n) (cs : List Value) (hc : cs.length = 9) :
    OwnE (w.setCells g (i * 9) cs) H (some ⟨g, 0, none⟩) n c (css.set i cs) ∧ w.grownBy (w.setCells g (i * 9) cs) (some g) := by
  obtain ⟨h1, h2⟩ := own_setCells cs (i * 9) w _ h.1
  rw [setMany_flat css cs i h.2.2 hc (by rw [h.2.1]; exact hi)] at h1
  refine ⟨⟨h1, by rw [List.length_set]; exact h.2.1, fun c hm => ?_⟩, h2⟩
  rcases List.mem_or_eq_of_mem_set hm with hm | hm
  · exact h.2.2 c hm
  · rw [hm]; exact hc
theorem SP.put {w : World} {H g n c : Nat} {css : List (List Value)} (h : SP w H (some ⟨g, 0, none⟩) n c css) (i : Nat) (hi : i < n) (cs : List Value) (hc : cs.length = 9) (x : Ent) (hx : EC w H cs x) :
    SP (w.setCells g (i * 9) cs) H (some ⟨g, 0, none⟩) n c (css.set i cs) := by
  obtain ⟨h1, h2⟩ := h.own.put i hi cs hc
  refine ⟨h1, fun j hj => ?_⟩
  by_cases e : j = i
  · subst e
    have : (css.set j cs).getD j [] = cs := by simp [List.getD, show j < css.length by rw [h.own.2.1]; exact hj]
    rw [this]
    exact ⟨x, hx.keptOE h.own h2⟩
  · have : (css.set i cs).getD j [] = css.getD j [] := by simp [List.getD, List.getElem?_set_ne (Ne.symm e)]
    rw [this]
    obtain ⟨y, hy⟩ := h.each j hj
    exact ⟨y, hy.keptOE h.own h2⟩
theorem OwnN.sp {w : World} {H n c : Nat} {A : Option Addr} {es : List Ent} (h : OwnN w H A n c es) : ∃ css, SP w H A n c css := by
  obtain ⟨css, h1, h2⟩ := h
  exact ⟨css, h1, fun j hj => ⟨_, h2 j hj⟩⟩
set_option maxRecDepth 100000 in
set_option maxHeartbeats 3200000 in
theorem spoil_any (k l : Nat) (A : Option Addr) (n c : Nat) (es : List Ent) (H : Nat) (w : World) (h : OwnN w H A n c es) (hH : H ≤ w.heap.size) :
    Calls Try.prog 24 #[NdV k l A n c] w fun e w' => e = .returned (.tuple #[]) ∧ Below H w w' := by
  obtain ⟨css, hsp⟩ := h.sp
  have hcap := hsp.own.cap.1
  have hmax := hsp.own.cap.2
  unfold maxLen at hmax
  clear h
  obtain ⟨W, hW⟩ : ∃ W, W = w.alloc (.cells #[.int .u8 (k : Int), .int .u8 (l : Int), .slice A n c] 24) := ⟨_, rfl⟩
  have HWB : Hid (Below w.heap.size w W) := by rw [hW]; exact below_new1 _ _
  have KN : Hid (Blk W w.heap.size 24 (ndA k l A n c)) := by rw [hW]; exact Blk.new _ _ _
  have HSP := Lib.hid (hsp.below HWB.out)
  have HW := Lib.hid hW
  have hWs := KN.out.lt
  clear hsp hW
  go_enter Try.func24, Try.ntmps24
  go_wp2_with fail
  rw [← HW.out]
  go_loopw [2] (fun z wr => ∃ (i : Nat) (css : List (List Value)), i ≤ n ∧ z = .int .i64 (i : Int) ∧ Blk wr w.heap.size 24 (ndA k l A n c) ∧ SP wr H A n c css ∧ Below H W wr) (fun z _ => n - (intOf z).toNat)
  case atStart => exact ⟨0, css, Nat.zero_le _, rfl, KN.out, HSP.out, Below.refl _ _⟩
  case round =>
    obtain ⟨i, cs1, hi, rfl, hkn, hsp, hbel⟩ := hrel
    have KNr := Lib.hid hkn
    have HSr := Lib.hid hsp
    have HBr := Lib.hid hbel
    clear hkn hsp hbel
    have m2 : wr.cell? ⟨w.heap.size, 2, none⟩ = some (.slice A n c) := KNr.out.cell 2
    by_cases hlt : i < n
    · obtain ⟨g, rfl, hgH⟩ := HSr.out.own.split (by omega)
      obtain ⟨x, B1, n1, d1, B2, n2, d2, hcs, ho1, ho2⟩ := HSr.out.each i hlt
      have HCS := Lib.hid hcs
      have m1 := ho1.rd.cap
      have m3 := ho1.rd.max
      have m4 := ho2.rd.cap
      have m5 := ho2.rd.max
      unfold maxLen at m3 m5
      clear hcs ho1 ho2
      have i1 : (0 : Int) ≤ (i : Int) := by omega
      have i2 : (i : Int) < (n : Int) := by omega
      go_wp2_with fail
      clear m2
      go_loopw [3] (fun z wr => ∃ j : Nat, j ≤ n1 ∧ z = .int .i64 (j : Int) ∧ Blk wr w.heap.size 24 (ndA k l (some ⟨g, 0, none⟩) n c) ∧ SP wr H (some ⟨g, 0, none⟩) n c cs1 ∧ Below H W wr) (fun z _ => n1 - (intOf z).toNat)
      case atStart => exact ⟨0, Nat.zero_le _, rfl, KNr.out, HSr.out, HBr.out⟩
      case round =>
        clear KNr HSr HBr
        obtain ⟨j, hj, rfl, hkn, hsp, hbel⟩ := hrel
        have KNr := Lib.hid hkn
        have HSr := Lib.hid hsp
        have HBr := Lib.hid hbel
        clear hkn hsp hbel
        have m2 : wr.cell? ⟨w.heap.size, 2, none⟩ = some (.slice (some ⟨g, 0, none⟩) n c) := KNr.out.cell 2
        have hat := HSr.out.own.eat i hlt HCS.out (i * 9) rfl
        have a0 := hat.c0
        clear hat
        by_cases hlj : j < n1
        · obtain ⟨y, hy⟩ := HSr.out.each i hlt
          obtain ⟨k1, v1, ho1, _⟩ := hy.of HCS.out
          obtain ⟨g1, rfl, hg1⟩ := ho1.split (by omega)
          have hcell : wr.cell? ⟨g1, j, none⟩ = some (B8 (k1.getD j 0)) := own_cell ho1 j hlj
          have hfr : wr.frozen? ⟨g1, j, none⟩ = false := ho1.frozenAt j
          obtain ⟨x, HX⟩ : ∃ x, Hid (x = k1.getD j 0) := ⟨_, rfl⟩
          rw [← HX.out] at hcell
          have hx := x.toNat_lt
          have hfl := flip255 x
          have HO1 := Lib.hid ho1
          clear hy ho1
          go_wp2_with fail
          go_roundw
          case rel => exact ⟨j + 1, by omega, by go_num, HO1.out.keep_blk KNr.out (by decide) (grown_setCell _ _ _ _), HSr.out.poke HO1.out j (x ^^^ 255), HBr.out.setCell hg1 _⟩
          case measure => first | (simp [intOf]; done) | (simp [intOf]; omega)
        · obtain rfl : j = n1 := by omega
          clear hj hlj
          go_wp2_with fail
          clear a0 m2
          go_loopw [4] (fun z wr => ∃ j : Nat, j ≤ n2 ∧ z = .int .i64 (j : Int) ∧ Blk wr w.heap.size 24 (ndA k l (some ⟨g, 0, none⟩) n c) ∧ SP wr H (some ⟨g, 0, none⟩) n c cs1 ∧ Below H W wr) (fun z _ => n2 - (intOf z).toNat)
          case atStart => exact ⟨0, Nat.zero_le _, rfl, KNr.out, HSr.out, HBr.out⟩
          case round =>
            clear KNr HSr HBr
            obtain ⟨q, hq, rfl, hkn, hsp, hbel⟩ := hrel
            have KNr := Lib.hid hkn
            have HSr := Lib.hid hsp
            have HBr := Lib.hid hbel
            clear hkn hsp hbel
            have m2 : wr.cell? ⟨w.heap.size, 2, none⟩ = some (.slice (some ⟨g, 0, none⟩) n c) := KNr.out.cell 2
            have hat := HSr.out.own.eat i hlt HCS.out (i * 9) rfl
            have a1 := hat.c1
            clear hat
            by_cases hlq : q < n2
            · obtain ⟨y, hy⟩ := HSr.out.each i hlt
              obtain ⟨k1, v1, _, ho2⟩ := hy.of HCS.out
              obtain ⟨g2, rfl, hg2⟩ := ho2.split (by omega)
              have hcell : wr.cell? ⟨g2, q, none⟩ = some (B8 (v1.getD q 0)) := own_cell ho2 q hlq
              have hfr : wr.frozen? ⟨g2, q, none⟩ = false := ho2.frozenAt q
              obtain ⟨x, HX⟩ : ∃ x, Hid (x = v1.getD q 0) := ⟨_, rfl⟩
              rw [← HX.out] at hcell
              have hx := x.toNat_lt
              have hfl := flip255 x
              have HO1 := Lib.hid ho2
              clear hy ho2
              go_wp2_with fail
              go_roundw
              case rel => exact ⟨q + 1, by omega, by go_num, HO1.out.keep_blk KNr.out (by decide) (grown_setCell _ _ _ _), HSr.out.poke HO1.out q (x ^^^ 255), HBr.out.setCell hg2 _⟩
              case measure => first | (simp [intOf]; done) | (simp [intOf]; omega)
            · obtain rfl : q = n2 := by omega
              clear hq hlq
              have HT : Hid (wr.there g (i * 9) (enC none 0 0 none 0 0 7 r0 r0).toArray.size) := HSr.out.own.there i hlt
              have HP := Lib.hid (HSr.out.put i hlt (enC none 0 0 none 0 0 7 r0 r0) rfl ⟨[], [], 7, r0, r0⟩ ⟨_, _, _, _, _, _, rfl, Own.nil _ _, Own.nil _ _⟩)
              have HG := Lib.hid (HSr.out.own.put i hlt (enC none 0 0 none 0 0 7 r0 r0) rfl).2
              have hone : (enC none 0 0 none 0 0 7 r0 r0).toArray.all (·.oneCell') = true := all_oneCell_toArray (enC_one _ _ _ _ _ _ _ _ _)
              have hi9 : (Try.prog.info? 49).map (·.size) = some (enC none 0 0 none 0 0 7 r0 r0).toArray.size := infoE
              go_wp2_with ((with_reducible refine wpList_store_mid rfl 49 (.tmp 60) (.tmp 59) rfl g (i * 9) (enC none 0 0 none 0 0 7 r0 r0).toArray rfl rfl HT.out hi9 hone ?_))
              go_roundw
              case rel => exact ⟨i + 1, _, by omega, by go_num, HSr.out.own.keepBlk KNr.out (by decide) HG.out, HP.out, HBr.out.grown HG.out (by have := HBr.out.size; omega) (by intro k hk; simp at hk; omega)⟩
              case measure => first | (simp [intOf]; done) | (simp [intOf]; omega)
    · obtain rfl : i = n := by omega
      go_wp2_with fail
      exact ⟨rfl, .tuple #[], results_none rfl _ _ _, rfl, (HWB.out.mono hH).trans HBr.out⟩
end Go.Proofs.Ytihbpmceggghgaa
