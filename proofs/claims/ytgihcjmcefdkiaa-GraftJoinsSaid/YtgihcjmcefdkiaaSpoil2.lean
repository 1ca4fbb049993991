/- Contracts: donjonref12.Spoil, and what it leaves. -/
import Derived.Test.YtgihcjmcefdkiaaSpoil
import Derived.Deep.MidRow
set_option linter.unusedVariables false
set_option linter.unusedSimpArgs false
namespace Go.Proofs.Ytgihcjmcefdkiaa
open Go.RowKit

theorem SP.keptRow {w w' : World} {H H' n c m d g : Nat} {A : Option Addr} {css css' : List (List Value)} (h : SP w H A n c css) (h' : OwnE w H' (some ⟨g, 0, none⟩) m d css') (hne : ∀ a, A = some a → a.block ≠ g) (hg : w.grownBy w' (some g)) : SP w' H A n c css := by
  refine ⟨⟨World.ownsRow.kept h.own.1 hg ?_, h.own.2⟩, fun j hj => ?_⟩
  · cases A with
    | none => exact .inl rfl
    | some a => exact .inr (by have := hne a rfl; simpa [Value.ownBlock] using this)
  · obtain ⟨x, hx⟩ := h.each j hj
    exact ⟨x, hx.keptOE h' hg⟩
theorem SP.nN {w : World} {H n c : Nat} {A : Option Addr} {css : List (List Value)} (h : SP w H A n c css) : ∃ es, OwnN w H A n c es := by
  have : ∀ m, m ≤ n → ∃ es : List Ent, es.length = m ∧ ∀ j, j < m → EC w H (css.getD j []) (es.getD j ent0) := by
    intro m
    induction m with
    | zero => exact fun _ => ⟨[], rfl, fun j hj => absurd hj (by omega)⟩
    | succ m ih =>
      intro hm
      obtain ⟨es, hl, he⟩ := ih (by omega)
      obtain ⟨x, hx⟩ := h.each m (by omega)
      refine ⟨es ++ [x], by simp [hl], fun j hj => ?_⟩
      by_cases e : j = m
      · subst e
        have : (es ++ [x]).getD j ent0 = x := by simp [List.getD, ← hl]
        rw [this]; exact hx
      · have : (es ++ [x]).getD j ent0 = es.getD j ent0 := by
          simp only [List.getD_eq_getElem?_getD]
          rw [List.getElem?_append_left (by omega)]
        rw [this]; exact he j (by omega)
  obtain ⟨es, _, he⟩ := this n (Nat.le_refl _)
  exact ⟨es, css, h.own, he⟩
/-- Another row of entries outlives it. -/
theorem SP.keeps {H n c H' n' c' : Nat} {A A' : Option Addr} {css : List (List Value)} (hne : ∀ a a', A = some a → A' = some a' → a.block ≠ a'.block) :
    (∀ w w' : World, Below w.heap.size w w' → SP w H' A' n' c' css → SP w' H' A' n' c' css) ∧
    (∀ (w : World) (g j : Nat) (y : UInt8) (H2 m d : Nat) (l : List UInt8), Own w H2 (some ⟨g, 0, none⟩) m d l → SP w H' A' n' c' css → SP (w.setCell ⟨g, j, none⟩ (B8 y)) H' A' n' c' css) ∧
    (∀ (w : World) (g i : Nat) (cs : List Value) (css2 : List (List Value)), A = some ⟨g, 0, none⟩ → OwnE w H A n c css2 → SP w H' A' n' c' css → SP (w.setCells g (i * 9) cs) H' A' n' c' css) :=
  ⟨fun _ _ hb h => h.below hb, fun _ _ j y _ _ _ _ ho h => h.poke ho j y, fun w g i cs css2 e ho h => by
    subst e
    exact h.keptRow ho (fun a ha => (hne _ a rfl ha).symm) (own_setCells cs (i * 9) w _ ho.1).2⟩
/-- A row of bytes outlives it. -/
theorem Own.keeps {H n c H' n' c' : Nat} {A A' : Option Addr} :
    (∀ w w' : World, Below w.heap.size w w' → (∃ l, Own w H' A' n' c' l) → ∃ l, Own w' H' A' n' c' l) ∧
    (∀ (w : World) (g j : Nat) (y : UInt8) (H2 m d : Nat) (l : List UInt8), Own w H2 (some ⟨g, 0, none⟩) m d l → (∃ l, Own w H' A' n' c' l) → ∃ l, Own (w.setCell ⟨g, j, none⟩ (B8 y)) H' A' n' c' l) ∧
    (∀ (w : World) (g i : Nat) (cs : List Value) (css2 : List (List Value)), A = some ⟨g, 0, none⟩ → OwnE w H A n c css2 → (∃ l, Own w H' A' n' c' l) → ∃ l, Own (w.setCells g (i * 9) cs) H' A' n' c' l) :=
  ⟨fun _ _ hb ⟨l, h⟩ => ⟨l, h.below hb⟩, fun _ g j y _ _ _ _ _ ⟨l, h⟩ => h.poke g j y, fun w g i cs css2 e ho ⟨l, h⟩ => by
    subst e
    exact ⟨l, h.keptOE ho (own_setCells cs (i * 9) w _ ho.1).2⟩⟩
set_option maxRecDepth 100000 in
set_option maxHeartbeats 3200000 in
theorem spoil_keep (k l : Nat) (A : Option Addr) (n c : Nat) (es : List Ent) (H : Nat) (w : World) (P : World → Prop) (h : OwnN w H A n c es) (hH : H ≤ w.heap.size) (hP : P w) (p1 : ∀ w w' : World, Below w.heap.size w w' → P w → P w')
    (p2 : ∀ (w : World) (g j : Nat) (y : UInt8) (H' m d : Nat) (l : List UInt8), Own w H' (some ⟨g, 0, none⟩) m d l → P w → P (w.setCell ⟨g, j, none⟩ (B8 y)))
    (p3 : ∀ (w : World) (g i : Nat) (cs : List Value) (css : List (List Value)), A = some ⟨g, 0, none⟩ → OwnE w H A n c css → P w → P (w.setCells g (i * 9) cs)) :
    Calls Try.prog 19 #[NdV k l A n c] w fun e w' => e = .returned (.tuple #[]) ∧ Below H w w' ∧ P w' := by
  obtain ⟨css, hsp⟩ := h.sp
  have hcap := hsp.own.cap.1
  have hmax := hsp.own.cap.2
  unfold maxLen at hmax
  clear h
  obtain ⟨W, hW⟩ : ∃ W, W = w.alloc (.cells #[.int .u8 (k : Int), .int .u8 (l : Int), .slice A n c] 24) := ⟨_, rfl⟩
  have HWB : Hid (Below w.heap.size w W) := by rw [hW]; exact below_new1 _ _
  have KN : Hid (Blk W w.heap.size 24 (ndA k l A n c)) := by rw [hW]; exact Blk.new _ _ _
  have HSP := Lib.hid (hsp.below HWB.out)
  have HW := Lib.hid hW
  have hWs := KN.out.lt
  have HP0 := Lib.hid (p1 _ _ HWB.out hP)
  have HP1 := Lib.hid p1
  have HP2 := Lib.hid p2
  have HP3 := Lib.hid p3
  clear hsp hW hP p1 p2 p3
  go_enter Try.func19, Try.ntmps19
  go_wp2_with fail
  rw [← HW.out]
  go_loopw [2] (fun z wr => ∃ (i : Nat) (css : List (List Value)), i ≤ n ∧ z = .int .i64 (i : Int) ∧ Blk wr w.heap.size 24 (ndA k l A n c) ∧ SP wr H A n c css ∧ Below H W wr ∧ P wr) (fun z _ => n - (intOf z).toNat)
  case atStart => exact ⟨0, css, Nat.zero_le _, rfl, KN.out, HSP.out, Below.refl _ _, HP0.out⟩
  case round =>
    obtain ⟨i, cs1, hi, rfl, hkn, hsp, hbel, hpp⟩ := hrel
    have KNr := Lib.hid hkn
    have HSr := Lib.hid hsp
    have HBr := Lib.hid hbel
    have HPr := Lib.hid hpp
    clear hkn hsp hbel hpp
    have m2 : wr.cell? ⟨w.heap.size, 2, none⟩ = some (.slice A n c) := KNr.out.cell 2
    by_cases hlt : i < n
    · obtain ⟨g, rfl, hgH⟩ := HSr.out.own.split (by omega)
      obtain ⟨x, B1, n1, d1, B2, n2, d2, hcs, ho1, ho2⟩ := HSr.out.each i hlt
      have HCS := Lib.hid hcs
      have m1 := ho1.rd.cap
      have m3 := ho1.rd.max
      have m4 := ho2.rd.cap
      have m5 := ho2.rd.max
      unfold maxLen at m3 m5
      clear hcs ho1 ho2
      have i1 : (0 : Int) ≤ (i : Int) := by omega
      have i2 : (i : Int) < (n : Int) := by omega
      go_wp2_with fail
      clear m2
      go_loopw [3] (fun z wr => ∃ j : Nat, j ≤ n1 ∧ z = .int .i64 (j : Int) ∧ Blk wr w.heap.size 24 (ndA k l (some ⟨g, 0, none⟩) n c) ∧ SP wr H (some ⟨g, 0, none⟩) n c cs1 ∧ Below H W wr ∧ P wr) (fun z _ => n1 - (intOf z).toNat)
      case atStart => exact ⟨0, Nat.zero_le _, rfl, KNr.out, HSr.out, HBr.out, HPr.out⟩
      case round =>
        clear KNr HSr HBr HPr
        obtain ⟨j, hj, rfl, hkn, hsp, hbel, hpp⟩ := hrel
        have KNr := Lib.hid hkn
        have HSr := Lib.hid hsp
        have HBr := Lib.hid hbel
        have HPr := Lib.hid hpp
        clear hkn hsp hbel hpp
        have m2 : wr.cell? ⟨w.heap.size, 2, none⟩ = some (.slice (some ⟨g, 0, none⟩) n c) := KNr.out.cell 2
        have hat := HSr.out.own.eat i hlt HCS.out (i * 9) rfl
        have a0 := hat.c0
        clear hat
        by_cases hlj : j < n1
        · obtain ⟨y, hy⟩ := HSr.out.each i hlt
          obtain ⟨k1, v1, ho1, _⟩ := hy.of HCS.out
          obtain ⟨g1, rfl, hg1⟩ := ho1.split (by omega)
          have hcell : wr.cell? ⟨g1, j, none⟩ = some (B8 (k1.getD j 0)) := own_cell ho1 j hlj
          have hfr : wr.frozen? ⟨g1, j, none⟩ = false := ho1.frozenAt j
          obtain ⟨x, HX⟩ : ∃ x, Hid (x = k1.getD j 0) := ⟨_, rfl⟩
          rw [← HX.out] at hcell
          have hx := x.toNat_lt
          have hfl := flip255 x
          have HO1 := Lib.hid ho1
          clear hy ho1
          go_wp2_with fail
          go_roundw
          case rel => exact ⟨j + 1, by omega, by go_num, HO1.out.keep_blk KNr.out (by decide) (grown_setCell _ _ _ _), HSr.out.poke HO1.out j (x ^^^ 255), HBr.out.setCell hg1 _, HP2.out _ g1 j (x ^^^ 255) _ _ _ _ HO1.out HPr.out⟩
          case measure => first | (simp [intOf]; done) | (simp [intOf]; omega)
        · obtain rfl : j = n1 := by omega
          clear hj hlj
          go_wp2_with fail
          clear a0 m2
          go_loopw [4] (fun z wr => ∃ j : Nat, j ≤ n2 ∧ z = .int .i64 (j : Int) ∧ Blk wr w.heap.size 24 (ndA k l (some ⟨g, 0, none⟩) n c) ∧ SP wr H (some ⟨g, 0, none⟩) n c cs1 ∧ Below H W wr ∧ P wr) (fun z _ => n2 - (intOf z).toNat)
          case atStart => exact ⟨0, Nat.zero_le _, rfl, KNr.out, HSr.out, HBr.out, HPr.out⟩
          case round =>
            clear KNr HSr HBr HPr
            obtain ⟨q, hq, rfl, hkn, hsp, hbel, hpp⟩ := hrel
            have KNr := Lib.hid hkn
            have HSr := Lib.hid hsp
            have HBr := Lib.hid hbel
            have HPr := Lib.hid hpp
            clear hkn hsp hbel hpp
            have m2 : wr.cell? ⟨w.heap.size, 2, none⟩ = some (.slice (some ⟨g, 0, none⟩) n c) := KNr.out.cell 2
            have hat := HSr.out.own.eat i hlt HCS.out (i * 9) rfl
            have a1 := hat.c1
            clear hat
            by_cases hlq : q < n2
            · obtain ⟨y, hy⟩ := HSr.out.each i hlt
              obtain ⟨k1, v1, _, ho2⟩ := hy.of HCS.out
              obtain ⟨g2, rfl, hg2⟩ := ho2.split (by omega)
              have hcell : wr.cell? ⟨g2, q, none⟩ = some (B8 (v1.getD q 0)) := own_cell ho2 q hlq
              have hfr : wr.frozen? ⟨g2, q, none⟩ = false := ho2.frozenAt q
              obtain ⟨x, HX⟩ : ∃ x, Hid (x = v1.getD q 0) := ⟨_, rfl⟩
              rw [← HX.out] at hcell
              have hx := x.toNat_lt
              have hfl := flip255 x
              have HO1 := Lib.hid ho2
              clear hy ho2
              go_wp2_with fail
              go_roundw
              case rel => exact ⟨q + 1, by omega, by go_num, HO1.out.keep_blk KNr.out (by decide) (grown_setCell _ _ _ _), HSr.out.poke HO1.out q (x ^^^ 255), HBr.out.setCell hg2 _, HP2.out _ g2 q (x ^^^ 255) _ _ _ _ HO1.out HPr.out⟩
              case measure => first | (simp [intOf]; done) | (simp [intOf]; omega)
            · obtain rfl : q = n2 := by omega
              clear hq hlq
              have HT : Hid (wr.there g (i * 9) (enC none 0 0 none 0 0 7 r0 r0).toArray.size) := HSr.out.own.there i hlt
              have HP := Lib.hid (HSr.out.put i hlt (enC none 0 0 none 0 0 7 r0 r0) rfl ⟨[], [], 7, r0, r0⟩ ⟨_, _, _, _, _, _, rfl, Own.nil _ _, Own.nil _ _⟩)
              have HG := Lib.hid (HSr.out.own.put i hlt (enC none 0 0 none 0 0 7 r0 r0) rfl).2
              have hone : (enC none 0 0 none 0 0 7 r0 r0).toArray.all (·.oneCell') = true := all_oneCell_toArray (enC_one _ _ _ _ _ _ _ _ _)
              have hi9 : (Try.prog.info? 46).map (·.size) = some (enC none 0 0 none 0 0 7 r0 r0).toArray.size := infoE
              go_wp2_with ((with_reducible refine wpList_store_mid rfl 46 (.tmp 60) (.tmp 59) rfl g (i * 9) (enC none 0 0 none 0 0 7 r0 r0).toArray rfl rfl HT.out hi9 hone ?_))
              go_roundw
              case rel => exact ⟨i + 1, _, by omega, by go_num, HSr.out.own.keepBlk KNr.out (by decide) HG.out, HP.out, HBr.out.grown HG.out (by have := HBr.out.size; omega) (by intro k hk; simp at hk; omega), HP3.out _ _ _ _ _ rfl HSr.out.own HPr.out⟩
              case measure => first | (simp [intOf]; done) | (simp [intOf]; omega)
    · obtain rfl : i = n := by omega
      go_wp2_with fail
      exact ⟨rfl, .tuple #[], results_none rfl _ _ _, rfl, (HWB.out.mono hH).trans HBr.out, HPr.out⟩
/-- What outlives that a row of entries is spoilt. -/
structure Keeps (H : Nat) (A : Option Addr) (n c : Nat) (P : World → Prop) : Prop where
  p1 : ∀ w w' : World, Below w.heap.size w w' → P w → P w'
  p2 : ∀ (w : World) (g j : Nat) (y : UInt8) (H' m d : Nat) (l : List UInt8), Own w H' (some ⟨g, 0, none⟩) m d l → P w → P (w.setCell ⟨g, j, none⟩ (B8 y))
  p3 : ∀ (w : World) (g i : Nat) (cs : List Value) (css : List (List Value)), A = some ⟨g, 0, none⟩ → OwnE w H A n c css → P w → P (w.setCells g (i * 9) cs)
theorem Keeps.and {H : Nat} {A : Option Addr} {n c : Nat} {P Q : World → Prop} (h : Keeps H A n c P) (h' : Keeps H A n c Q) : Keeps H A n c (fun V => P V ∧ Q V) :=
  ⟨fun w w' hb hp => ⟨h.p1 w w' hb hp.1, h'.p1 w w' hb hp.2⟩, fun w g j y H' m d l ho hp => ⟨h.p2 w g j y H' m d l ho hp.1, h'.p2 w g j y H' m d l ho hp.2⟩, fun w g i cs css e ho hp => ⟨h.p3 w g i cs css e ho hp.1, h'.p3 w g i cs css e ho hp.2⟩⟩
theorem Keeps.sp {H n c H' n' c' : Nat} {A A' : Option Addr} {css : List (List Value)} (hne : ∀ a a', A = some a → A' = some a' → a.block ≠ a'.block) : Keeps H A n c (fun V => SP V H' A' n' c' css) :=
  ⟨(SP.keeps (H := H) (n := n) (c := c) hne).1, (SP.keeps (H := H) (n := n) (c := c) hne).2.1, (SP.keeps (H := H) (n := n) (c := c) hne).2.2⟩
theorem Keeps.own {H n c H' n' c' : Nat} {A A' : Option Addr} : Keeps H A n c (fun V => ∃ l, Own V H' A' n' c' l) :=
  ⟨(Own.keeps (H := H) (n := n) (c := c) (A := A)).1, (Own.keeps (H := H) (n := n) (c := c) (A := A)).2.1, (Own.keeps (H := H) (n := n) (c := c) (A := A)).2.2⟩
theorem Keeps.blk {H n c g : Nat} {A : Option Addr} {T : TypeId} {cs : Array Value} (h1 : T ≠ 5) (h2 : T ≠ 46) : Keeps H A n c (fun V => Blk V g T cs) :=
  ⟨fun _ _ hb h => h.below hb h.lt, fun _ _ _ _ _ _ _ _ ho h => ho.keep_blk h h1 (grown_setCell _ _ _ _), fun w g' i vs css e ho h => by
    subst e
    exact ho.keepBlk h h2 (own_setCells vs (i * 9) w _ ho.1).2⟩
theorem spoil_keeps {k l : Nat} {A : Option Addr} {n c : Nat} {es : List Ent} {H : Nat} {w : World} {P : World → Prop} (hK : Keeps H A n c P) (h : OwnN w H A n c es) (hH : H ≤ w.heap.size) (hP : P w) :
    Calls Try.prog 19 #[NdV k l A n c] w fun e w' => e = .returned (.tuple #[]) ∧ Below H w w' ∧ P w' :=
  spoil_keep k l A n c es H w P h hH hP hK.p1 hK.p2 hK.p3
end Go.Proofs.Ytgihcjmcefdkiaa
