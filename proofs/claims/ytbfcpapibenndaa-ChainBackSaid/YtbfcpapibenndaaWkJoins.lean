/- The walk of ChainJoins. -/
import Derived.Test.YtbfcpapibenndaaChJ
import Derived.Test.YtbfcpapibenndaaChF
import Derived.Test.YtbfcpapibenndaaRegG
set_option linter.unusedVariables false
namespace Go.Proofs.Ytbfcpapibenndaa
open Go.RowKit

/-- A row of rows of bytes, all of the call's own: the first k of ls. -/
def OwnLs (w : World) (H : Nat) (A : Option Addr) (k c : Nat) (ls : List (List UInt8)) : Prop :=
  ∃ vs, OwnV w H A k c vs ∧ ∀ j, j < k → ∃ A' n' c', vs[j]? = some (.slice A' n' c') ∧ Own w H A' n' c' (ls.getD j [])
theorem OwnLs.below {w w' : World} {H : Nat} {A : Option Addr} {k c : Nat} {ls : List (List UInt8)} (h : OwnLs w H A k c ls) (hb : Below w.heap.size w w') : OwnLs w' H A k c ls := by
  obtain ⟨vs, h1, h2⟩ := h
  refine ⟨vs, h1.below hb, fun j hj => ?_⟩
  obtain ⟨A', n', c', a1, a2⟩ := h2 j hj
  exact ⟨A', n', c', a1, a2.below hb⟩
theorem OwnLs.rds {w : World} {H : Nat} {A : Option Addr} {k c : Nat} {ls : List (List UInt8)} (h : OwnLs w H A k c ls) (hl : k = ls.length) : RdS w A k c ls := by
  obtain ⟨vs, h1, h2⟩ := h
  refine ⟨hl, h1.cap.1, h1.cap.2, fun h0 => ?_⟩
  obtain ⟨g, rfl, _⟩ := h1.split h0
  refine ⟨g, 0, rfl, fun j hj => ?_⟩
  obtain ⟨A', n', c', a1, a2⟩ := h2 j hj
  exact ⟨A', n', c', by rw [Nat.zero_add]; exact h1.cell j _ a1, a2.rd⟩
theorem OwnLs.nil (w : World) (H : Nat) (ls : List (List UInt8)) : OwnLs w H none 0 0 ls := ⟨[], OwnV.nil _ _, fun j hj => by omega⟩
theorem OwnLs.push {w w1 w3 : World} {H : Nat} {A A' A3 : Option Addr} {i c n' c' c3 : Nat} {ls : List (List UInt8)} {vs : List Value} (o : Obj) (h1 : OwnV w H A i c vs) (h2 : ∀ j, j < i → ∃ A' n' c', vs[j]? = some (.slice A' n' c') ∧ Own w H A' n' c' (ls.getD j []))
    (hH : H ≤ w.heap.size) (hb : Below w.heap.size w w1) (hn : Own w1 w.heap.size A' n' c' (ls.getD i [])) (h3 : OwnV w3 H A3 (i + 1) c3 (vs ++ [.slice A' n' c'])) (hg : (w1.alloc o).grownBy w3 (A.map (·.block))) : OwnLs w3 H A3 (i + 1) c3 ls := by
  have hl := h1.len
  have hv1 : OwnV (w1.alloc o) H A i c vs := (h1.below hb).alloc o
  refine ⟨_, h3, fun j hj => ?_⟩
  by_cases e : j = i
  · subst e
    exact ⟨A', n', c', by rw [List.getElem?_append_right (by omega)]; simp [hl], ((hn.mono hH).alloc o).keptV hv1 hg⟩
  · obtain ⟨A1, n1, c1, a1, a2⟩ := h2 j (by omega)
    exact ⟨A1, n1, c1, by rw [List.getElem?_append_left (by omega)]; exact a1, ((a2.below hb).alloc o).keptV hv1 hg⟩

set_option maxHeartbeats 6400000 in
theorem chainJoins_walk (A : Option Addr) (k c : Nat) (ls : List (List UInt8)) (x : Int) (w : World) (h : RdS w A k c ls) (hx : -9223372036854775808 ≤ x ∧ x ≤ 9223372036854775807) :
    Calls Try.prog 6 #[.slice A k c, .int .i64 x] w fun e w' => e = .returned (.bool true) ∧ Below w.heap.size w w' := by
  have hcap := h.cap
  have hmax := h.max
  unfold maxLen at hmax
  obtain ⟨hx1, hx2⟩ := hx
  by_cases hn : 20 < k
  · have hd : decide ((k : Int) > 20) = true := decide_eq_true (by omega)
    clear h
    go_enter Try.func6, Try.ntmps6
    go_wp2_with (go_at_call 12; refine (known_any _).mono ?_; rintro e w3 ⟨rfl, hb3⟩)
    go_ret
    exact ⟨rfl, hb3⟩
  · have hd : decide ((k : Int) > 20) = false := decide_eq_false (by omega)
    have HR := Lib.hid h
    have HL := Lib.hid h.len
    clear h
    go_enter Try.func6, Try.ntmps6
    go_wp2_with fail
    go_loopw [5, 20] (fun v z wr => ∃ (i c2 : Nat) (A2 : Option Addr), i ≤ k ∧ z = .int .i64 (i : Int) ∧ v = .slice A2 i c2 ∧ OwnLs wr w.heap.size A2 i c2 ls ∧ (∀ j, j < i → (ls.getD j []).length ≤ 4096) ∧ Below w.heap.size w wr)
      (fun _ z _ => k - (intOf z).toNat)
    case atStart => exact ⟨0, 0, none, Nat.zero_le _, rfl, rfl, OwnLs.nil _ _ _, fun j hj => by omega, Below.refl _ _⟩
    case round =>
      obtain ⟨i, c2, A2, hi, rfl, rfl, hown, hsm, hbel⟩ := hrel
      have HO := Lib.hid hown
      have HS := Lib.hid hsm
      have hbs := hbel.size
      have HB := Lib.hid hbel
      clear hsm hown
      by_cases hlt : i < k
      · obtain ⟨b, o, A', n', c', rfl, hcell0, hrd, hb⟩ := HR.out.piece i hlt
        have hcell := (hbel.cell hb).trans hcell0
        have HRD := Lib.hid hrd
        have hn' := hrd.len
        have hcp := hrd.cap
        have hmx := hrd.max
        unfold maxLen at hmx
        have HN := Lib.hid hn'
        have i1 : (0 : Int) ≤ (i : Int) := by omega
        have i2 : (i : Int) < (k : Int) := by omega
        clear hcell0 hrd hbel hn'
        by_cases hbig : 4096 < n'
        · have hd2 : decide ((n' : Int) > 4096) = true := decide_eq_true (by omega)
          go_wp2_with (go_at_call 12; refine (known_any _).mono ?_; rintro e w3 ⟨rfl, hb3⟩)
          go_ret
          exact ⟨rfl, HB.out.trans (hb3.mono hbs)⟩
        · have hd2 : decide ((n' : Int) > 4096) = false := decide_eq_false (by omega)
          have HRB := Lib.hid (HRD.out.below HB.out)
          obtain ⟨vs, hv, hp⟩ := HO.out
          have HV := Lib.hid hv
          have HP := Lib.hid hp
          clear hv hp HO
          go_wp2_with (first
            | (go_at_call 13; refine (copy_any A' n' c' _ _ HRB.out (by omega)).mono ?_; rintro e w3 ⟨A3, c3, rfl, hown3, hb3⟩; have HO3 := Lib.hid hown3; have HB3 := Lib.hid hb3; clear hown3 hb3)
            | (at_builtin; refine wpList_appV 38 Try.underlying38 rfl (.tmp 30) (.tmp 36) rfl (v := .slice A3 n' c3) rfl rfl ((HV.out.below HB3.out).alloc _) ((Blk.new w3 27 _).cell 0) rfl (by have := HB3.out.size; simp; omega) (by omega) ?_; intro A4 c4 w4 hown4 hg4 hb4))
          go_roundw
          case rel =>
            refine ⟨i + 1, c4, A4, by omega, by go_num, rfl, OwnLs.push _ HV.out HP.out hbs HB3.out HO3.out hown4 hg4, fun j hj => ?_, ?_⟩
            · by_cases e : j = i
              · rw [e, ← HN.out]; omega
              · exact HS.out j (by omega)
            · exact (HB.out.trans (HB3.out.mono hbs)).alloc (by have := HB3.out.size; omega) _ |>.trans hb4
          case measure => first | (simp [intOf]; done) | (simp [intOf]; omega)
      · obtain rfl : i = k := by omega
        obtain ⟨w1, rfl⟩ : ∃ w1 : World, w1 = wr := ⟨_, rfl⟩
        have hrs := HO.out.rds HL.out
        have HRS := Lib.hid hrs
        have HR1 := Lib.hid (HR.out.below HB.out)
        obtain ⟨E, HE⟩ : ∃ E, Hid (jE ls x = E) := ⟨_, rfl⟩
        obtain ⟨V, HV⟩ : ∃ V, Hid (jV ls x = V) := ⟨_, rfl⟩
        clear hrs hbel hi
        go_wp2_with fail
        refine (join_any A2 i c2 ls x _ HRS.out HS.out hx1 hx2).mono ?_
        rw [HE.out, HV.out]
        rintro e w2 ⟨A7, n7, c7, rfl, hown7, hb7⟩
        have HO7 := Lib.hid hown7
        have HB7 := Lib.hid hb7
        have HR2 := Lib.hid (HR.out.below (HB.out.trans (hb7.mono hbs)))
        clear hown7 hb7
        go_wp2_with fail
        refine (refjoin_any A i c ls x _ HR2.out HS.out hx1 hx2).mono ?_
        rw [HE.out, HV.out]
        rintro e w3 ⟨A8, n8, c8, rfl, hown8, hb8⟩
        have HB2 : Hid (Below w.heap.size w w3) := (HB.out.trans (HB7.out.mono hbs)).trans (hb8.mono (by have := HB7.out.size; omega))
        have HB1 : Hid (Below w1.heap.size w1 w3) := HB7.out.trans (hb8.mono HB7.out.size)
        have HO73 := Lib.hid (HO7.out.below hb8)
        have HO8 := Lib.hid (Own.rd hown8)
        clear hown8 hb8
        go_wp2_with fail
        refine (same_refl A7 n7 c7 V A8 n8 c8 w3 HO73.out.rd HO8.out).mono ?_
        rintro e w' ⟨rfl, rfl⟩
        go_wp2_with fail
        have hn7 : n7 ≤ c7 := HO73.out.rd.cap
        have hm7 : c7 ≤ 9223372036854775807 := by have := HO73.out.rd.max; unfold maxLen at this; omega
        go_loopw [61] (fun s wr => ∃ (j : Nat) (l' : List UInt8), j ≤ n7 ∧ s = .int .i64 (j : Int) ∧ Own wr w1.heap.size A7 n7 c7 l' ∧ Below w1.heap.size w1 wr) (fun s _ => n7 - (intOf s).toNat)
        case atStart => exact ⟨0, V, Nat.zero_le _, rfl, HO73.out, HB1.out⟩
        case round =>
          obtain ⟨j, l', hj, rfl, hown, hbel⟩ := hrel
          have HO := Lib.hid hown
          have HBE := Lib.hid hbel
          clear hown hbel
          by_cases hlt2 : j < n7
          · obtain ⟨g2, rfl, hg2⟩ := HO.out.split (by omega)
            have hcell : wr.cell? ⟨g2, j, none⟩ = some (B8 (l'.getD j 0)) := own_cell HO.out j hlt2
            have hfr : wr.frozen? ⟨g2, j, none⟩ = false := HO.out.frozenAt j
            obtain ⟨y, HY⟩ : ∃ y, Hid (y = l'.getD j 0) := ⟨_, rfl⟩
            rw [← HY.out] at hcell
            have hy := y.toNat_lt
            have hfl := flip255 y
            go_wp2
            go_roundw
            case rel => exact ⟨j + 1, l'.set j (y ^^^ 255), by omega, by go_num, own_set HO.out j (y ^^^ 255), HBE.out.setCell hg2 _⟩
            case measure => first | (simp [intOf]; done) | (simp [intOf]; omega)
          · obtain rfl : j = n7 := by omega
            obtain ⟨w4, rfl⟩ : ∃ w4 : World, w4 = wr := ⟨_, rfl⟩
            clear HO hj hlt2
            have HB4 : Hid (Below w.heap.size w w4) := HB.out.trans (HBE.out.mono hbs)
            have HRS4 := Lib.hid (HRS.out.below HBE.out)
            have HR4 := Lib.hid (HR.out.below HB4.out)
            have hc2 := HRS4.out.cap
            have hc2m := HRS4.out.max
            unfold maxLen at hc2m
            go_wp2_with fail
            go_loopw [11, 73] (fun t s wr => ∃ q : Nat, q ≤ i ∧ s = .int .i64 (q : Int) ∧ t = .bool true ∧ Below w4.heap.size w4 wr) (fun _ s _ => i - (intOf s).toNat)
            case atStart => exact ⟨0, Nat.zero_le _, rfl, rfl, Below.refl _ _⟩
            case round =>
              obtain ⟨q, hq, rfl, rfl, hbel⟩ := hrel
              have HBF := Lib.hid hbel
              have HRSr := Lib.hid (HRS4.out.below hbel)
              have HRr := Lib.hid (HR4.out.below hbel)
              clear hbel
              by_cases hlq : q < i
              · obtain ⟨b1, o1, A9, n9, c9, rfl, hcell1, hrd1, hb1⟩ := HRSr.out.piece q hlq
                obtain ⟨b2, o2, A10, n10, c10, rfl, hcell2, hrd2, hb2⟩ := HRr.out.piece q hlq
                have i1 : (0 : Int) ≤ (q : Int) := by omega
                have i2 : (q : Int) < (i : Int) := by omega
                have HD1 := Lib.hid hrd1
                have HD2 := Lib.hid hrd2
                clear hrd1 hrd2
                go_wp2_with fail
                refine region_gate 13 (fun w' => w'.cell? ⟨b1, o1 + q, none⟩ = some (.slice A9 n9 c9) ∧ w'.cell? ⟨b2, o2 + q, none⟩ = some (.slice A10 n10 c10) ∧ Rd w' A9 n9 c9 (ls.getD q []) ∧ Rd w' A10 n10 c10 (ls.getD q [])) (by kernel_rfl) ?th1 (fun hHeld => ?tk1)
                case th1 => ((try dsimp only); exact ⟨hcell1, hcell2, HD1.out.below (below_drewN (Below.refl _ _) 1), HD2.out.below (below_drewN (Below.refl _ _) 1)⟩)
                refine' takeV 0 (oi := _) (d := _) (v := _) ?ti2 ?td2 (by kernel_rfl) (by kernel_rfl) (by kernel_rfl) (by kernel_rfl) (by decide) (fun _ _ _ _ _ h => h) ?tg2 ?ty2 (by assumption) ?tr2
                case ti2 => (simp only [List.getElem?_toArray, List.getElem?_cons_succ, List.getElem?_cons_zero]; rfl)
                case td2 => exact rfl
                case tg2 => exact rfl
                case ty2 => (intro w hSw; (try dsimp only at hSw); go_split_ands; go_simp; try with_reducible rfl)
                simp only [List.setIfInBounds_toArray, List.set_cons_zero, List.set_cons_succ]
                refine' takeV 1 (oi := _) (d := _) (v := _) ?ti3 ?td3 (by kernel_rfl) (by kernel_rfl) (by kernel_rfl) (by kernel_rfl) (by decide) (fun _ _ _ _ _ h => h) ?tg3 ?ty3 (by assumption) ?tr3
                case ti3 => (simp only [List.getElem?_toArray, List.getElem?_cons_succ, List.getElem?_cons_zero]; rfl)
                case td3 => exact rfl
                case tg3 => exact rfl
                case ty3 => (intro w hSw; (try dsimp only at hSw); go_split_ands; go_simp; try with_reducible rfl)
                simp only [List.setIfInBounds_toArray, List.set_cons_zero, List.set_cons_succ]
                refine' takeVg 2 (oi := _) (d := _) (v := _) ?ti4 ?td4 (by kernel_rfl) (by kernel_rfl) (by kernel_rfl) (by kernel_rfl) (by decide) (fun _ _ _ _ _ h => h) ?tg4 ?ty4 (by assumption) ?tr4
                case ti4 => (simp only [List.getElem?_toArray, List.getElem?_cons_succ, List.getElem?_cons_zero]; rfl)
                case td4 => exact rfl
                case tg4 => exact rfl
                case ty4 => (intro w hSw; (try dsimp only at hSw); go_split_ands; go_simp; try with_reducible rfl)
                simp only [List.setIfInBounds_toArray, List.set_cons_zero, List.set_cons_succ]
                refine' takeVg 3 (oi := _) (d := _) (v := _) ?ti5 ?td5 (by kernel_rfl) (by kernel_rfl) (by kernel_rfl) (by kernel_rfl) (by decide) (fun _ _ _ _ _ h => h) ?tg5 ?ty5 (by assumption) ?tr5
                case ti5 => (simp only [List.getElem?_toArray, List.getElem?_cons_succ, List.getElem?_cons_zero]; rfl)
                case td5 => exact rfl
                case tg5 => exact rfl
                case ty5 => (intro w hSw; (try dsimp only at hSw); go_split_ands; go_simp; try with_reducible rfl)
                simp only [List.setIfInBounds_toArray, List.set_cons_zero, List.set_cons_succ]
                refine' takeVg 4 (oi := _) (d := _) (v := _) ?ti6 ?td6 (by kernel_rfl) (by kernel_rfl) (by kernel_rfl) (by kernel_rfl) (by decide) (fun _ _ _ _ _ h => h) ?tg6 ?ty6 (by assumption) ?tr6
                case ti6 => (simp only [List.getElem?_toArray, List.getElem?_cons_succ, List.getElem?_cons_zero]; rfl)
                case td6 => exact rfl
                case tg6 => exact rfl
                case ty6 => (intro w hSw; (try dsimp only at hSw); go_split_ands; go_simp; try with_reducible rfl)
                simp only [List.setIfInBounds_toArray, List.set_cons_zero, List.set_cons_succ]
                refine' takeVg 5 (oi := _) (d := _) (v := _) ?ti7 ?td7 (by kernel_rfl) (by kernel_rfl) (by kernel_rfl) (by kernel_rfl) (by decide) (fun _ _ _ _ _ h => h) ?tg7 ?ty7 (by assumption) ?tr7
                case ti7 => (simp only [List.getElem?_toArray, List.getElem?_cons_succ, List.getElem?_cons_zero]; rfl)
                case td7 => exact rfl
                case tg7 => exact rfl
                case ty7 => (intro w hSw; (try dsimp only at hSw); go_split_ands; go_simp; try with_reducible rfl)
                simp only [List.setIfInBounds_toArray, List.set_cons_zero, List.set_cons_succ]
                refine' takeVg 6 (oi := _) (d := _) (v := _) ?ti8 ?td8 (by kernel_rfl) (by kernel_rfl) (by kernel_rfl) (by kernel_rfl) (by decide) (fun _ _ _ _ _ h => h) ?tg8 ?ty8 (by assumption) ?tr8
                case ti8 => (simp only [List.getElem?_toArray, List.getElem?_cons_succ, List.getElem?_cons_zero]; rfl)
                case td8 => exact rfl
                case tg8 => exact rfl
                case ty8 => (intro w hSw; (try dsimp only at hSw); go_split_ands; go_simp; try with_reducible rfl)
                simp only [List.setIfInBounds_toArray, List.set_cons_zero, List.set_cons_succ]
                refine' takeVg 7 (oi := _) (d := _) (v := _) ?ti9 ?td9 (by kernel_rfl) (by kernel_rfl) (by kernel_rfl) (by kernel_rfl) (by decide) (fun _ _ _ _ _ h => h) ?tg9 ?ty9 (by assumption) ?tr9
                case ti9 => (simp only [List.getElem?_toArray, List.getElem?_cons_succ, List.getElem?_cons_zero]; rfl)
                case td9 => exact rfl
                case tg9 => exact rfl
                case ty9 => (intro w hSw; (try dsimp only at hSw); go_split_ands; go_simp; try with_reducible rfl)
                simp only [List.setIfInBounds_toArray, List.set_cons_zero, List.set_cons_succ]
                refine' takeVg 8 (oi := _) (d := _) (v := _) ?ti10 ?td10 (by kernel_rfl) (by kernel_rfl) (by kernel_rfl) (by kernel_rfl) (by decide) (fun _ _ _ _ _ h => h) ?tg10 ?ty10 (by assumption) ?tr10
                case ti10 => (simp only [List.getElem?_toArray, List.getElem?_cons_succ, List.getElem?_cons_zero]; rfl)
                case td10 => exact rfl
                case tg10 => exact rfl
                case ty10 => (intro w hSw; (try dsimp only at hSw); go_split_ands; go_simp; try with_reducible rfl)
                simp only [List.setIfInBounds_toArray, List.set_cons_zero, List.set_cons_succ]
                refine' takeVg 9 (oi := _) (d := _) (v := _) ?ti11 ?td11 (by kernel_rfl) (by kernel_rfl) (by kernel_rfl) (by kernel_rfl) (by decide) (fun _ _ _ _ _ h => h) ?tg11 ?ty11 (by assumption) ?tr11
                case ti11 => (simp only [List.getElem?_toArray, List.getElem?_cons_succ, List.getElem?_cons_zero]; rfl)
                case td11 => exact rfl
                case tg11 => exact rfl
                case ty11 => (intro w hSw; (try dsimp only at hSw); go_split_ands; go_simp; try with_reducible rfl)
                simp only [List.setIfInBounds_toArray, List.set_cons_zero, List.set_cons_succ]
                refine' takeCg 10 (oi := _) (d := _) (v := _) ?ti12 ?td12 (by kernel_rfl) (by kernel_rfl) (by kernel_rfl) (by kernel_rfl) (by decide) (fun _ _ _ _ _ h => h) ?tg12 ?ty12 (by assumption) ?tr12
                case ti12 => (simp only [List.getElem?_toArray, List.getElem?_cons_succ, List.getElem?_cons_zero]; rfl)
                case td12 => exact rfl
                case tg12 => exact rfl
                case ty12 => (intro w hSw; have hc := same_refl _ _ _ (ls.getD q []) _ _ _ w hSw.2.2.1 hSw.2.2.2; exact OnlyV.call rfl Try.func16 (by kernel_rfl) (by kernel_rfl) (Calls.mono hc (by rintro e w2 ⟨rfl, rfl⟩; constructor <;> rfl)) (by simp only [List.map_toArray, List.map_cons, List.map_nil]; rfl))
                simp only [List.setIfInBounds_toArray, List.set_cons_zero, List.set_cons_succ]
                refine' takeV 11 (oi := _) (d := _) (v := _) ?ti13 ?td13 (by kernel_rfl) (by kernel_rfl) (by kernel_rfl) (by kernel_rfl) (by decide) (fun _ _ _ _ _ h => h) ?tg13 ?ty13 (by assumption) ?tr13
                case ti13 => (simp only [List.getElem?_toArray, List.getElem?_cons_succ, List.getElem?_cons_zero]; rfl)
                case td13 => exact rfl
                case tg13 => exact rfl
                case ty13 => (intro w hSw; (try dsimp only at hSw); go_split_ands; go_simp; try with_reducible rfl)
                simp only [List.setIfInBounds_toArray, List.set_cons_zero, List.set_cons_succ]
                refine' takeV 12 (oi := _) (d := _) (v := _) ?ti14 ?td14 (by kernel_rfl) (by kernel_rfl) (by kernel_rfl) (by kernel_rfl) (by decide) (fun _ _ _ _ _ h => h) ?tg14 ?ty14 (by assumption) ?tr14
                case ti14 => (simp only [List.getElem?_toArray, List.getElem?_cons_succ, List.getElem?_cons_zero]; rfl)
                case td14 => exact rfl
                case tg14 => exact rfl
                case ty14 => (intro w hSw; (try dsimp only at hSw); go_split_ands; go_simp; try with_reducible rfl)
                simp only [List.setIfInBounds_toArray, List.set_cons_zero, List.set_cons_succ]
                refine doneG (by kernel_rfl) ?_ _
                go_wp2_with fail
                go_roundw
                case rel => exact ⟨q + 1, by omega, by go_num, rfl, HBF.out.drew⟩
                case measure => first | (simp [intOf]; done) | (simp [intOf]; omega)
              · obtain rfl : q = i := by omega
                have HB5 : Hid (Below w.heap.size w wr) := HB4.out.trans (HBF.out.mono HB4.out.size)
                clear hq hlq
                go_wp2_with (go_at_call 12; refine (known_any _).mono ?_; rintro e w6 ⟨rfl, hb6⟩)
                go_ret
                exact ⟨rfl, HB5.out.trans (hb6.mono HB5.out.size)⟩
end Go.Proofs.Ytbfcpapibenndaa
