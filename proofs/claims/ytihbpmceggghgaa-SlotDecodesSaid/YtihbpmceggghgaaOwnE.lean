/- Rows of entries of the call's own. -/
import Derived.Test.YtihbpmceggghgaaCopy
set_option linter.unusedVariables false
set_option linter.unusedSimpArgs false
namespace Go.Proofs.Ytihbpmceggghgaa
open Go.RowKit

theorem infoEn : (Try.prog.info? 49).map (fun i => (i.zero, i.size, i.bytes)) = some (some (.agg #[.slice none 0 0, .slice none 0 0, .int .i64 0, .int .u32 0, .int .u64 0, .int .u16 0, .int .u32 0, .int .u64 0, .int .u16 0]), 9, 104) := by kernel_rfl
theorem flat9 : ∀ (css : List (List Value)) (j t : Nat), (∀ cs ∈ css, cs.length = 9) → j < css.length → t < 9 → css.flatten[j * 9 + t]? = (css.getD j [])[t]?
  | [], j, _, _, h, _ => absurd h (by simp)
  | cs :: css, 0, t, hl, _, ht => by
    have h9 : cs.length = 9 := hl cs (List.mem_cons_self ..)
    simp only [List.flatten_cons, Nat.zero_mul, Nat.zero_add, List.getD_cons_zero]
    rw [List.getElem?_append_left (by omega)]
  | cs :: css, j + 1, t, hl, hj, ht => by
    have h9 : cs.length = 9 := hl cs (List.mem_cons_self ..)
    simp only [List.flatten_cons, List.getD_cons_succ]
    rw [List.getElem?_append_right (by omega), show (j + 1) * 9 + t - cs.length = j * 9 + t by omega]
    exact flat9 css j t (fun c hc => hl c (List.mem_cons_of_mem _ hc)) (by simpa using hj) ht
theorem flat9_length : ∀ (css : List (List Value)), (∀ cs ∈ css, cs.length = 9) → css.flatten.length = css.length * 9
  | [], _ => rfl
  | cs :: css, hl => by
    have h9 : cs.length = 9 := hl cs (List.mem_cons_self ..)
    have := flat9_length css (fun c hc => hl c (List.mem_cons_of_mem _ hc))
    simp only [List.flatten_cons, List.length_append, List.length_cons, h9, this]
    omega
/-- A row of entries of the call's own: the entries' cells. -/
def OwnE (w : World) (H : Nat) (A : Option Addr) (n c : Nat) (css : List (List Value)) : Prop := w.ownsRow H 49 9 (.slice A n c) n css.flatten ∧ css.length = n ∧ ∀ cs ∈ css, cs.length = 9
section
variable {w w' : World} {H : Nat} {A : Option Addr} {n c : Nat} {css : List (List Value)}
theorem OwnE.cap (h : OwnE w H A n c css) : n ≤ c ∧ c ≤ maxLen := by
  rcases h.1.2 with ⟨hv, hn⟩ | ⟨g, cap, cur, hv, _, _, h1, h2, _⟩
  · injection hv with _ _ h3; subst h3; exact ⟨by omega, by unfold maxLen; omega⟩
  · injection hv with _ _ h3; subst h3; exact ⟨h1, h2⟩
theorem OwnE.below (h : OwnE w H A n c css) (hb : Below w.heap.size w w') : OwnE w' H A n c css := ⟨own_below h.1 hb, h.2⟩
theorem OwnE.alloc (h : OwnE w H A n c css) (o : Obj) : OwnE (w.alloc o) H A n c css := ⟨World.ownsRow.alloc h.1 o, h.2⟩
theorem OwnE.mono {H' : Nat} (h : OwnE w H A n c css) (hH : H' ≤ H) : OwnE w H' A n c css :=
  ⟨⟨h.1.1, h.1.2.imp id fun ⟨g, cap, cur, hv, hb, r⟩ => ⟨g, cap, cur, hv, Nat.le_trans hH hb, r⟩⟩, h.2⟩
theorem OwnE.nil (w : World) (H : Nat) : OwnE w H none 0 0 [] := ⟨World.ownsRow_nil w H _ 9, rfl, fun _ h => by cases h⟩
theorem OwnE.split (h : OwnE w H A n c css) (hn : 0 < n) : ∃ g, A = some ⟨g, 0, none⟩ ∧ H ≤ g := by
  rcases h.1.2 with ⟨hv, h0⟩ | ⟨g, cap, cur, hv, hb, _⟩
  · omega
  · injection hv with h1 h2 h3
    exact ⟨g, h1, hb⟩
theorem OwnE.lt (h : OwnE w H A n c css) : ∀ a, A = some a → a.block < w.heap.size := fun a ha => by
  subst ha; exact (World.ownsRow.lt h.1 _ rfl).2
theorem OwnE.ge (h : OwnE w H A n c css) : ∀ a, A = some a → H ≤ a.block := fun a ha => by
  subst ha; exact (World.ownsRow.lt h.1 _ rfl).1
end
theorem OwnE.at_ {w : World} {H g n c : Nat} {css : List (List Value)} (h : OwnE w H (some ⟨g, 0, none⟩) n c css) (j : Nat) (hj : j < n) (t : Nat) (ht : t < 9) : w.cell? ⟨g, j * 9 + t, none⟩ = (css.getD j [])[t]? := by
  rw [World.ownsRow.cellAt h.1 (j * 9 + t) (by have := Nat.mul_le_mul_right 9 (show j + 1 ≤ n from hj); omega)]
  exact flat9 css j t h.2.2 (by rw [h.2.1]; exact hj) ht
theorem OwnE.eat {w : World} {H g n c : Nat} {css : List (List Value)} (h : OwnE w H (some ⟨g, 0, none⟩) n c css) (j : Nat) (hj : j < n) {A1 : Option Addr} {n1 c1 : Nat} {A2 : Option Addr} {n2 c2 : Nat} {L : Int} {r s : Rf} (he : css.getD j [] = enC A1 n1 c1 A2 n2 c2 L r s) (o : Nat) (ho : o = j * 9) :
    EAt w g o A1 n1 c1 A2 n2 c2 L r s := by
  subst ho
  have k := h.at_ j hj
  rw [he] at k
  exact ⟨k 0 (by omega), k 1 (by omega), k 2 (by omega), k 3 (by omega), k 4 (by omega), k 5 (by omega), k 6 (by omega), k 7 (by omega), k 8 (by omega)⟩
/-- The blocks of an own row of bytes and an own row of entries are two. -/
theorem Own.ne_E {w : World} {H H' g n c m c' : Nat} {l : List UInt8} {A : Option Addr} {css : List (List Value)} (h : Own w H (some ⟨g, 0, none⟩) n c l) (h' : OwnE w H' A m c' css) : ∀ a, A = some a → a.block ≠ g := by
  intro a ha e
  subst ha
  rcases h'.1.2 with ⟨hv', _⟩ | ⟨g2, cap', cur', hv', _, hg', _⟩
  · cases hv'
  · injection hv' with h2 _ _
    injection h2 with h2
    subst h2
    dsimp only at e
    subst e
    exact h.ne_blk (T := 49) hg' (by decide) rfl
theorem Own.keptOE {w w' : World} {H H' : Nat} {A A' : Option Addr} {n c m c' : Nat} {l : List UInt8} {css : List (List Value)} (h : Own w H A n c l) (h' : OwnE w H' A' m c' css) (hg : w.grownBy w' (A'.map (·.block))) : Own w' H A n c l := by
  refine h.kept hg fun a ha e => ?_
  cases A' with
  | none => cases e
  | some a' =>
    simp only [Option.map_some, Option.some.injEq] at e
    subst ha
    rcases h.2 with ⟨hv, _⟩ | ⟨g, cap, cur, hv, _⟩
    · cases hv
    · injection hv with h1 _ _
      injection h1 with h1
      subst h1
      exact (h.ne_E h') a' rfl e.symm
theorem OwnE.keptB {w w' : World} {H H' : Nat} {A A' : Option Addr} {n c m c' : Nat} {l : List UInt8} {css : List (List Value)} (h : OwnE w H' A' m c' css) (h' : Own w H A n c l) (hg : w.grownBy w' (A.map (·.block))) : OwnE w' H' A' m c' css := by
  refine ⟨World.ownsRow.kept h.1 hg ?_, h.2⟩
  cases A' with
  | none => exact .inl rfl
  | some a' =>
    refine .inr fun e => ?_
    cases A with
    | none => cases e
    | some a =>
      have e2 : a'.block = a.block := by simpa [Value.ownBlock] using e
      rcases h'.2 with ⟨hv, _⟩ | ⟨g, cap, cur, hv, _⟩
      · cases hv
      · injection hv with h1 _ _
        injection h1 with h1
        subst h1
        exact (h'.ne_E h) a' rfl e2
theorem OwnE.keptBlk {w w' : World} {H' X : Nat} {A' : Option Addr} {m c' : Nat} {css : List (List Value)} {T : TypeId} {cs : Array Value} (h : OwnE w H' A' m c' css) (hX : Blk w X T cs) (hT : T ≠ 49) (hg : w.grownBy w' (some X)) : OwnE w' H' A' m c' css := by
  refine ⟨World.ownsRow.kept h.1 hg ?_, h.2⟩
  rcases h.1.2 with ⟨hv', _⟩ | ⟨g2, cap', cur', hv', _, hg', _⟩
  · injection hv' with h1 _ _; subst h1; exact .inl rfl
  · injection hv' with h2 _ _
    subst h2
    refine .inr fun e => ?_
    have e2 : g2 = X := by simpa [Value.ownBlock] using e
    subst e2
    have hX' : w.heap[g2]? = some (.cells cs T (0, 0)) := hX
    rw [hg'] at hX'
    injection hX' with hX'
    injection hX' with _ ht
    exact hT ht.symm
theorem OwnE.keepBlk {w w' : World} {H' X : Nat} {A' : Option Addr} {m c' : Nat} {css : List (List Value)} {T : TypeId} {cs : Array Value} (h : OwnE w H' A' m c' css) (hX : Blk w X T cs) (hT : T ≠ 49) (hg : w.grownBy w' (A'.map (·.block))) : Blk w' X T cs := by
  refine hX.keep_grown hg fun e => ?_
  cases A' with
  | none => cases e
  | some a =>
    simp only [Option.map_some, Option.some.injEq] at e
    rcases h.1.2 with ⟨hv, _⟩ | ⟨g, cap, cur, hv, _, hg', _⟩
    · cases hv
    · injection hv with h1 _ _
      injection h1 with h1
      subst h1
      dsimp only at e
      subst e
      have hX' : w.heap[X]? = some (.cells cs T (0, 0)) := hX
      rw [hg'] at hX'
      injection hX' with hX'
      injection hX' with _ ht
      exact hT ht.symm
/-- The cells of an entry whose key and value are the call's own. -/
def EC (w : World) (H : Nat) (cs : List Value) (x : Ent) : Prop := ∃ B1 n1 d1 B2 n2 d2, cs = enC B1 n1 d1 B2 n2 d2 x.len x.chain x.child ∧ Own w H B1 n1 d1 x.key ∧ Own w H B2 n2 d2 x.val
theorem EC.below {w w' : World} {H : Nat} {cs : List Value} {x : Ent} (h : EC w H cs x) (hb : Below w.heap.size w w') : EC w' H cs x := by
  obtain ⟨B1, n1, d1, B2, n2, d2, e, h1, h2⟩ := h
  exact ⟨B1, n1, d1, B2, n2, d2, e, h1.below hb, h2.below hb⟩
theorem EC.mono {w : World} {H H' : Nat} {cs : List Value} {x : Ent} (h : EC w H cs x) (hH : H' ≤ H) : EC w H' cs x := by
  obtain ⟨B1, n1, d1, B2, n2, d2, e, h1, h2⟩ := h
  exact ⟨B1, n1, d1, B2, n2, d2, e, h1.mono hH, h2.mono hH⟩
theorem EC.keptOE {w w' : World} {H H' : Nat} {A' : Option Addr} {m c' : Nat} {css : List (List Value)} {cs : List Value} {x : Ent} (h : EC w H cs x) (h' : OwnE w H' A' m c' css) (hg : w.grownBy w' (A'.map (·.block))) : EC w' H cs x := by
  obtain ⟨B1, n1, d1, B2, n2, d2, e, h1, h2⟩ := h
  exact ⟨B1, n1, d1, B2, n2, d2, e, h1.keptOE h' hg, h2.keptOE h' hg⟩
theorem EC.keptE {w w' : World} {H X : Nat} {T : TypeId} {bs : Array Value} {cs : List Value} {x : Ent} (h : EC w H cs x) (hX : Blk w X T bs) (hT : T ≠ 5) (hg : w.grownBy w' (some X)) : EC w' H cs x := by
  obtain ⟨B1, n1, d1, B2, n2, d2, e, h1, h2⟩ := h
  exact ⟨B1, n1, d1, B2, n2, d2, e, h1.keptE hX hT hg, h2.keptE hX hT hg⟩
/-- A row of entries, all of the call's own, the first n of es. -/
def OwnN (w : World) (H : Nat) (A : Option Addr) (n c : Nat) (es : List Ent) : Prop := ∃ css, OwnE w H A n c css ∧ ∀ j, j < n → EC w H (css.getD j []) (es.getD j ent0)
theorem OwnN.nil (w : World) (H : Nat) (es : List Ent) : OwnN w H none 0 0 es := ⟨[], OwnE.nil _ _, fun j hj => by omega⟩
theorem OwnN.below {w w' : World} {H : Nat} {A : Option Addr} {n c : Nat} {es : List Ent} (h : OwnN w H A n c es) (hb : Below w.heap.size w w') : OwnN w' H A n c es := by
  obtain ⟨css, h1, h2⟩ := h
  exact ⟨css, h1.below hb, fun j hj => (h2 j hj).below hb⟩
theorem OwnN.mono {w : World} {H H' : Nat} {A : Option Addr} {n c : Nat} {es : List Ent} (h : OwnN w H A n c es) (hH : H' ≤ H) : OwnN w H' A n c es := by
  obtain ⟨css, h1, h2⟩ := h
  exact ⟨css, h1.mono hH, fun j hj => (h2 j hj).mono hH⟩
theorem OwnN.cap {w : World} {H : Nat} {A : Option Addr} {n c : Nat} {es : List Ent} (h : OwnN w H A n c es) : n ≤ c ∧ c ≤ maxLen := by
  obtain ⟨css, h1, _⟩ := h
  exact h1.cap
theorem OwnN.keptE {w w' : World} {H X : Nat} {A : Option Addr} {n c : Nat} {es : List Ent} {T : TypeId} {bs : Array Value} (h : OwnN w H A n c es) (hX : Blk w X T bs) (hT : T ≠ 5) (hT2 : T ≠ 49) (hg : w.grownBy w' (some X)) : OwnN w' H A n c es := by
  obtain ⟨css, h1, h2⟩ := h
  exact ⟨css, h1.keptBlk hX hT2 hg, fun j hj => (h2 j hj).keptE hX hT hg⟩
theorem OwnN.rdl {w : World} {H : Nat} {A : Option Addr} {n c : Nat} {es : List Ent} (h : OwnN w H A n c es) (hl : n = es.length) : RdL w A n c es := by
  obtain ⟨css, h1, h2⟩ := h
  refine ⟨hl, h1.cap.1, h1.cap.2, fun h0 => ?_⟩
  obtain ⟨g, rfl, _⟩ := h1.split h0
  refine ⟨g, 0, rfl, fun j hj => ?_⟩
  obtain ⟨B1, n1, d1, B2, n2, d2, e, k1, k2⟩ := h2 j hj
  exact ⟨B1, n1, d1, B2, n2, d2, h1.eat j hj e _ (by omega), k1.rd, k2.rd⟩
/-- An entry is put behind. -/
theorem OwnN.push {w w3 : World} {H : Nat} {A A3 : Option Addr} {i c c3 : Nat} {es : List Ent} {css : List (List Value)} {cs : List Value} (h1 : OwnE w H A i c css) (h2 : ∀ j, j < i → EC w H (css.getD j []) (es.getD j ent0)) (hc : EC w H cs (es.getD i ent0))
    (h3 : OwnE w3 H A3 (i + 1) c3 (css ++ [cs])) (hg : w.grownBy w3 (A.map (·.block))) : OwnN w3 H A3 (i + 1) c3 es := by
  have hl := h1.2.1
  refine ⟨_, h3, fun j hj => ?_⟩
  by_cases e : j = i
  · subst e
    have : (css ++ [cs]).getD j [] = cs := by simp [List.getD, hl]
    rw [this]
    exact hc.keptOE h1 hg
  · have : (css ++ [cs]).getD j [] = css.getD j [] := by
      simp only [List.getD_eq_getElem?_getD]
      rw [List.getElem?_append_left (by omega)]
    rw [this]
    exact (h2 j (by omega)).keptOE h1 hg
/-- append of one entry, which lies in a block of its own: its run. -/
theorem run_appE (T ty : TypeId) (hT : Try.prog.underlying T = some (.slice 49)) {w : World} {H : Nat} {A : Option Addr} {n c : Nat} {css : List (List Value)} {g : Nat} {T' : TypeId} {cs : List Value}
    (h : OwnE w H A n c css) (hv : Blk w g T' cs.toArray) (h9 : cs.length = 9) (h1 : ∀ u ∈ cs, u.oneCell' = true) (hb : H ≤ w.heap.size) (hl : n ≤ 1000000) :
    ∃ A2 c2 w2, (Builtin.append_ #[T, T] ty #[.slice A n c, .slice (some ⟨g, 0, none⟩) 1 1]).run Try.prog w = .ok (.slice A2 (n + 1) c2) w2 ∧ OwnE w2 H A2 (n + 1) c2 (css ++ [cs]) ∧ w.grownBy w2 (A.map (·.block)) ∧ Below H w w2 := by
  obtain ⟨i0, hi, hz0, hz1, hz2⟩ := info_parts infoEn
  have hrow : Value.ownBlock (.slice A n c) = A.map (·.block) := by cases A <;> rfl
  obtain ⟨v', w2, hr, h2, h3, _⟩ := run_append_own (P := Try.prog) w H T ty 49 i0 _ 9 104 hT hi hz0 hz1 hz2 rfl (by decide) (.slice A n c) n css.flatten h.1 ⟨g, 0, none⟩ 1 1 cs (by rw [h9]) (fun j u hj => by
    rw [Addr.add_lit, Nat.zero_add, hv.cell j]
    simpa using hj) h1 (by unfold maxLen; omega) (by omega) hb
  obtain ⟨A2, c2, rfl⟩ := own_form h2
  refine ⟨A2, c2, w2, hr, ⟨by rw [List.flatten_append]; simpa using h2, by rw [List.length_append, h.2.1]; rfl, fun x hx => ?_⟩, by rw [← hrow]; exact h3, (Below.refl _ _).grown h3 hb fun k hk => (World.ownsRow.lt h.1 k hk).1⟩
  rcases List.mem_append.1 hx with hx | hx
  · exact h.2.2 x hx
  · rw [List.mem_singleton.1 hx]; exact h9
theorem wpList_appE (T : TypeId) (hT : Try.prog.underlying T = some (.slice 49)) {w : World} {ops : Array Oper} {rest : List Oper} {o : Oper} {a : Act} {Q : Exit → Act → World → Prop} (hgd : o.guard = none) (s x : Operand)
    (ho : o.op = .call { callee := .builtin .append, args := #[s, x], argTypes := #[T, T] }) {H : Nat} {A : Option Addr} {n c : Nat} {css : List (List Value)} {g : Nat} {T' : TypeId} {cs : List Value} (hs : a.eval s = .slice A n c) (hx : a.eval x = .slice (some ⟨g, 0, none⟩) 1 1)
    (h : OwnE w H A n c css) (hv : Blk w g T' cs.toArray) (h9 : cs.length = 9) (h1 : ∀ u ∈ cs, u.oneCell' = true) (hb : H ≤ w.heap.size) (hl : n ≤ 1000000)
    (K : ∀ A2 c2 w2, OwnE w2 H A2 (n + 1) c2 (css ++ [cs]) → w.grownBy w2 (A.map (·.block)) → Below H w w2 → wpList Try.prog ops Q rest (a.put o.dst (.slice A2 (n + 1) c2)) w2) : wpList Try.prog ops Q (o :: rest) a w := by
  obtain ⟨A2, c2, w2, hr, h2, h3, h4⟩ := run_appE T o.type hT h hv h9 h1 hb hl
  exact Lib.wpList_append_run w hgd s x T T ho _ _ hs hx _ _ hr (K A2 c2 w2 h2 h3 h4)
theorem step_appE (T : TypeId) (hT : Try.prog.underlying T = some (.slice 49)) {w : World} {ops : Array Oper} {o : Oper} {a : Act} {KK : Act → World → Prop} {Q : Exit → Act → World → Prop} {E : Prop} (hgd : o.guard = none) (s x : Operand)
    (ho : o.op = .call { callee := .builtin .append, args := #[s, x], argTypes := #[T, T] }) {H : Nat} {A : Option Addr} {n c : Nat} {css : List (List Value)} {g : Nat} {T' : TypeId} {cs : List Value} (hs : a.eval s = .slice A n c) (hx : a.eval x = .slice (some ⟨g, 0, none⟩) 1 1)
    (h : OwnE w H A n c css) (hv : Blk w g T' cs.toArray) (h9 : cs.length = 9) (h1 : ∀ u ∈ cs, u.oneCell' = true) (hb : H ≤ w.heap.size) (hl : n ≤ 1000000)
    (K : ∀ A2 c2 w2, OwnE w2 H A2 (n + 1) c2 (css ++ [cs]) → w.grownBy w2 (A.map (·.block)) → Below H w w2 → KK (a.put o.dst (.slice A2 (n + 1) c2)) w2) : if Region.wanted o (yielded ops a.tmps) = true then Oper.wp Try.prog o a w KK Q else E := by
  have hw : Region.wanted o (yielded ops a.tmps) = true := by simp [Region.wanted, hgd]
  rw [if_pos hw]
  obtain ⟨A2, c2, w2, hr, h2, h3, h4⟩ := run_appE T o.type hT h hv h9 h1 hb hl
  exact Lib.wp_append_run w s x T T ho _ _ hs hx _ _ hr (K A2 c2 w2 h2 h3 h4)
end Go.Proofs.Ytihbpmceggghgaa
