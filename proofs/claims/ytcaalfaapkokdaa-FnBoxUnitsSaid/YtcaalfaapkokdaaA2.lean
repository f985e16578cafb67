/- Part 2 of the lemmas that the claim rests on: an abstract machine over the model, what it is sound for, and the contracts of the functions that the law reaches. -/
import Derived.Test.YtcaalfaapkokdaaA1
import Derived.Test.YtcaalfaapkokdaaProg
import Derived.KernelRfl
set_option linter.unusedSimpArgs false
set_option linter.unusedVariables false
set_option maxRecDepth 100000
set_option maxRecDepth 20000
set_option maxHeartbeats 4000000
/- A nil slice in a cell, as an empty block of its own. -/
namespace Pf
open Go
variable {P : Program} {TT : TypeId → Option TI} {f N n0 : Nat} {k : List Item} {T : Env} {H : AHeap} {R : AV → AHeap → Prop}

/-- The cell 'c' of row 'r' of block 'b' holds no cells: from here on it is a slice of an empty block, at the heap's end. -/
theorem go_nilC (b r c : Nat) (blk : ABlk) {g : Nat} {rows rows1 : List (List AV)} {row row1 : List AV} {v : AV} {rowE : Nat → List AV} {H1 H2 : AHeap} (e0 : nthM H b = some (.lst g rows)) (er : nthM rows r = some row) (ec : nthM row c = some v) (en : isNil v = true)
    (eb : blk.view = some (0, 0, rowE)) (e1 : setM (.sl (lenM H) 0 0 0) row c = some row1) (e2 : setM row1 rows r = some rows1) (e3 : setM (.lst g rows1) H b = some H1) (e4 : appM H1 [blk] = some H2)
    (h : AGo P f N n0 k T H2 R) : AGo P f N n0 k T H R := by
  intro FM β bf cs a w a1 a2 a3 a4 hT hH hl
  rw [nthM_eq] at e0 er ec
  rw [setM_eq] at e1 e2 e3
  rw [appM_eq] at e4
  cases e4
  obtain ⟨hb, hbv⟩ := List.getElem?_eq_some_iff.1 e0
  obtain ⟨hr, hrv⟩ := List.getElem?_eq_some_iff.1 er
  obtain ⟨hc, hcv⟩ := List.getElem?_eq_some_iff.1 ec
  rw [if_pos hc] at e1
  rw [if_pos hr] at e2
  rw [if_pos hb] at e3
  cases e1; cases e2; cases e3
  simp only [lenM_eq] at *
  let β1 : BMap := fun b g => if b = H.length ∧ g = 0 then some none else β b g
  have hnone : ∀ g, β H.length g = none := by
    intro g
    cases hb : β H.length g with
    | none => rfl
    | some lo => have := (hH.dom _ _ _ hb).1; omega
  have hβ : ∀ b g lo, β b g = some lo → β1 b g = some lo := by
    intro b g lo hb
    simp only [β1]
    split
    · rename_i h1
      obtain ⟨rfl, rfl⟩ := h1
      rw [hnone] at hb; cases hb
    · exact hb
  have some1 : ∀ {i g : Nat} {L : Loc}, β1 i g = some (some L) → β i g = some (some L) := by
    intro i g L hi
    simp only [β1] at hi
    split at hi
    · cases hi
    · exact hi
  -- a block of the new heap, and what it was
  have get : ∀ {i : Nat} {bl : ABlk} {g' m : Nat} {rw1 : Nat → List AV}, ((H.set b (.lst g (rows.set r (row.set c (.sl H.length 0 0 0))))) ++ [blk])[i]? = some bl → bl.view = some (g', m, rw1) →
      (∃ bl0 rw0, i < H.length ∧ H[i]? = some bl0 ∧ bl0.view = some (g', m, rw0) ∧ bl.width = bl0.width ∧ (i ≠ b → rw1 = rw0) ∧ (i = b → rw0 = (fun i => rows.getD i []) ∧ rw1 = fun i => (rows.set r (row.set c (.sl H.length 0 0 0))).getD i [])) ∨ (i = H.length ∧ bl = blk) := by
    intro i bl g' m rw1 hi hv
    rcases Nat.lt_or_ge i H.length with h1 | h1
    · rw [List.getElem?_append_left (by simpa using h1), List.getElem?_set] at hi
      by_cases hib : b = i
      · subst hib
        rw [if_pos rfl, if_pos h1] at hi
        cases hi
        simp only [ABlk.view, Option.some.injEq, Prod.mk.injEq, List.length_set] at hv
        obtain ⟨rfl, rfl, rfl⟩ := hv
        refine .inl ⟨_, _, h1, e0, rfl, ?_, fun h => absurd rfl h, fun _ => ⟨rfl, rfl⟩⟩
        simp only [ABlk.width]
        by_cases h0 : r = 0
        · subst h0
          rw [← hrv]
          simp [List.getD_eq_getElem?_getD, hr]
        · simp [List.getD_eq_getElem?_getD, h0]
      · rw [if_neg hib] at hi
        exact .inl ⟨bl, rw1, h1, hi, hv, rfl, fun _ => rfl, fun h => absurd h.symm hib⟩
    · rw [List.getElem?_append_right (by simpa using h1)] at hi
      obtain ⟨h2, h3⟩ := List.getElem?_eq_some_iff.1 hi
      simp at h2
      have : i = H.length := by omega
      subst this
      simp at h3
      exact .inr ⟨rfl, h3.symm⟩
  have hcell : ∀ {cv : Value}, VR FM β v cv → VR FM β1 (.sl H.length 0 0 0) cv := by
    intro cv h0
    have hb : β1 H.length 0 = some none := by simp [β1]
    cases h0 with
    | nils => exact .sl0 hb fun L h => by cases h
    | e0 => exact .sl0 hb fun L h => by cases h
    | _ => cases en
  have hR : RelH FM β1 ((H.set b (.lst g (rows.set r (row.set c (.sl H.length 0 0 0))))) ++ [blk]) w := by
    refine ⟨?_, ?_, ?_, hH.fm, ?_⟩
    · intro i bl g' m rw1 h1 h2
      rcases get h1 h2 with ⟨bl0, rw0, hi, q1, q2, _, q3, q4⟩ | ⟨rfl, rfl⟩
      · obtain ⟨lo, p1, p2⟩ := hH.mem i bl0 g' m rw0 q1 q2
        refine ⟨lo, hβ _ _ _ p1, ?_⟩
        cases lo with
        | none => exact p2
        | some L =>
          have p2 : MemOk FM β w L m rw0 := p2
          by_cases hib : i = b
          · obtain ⟨rfl, rfl⟩ := q4 hib
            obtain ⟨cc, ee, fr, c1, c2, c3, c4, c5⟩ := p2.cells
            refine ⟨p2.sz, p2.sh, p2.fit, ⟨cc, ee, fr, c1, c2, c3, c4, fun r' hr1 hr2 => ?_⟩, p2.free⟩
            obtain ⟨k1, k2⟩ := c5 r' hr1 hr2
            by_cases hrr : r' = r
            · subst hrr
              have ea : rows.getD r' [] = row := by simp [List.getD_eq_getElem?_getD, er]
              have eb' : (rows.set r' (row.set c (.sl H.length 0 0 0))).getD r' [] = row.set c (.sl H.length 0 0 0) := by simp [List.getD_eq_getElem?_getD, hr]
              rw [ea] at k1
              refine ⟨by rw [eb']; simpa using k1, ?_⟩
              rw [eb']
              intro j hj
              obtain ⟨cv, k3, k4⟩ := k2 j (by rw [ea]; simpa using hj)
              refine ⟨cv, k3, ?_⟩
              have k4 : VR FM β (row[j]'(by simpa using hj)) cv := by
                have : ∀ {l : List AV} (e : l = row) (h1 : j < l.length), VR FM β l[j] cv → VR FM β (row[j]'(by simpa using hj)) cv := by rintro _ rfl _ h; exact h
                exact this ea _ k4
              by_cases hjc : c = j
              · subst hjc
                simp only [List.getElem_set_self]
                rw [hcv] at k4
                exact hcell k4
              · rw [List.getElem_set_ne hjc]
                exact k4.mono (fun _ _ _ h => h) hβ
            · have ea : (rows.set r (row.set c (.sl H.length 0 0 0))).getD r' [] = rows.getD r' [] := by
                simp [List.getD_eq_getElem?_getD, List.getElem?_set, Ne.symm hrr]
              refine ⟨by rw [ea]; exact k1, ?_⟩
              rw [ea]
              intro j hj
              obtain ⟨cv, k3, k4⟩ := k2 j hj
              exact ⟨cv, k3, k4.mono (fun _ _ _ h => h) hβ⟩
          · rw [q3 hib]
            exact p2.still rfl hβ
      · rw [eb] at h2; cases h2
        exact ⟨none, by simp [β1], rfl⟩
    · intro b1 b2 k1 k2 g1 g2 n1 n2 row1 row2 L1 L2 h1 h2 h3 h4 h5 h6 h7
      have q3 := some1 h3
      have q6 := some1 h6
      rcases get h1 h2 with ⟨x0, y0, _, x1, x2, _⟩ | ⟨rfl, rfl⟩
      · rcases get h4 h5 with ⟨x0', y0', _, x1', x2', _⟩ | ⟨rfl, rfl⟩
        · exact hH.inj b1 b2 x0 x0' g1 g2 n1 n2 y0 y0' L1 L2 x1 x2 q3 x1' x2' q6 h7
        · rw [hnone] at q6; cases q6
      · rw [hnone] at q3; cases q3
    · intro i bl g' m rw1 L h1 h2 h3
      have q3 := some1 h3
      rcases get h1 h2 with ⟨x0, y0, _, x1, x2, x3, _⟩ | ⟨rfl, rfl⟩
      · rw [x3]; exact hH.wid i x0 g' m y0 L x1 x2 q3
      · rw [hnone] at q3; cases q3
    · intro i g' lo hi
      simp only [β1] at hi
      split at hi
      · rename_i h1
        obtain ⟨rfl, rfl⟩ := h1
        exact ⟨by simp, fun _ _ _ _ _ _ => Nat.zero_le _⟩
      · obtain ⟨q1, q2⟩ := hH.dom i g' lo hi
        refine ⟨by simp; omega, fun bl g2 m rw1 h1 h2 => ?_⟩
        rcases get h1 h2 with ⟨x0, y0, _, x1, x2, _⟩ | ⟨rfl, rfl⟩
        · exact q2 x0 g2 m y0 x1 x2
        · omega
  obtain ⟨v', w', fr, av, FM', β', H', h1, h2, h3, h4, h5⟩ := h FM β1 bf cs a w a1 a2 a3 a4 (hT.mono (fun _ _ _ h => h) hβ) hR (by simp; omega)
  have himg : ∀ cb, cb < w.heap.size → Img β1 ((H.set b (.lst g (rows.set r (row.set c (.sl H.length 0 0 0))))) ++ [blk]) cb → Img β H cb := by
    intro cb _ hi
    obtain ⟨i, bl, g', m, rw1, L, q1, q2, q3, q4⟩ := hi
    have q3 := some1 q3
    rcases get q1 q2 with ⟨x0, y0, _, x1, x2, _⟩ | ⟨rfl, rfl⟩
    · exact ⟨i, x0, g', m, y0, L, x1, x2, q3, q4⟩
    · rw [hnone] at q3; cases q3
  have hx : ExtB n0 FM β H w FM β1 ((H.set b (.lst g (rows.set r (row.set c (.sl H.length 0 0 0))))) ++ [blk]) w := ⟨fun _ _ _ h => h, fun b g lo _ e => hβ b g lo e, Nat.le_refl _, himg, fun _ _ _ => rfl, fun _ _ _ h => .inl h, by simp; omega, rfl, rfl, rfl⟩
  exact ⟨v', w', fr, av, FM', β', H', h1, h2, h3, hx.trans h4, h5⟩

end Pf
/- Functions that make blocks of any kind, called with blocks at hand. -/
namespace Pf
open Go
variable {P : Program} {TT : TypeId → Option TI} {f N n0 : Nat} {k : List Item} {T : Env} {H : AHeap} {R : AV → AHeap → Prop}

/-- A block renumbered. -/
def shfB (d : Nat) : ABlk → ABlk
  | .lst g rows => .lst g (rows.map fun r => r.map (shf d))
  | .tab g n row => .tab g n fun i => (row i).map (shf d)
  | b => b
def flatLL : List (List AV) → Bool
  | [] => true
  | r :: rs => match flatL r with | true => flatLL rs | false => false
theorem flatLL_get : ∀ {rs : List (List AV)}, flatLL rs = true → ∀ i (h : i < rs.length), flatL rs[i] = true
  | r :: rs, h, i, hi => by
    simp only [flatLL] at h
    split at h
    · rename_i hr
      cases i with
      | zero => exact hr
      | succ i => exact flatLL_get h i (by simpa using hi)
    · cases h
/-- No function values, no boxes in a block. -/
def flatB : ABlk → Prop
  | .lst _ rows => flatLL rows = true
  | .tab _ n row => ∀ i, i < n → flatL (row i) = true
  | _ => True
def flatH : AHeap → Prop
  | [] => True
  | b :: bs => flatB b ∧ flatH bs
theorem flatH_get : ∀ {H : AHeap}, flatH H → ∀ {i : Nat} {blk : ABlk}, H[i]? = some blk → flatB blk
  | b :: bs, h, 0, blk, e => by simp at e; subst e; exact h.1
  | b :: bs, h, i + 1, blk, e => flatH_get h.2 (i := i) (by simpa using e)
  | [], h, i, blk, e => by simp at e
theorem shfB_view {d : Nat} {blk : ABlk} {g n : Nat} {row : Nat → List AV} (h : (shfB d blk).view = some (g, n, row)) :
    ∃ row0, blk.view = some (g, n, row0) ∧ (shfB d blk).width = blk.width ∧ ∀ i, i < n → row i = (row0 i).map (shf d) := by
  cases blk with
  | dead => cases h
  | lst g' rows =>
    simp only [shfB, ABlk.view, Option.some.injEq, Prod.mk.injEq, List.length_map] at h
    obtain ⟨rfl, rfl, rfl⟩ := h
    refine ⟨_, rfl, ?_, fun i hi => ?_⟩
    · simp only [shfB, ABlk.width, List.getD_eq_getElem?_getD, List.getElem?_map]
      cases rows[0]? with
      | none => rfl
      | some r => simp
    · simp [List.getD_eq_getElem?_getD, hi]
  | ints g' k l =>
    simp only [shfB, ABlk.view, Option.some.injEq, Prod.mk.injEq] at h
    obtain ⟨rfl, rfl, rfl⟩ := h
    exact ⟨_, rfl, rfl, fun i hi => rfl⟩
  | tab g' n' row' =>
    simp only [shfB, ABlk.view, Option.some.injEq, Prod.mk.injEq] at h
    obtain ⟨rfl, rfl, rfl⟩ := h
    exact ⟨_, rfl, by simp [shfB, ABlk.width], fun i hi => rfl⟩
theorem flatB_row {blk : ABlk} (h : flatB blk) {g n : Nat} {row : Nat → List AV} (hv : blk.view = some (g, n, row)) : ∀ i, i < n → flatL (row i) = true := by
  intro i hi
  cases blk with
  | dead => cases hv
  | lst g' rows =>
    simp only [ABlk.view, Option.some.injEq, Prod.mk.injEq] at hv
    obtain ⟨rfl, rfl, rfl⟩ := hv
    have := flatLL_get h i hi
    simpa [List.getD_eq_getElem?_getD, hi] using this
  | ints g' k l =>
    simp only [ABlk.view, Option.some.injEq, Prod.mk.injEq] at hv
    obtain ⟨rfl, rfl, rfl⟩ := hv
    rfl
  | tab g' n' row' =>
    simp only [ABlk.view, Option.some.injEq, Prod.mk.injEq] at hv
    obtain ⟨rfl, rfl, rfl⟩ := hv
    exact h i hi

/-- Blocks made: with others at hand, they come behind these. -/
theorem AFun.frame {args : List AV} {Q : AV → AHeap → Prop} (h : AFun P f args [] Q) (hc : cloL args = true) (hfl : ∀ u H2, Q u H2 → flat u = true ∧ flatH H2) (H : AHeap) :
    AFun P f args H fun v H1 => ∃ u H2, Q u H2 ∧ v = shf H.length u ∧ H1 = H ++ H2.map (shfB H.length) := by
  refine ⟨h.1, fun FM β cs w cargs hv hh => ?_⟩
  have h0 : RelH FM noB [] w := ⟨fun b blk g n row h => by simp at h, fun b b' blk blk' g g' n n' row row' L L' h => by simp at h, fun b blk g n row L h => by simp at h, hh.fm, fun b g lo h => by cases h⟩
  obtain ⟨v, w', fr, av, FM1, β1, H1, hQ, h1, h2, h3, h4, h5, h6⟩ := h.2 FM noB cs w cargs ⟨hv.1, fun i hi => (hv.2 i hi).clo (cloL_get hc i hi) noB⟩ h0
  obtain ⟨f1, f2⟩ := hfl _ _ hQ
  let β' : BMap := fun b g => if b < H.length then β b g else β1 (b - H.length) g
  have hlo : ∀ {b g : Nat}, b < H.length → β' b g = β b g := fun hb => by simp [β', hb]
  have hhi : ∀ b g, β' (b + H.length) g = β1 b g := fun b g => by simp [β', show ¬ b + H.length < H.length by omega]
  have hold : ∀ b g lo, β b g = some lo → β' b g = some lo := fun b g lo hb => by rw [hlo (hh.dom _ _ _ hb).1]; exact hb
  have img1 : ∀ cb, cb < w.heap.size → ¬ Img β1 H1 cb := fun cb hl hi => noImg cb (h3.img cb hl hi)
  have fm1 : ∀ cb o v, cb < w.heap.size → FM1 cb o = some v → FM cb o = some v := by
    intro cb o v hl hx
    rcases h3.fmn _ _ _ hx with hx | hx | hx
    · exact hx
    · omega
    · exact absurd hx (noImg cb)
  have get : ∀ {i : Nat} {bl : ABlk} {g n : Nat} {row : Nat → List AV}, (H ++ H1.map (shfB H.length))[i]? = some bl → bl.view = some (g, n, row) →
      (i < H.length ∧ H[i]? = some bl) ∨ (∃ j bl0 row0, i = j + H.length ∧ H1[j]? = some bl0 ∧ bl0.view = some (g, n, row0) ∧ bl.width = bl0.width ∧ (∀ r, r < n → row r = (row0 r).map (shf H.length)) ∧ ∀ r, r < n → flatL (row0 r) = true) := by
    intro i bl g n row hi hv
    rcases Nat.lt_or_ge i H.length with hl | hl
    · rw [List.getElem?_append_left hl] at hi; exact .inl ⟨hl, hi⟩
    · rw [List.getElem?_append_right hl, List.getElem?_map] at hi
      cases hb : H1[i - H.length]? with
      | none => rw [hb] at hi; cases hi
      | some bl0 =>
        rw [hb] at hi
        simp only [Option.map_some, Option.some.injEq] at hi
        subst hi
        obtain ⟨row0, q1, q2, q3⟩ := shfB_view hv
        exact .inr ⟨i - H.length, bl0, row0, by omega, hb, q1, q2, q3, flatB_row (flatH_get f2 hb) q1⟩
  have small : ∀ {b g : Nat} {blk : ABlk} {n : Nat} {row : Nat → List AV} {L : Loc}, H[b]? = some blk → blk.view = some (g, n, row) → β b g = some (some L) → L.cb < w.heap.size := by
    intro b g blk n row L q1 q2 q3
    obtain ⟨lo, p1, p2⟩ := hh.mem b blk g n row q1 q2
    rw [q3] at p1
    cases p1
    have p2 : MemOk FM β w L n row := p2
    obtain ⟨c, e, frr, c1, _⟩ := p2.cells
    rcases Nat.lt_or_ge L.cb w.heap.size with hl | hl
    · exact hl
    · rw [Array.getElem?_eq_none hl] at c1; cases c1
  have big : ∀ {b g : Nat} {blk : ABlk} {n : Nat} {row : Nat → List AV} {L : Loc}, H1[b]? = some blk → blk.view = some (g, n, row) → β1 b g = some (some L) → w.heap.size ≤ L.cb := by
    intro b g blk n row L q1 q2 q3
    rcases Nat.lt_or_ge L.cb w.heap.size with hl | hl
    · exact absurd ⟨b, blk, g, n, row, L, q1, q2, q3, rfl⟩ (img1 _ hl)
    · exact hl
  refine ⟨v, w', fr, shf H.length av, FM1, β', H ++ H1.map (shfB H.length), ⟨av, H1, hQ, rfl, rfl⟩, h1.shf hhi f1, ?_, ?_, h4, h5, h6⟩
  · refine ⟨?_, ?_, ?_, h2.fm, ?_⟩
    · intro i bl g n row q1 q2
      rcases get q1 q2 with ⟨hi, q1⟩ | ⟨j, bl0, row0, rfl, p1, p2, p3, p4, p5⟩
      · obtain ⟨lo, k1, k2⟩ := hh.mem i bl g n row q1 q2
        refine ⟨lo, by rw [hlo hi]; exact k1, ?_⟩
        cases lo with
        | none => exact k2
        | some L =>
          have k2 : MemOk FM β w L n row := k2
          obtain ⟨c, e, frr, c1, c2, c3, c4, c5⟩ := k2.cells
          have hlt := small q1 q2 k1
          refine ⟨k2.sz, k2.sh, k2.fit, ⟨c, e, frr, ?_, c2, c3, c4, fun r hr1 hr2 => ?_⟩, fun o => ?_⟩
          · rw [h3.frame _ hlt (noImg _)]; exact c1
          · obtain ⟨k3, k4⟩ := c5 r hr1 hr2
            refine ⟨k3, fun j hj => ?_⟩
            obtain ⟨cv, k5, k6⟩ := k4 j hj
            exact ⟨cv, k5, k6.mono h3.fm hold⟩
          · cases hx : FM1 L.cb o with
            | none => rfl
            | some v => have := fm1 _ _ _ hlt hx; rw [k2.free o] at this; cases this
      · obtain ⟨lo, k1, k2⟩ := h2.mem j bl0 g n row0 p1 p2
        refine ⟨lo, by rw [hhi]; exact k1, ?_⟩
        cases lo with
        | none => exact k2
        | some L =>
          have k2 : MemOk FM1 β1 w' L n row0 := k2
          obtain ⟨c, e, frr, c1, c2, c3, c4, c5⟩ := k2.cells
          refine ⟨k2.sz, k2.sh, k2.fit, ⟨c, e, frr, c1, c2, c3, c4, fun r hr1 hr2 => ?_⟩, k2.free⟩
          obtain ⟨k3, k4⟩ := c5 r hr1 hr2
          rw [p4 r hr2]
          refine ⟨by simpa using k3, fun j hj => ?_⟩
          obtain ⟨cv, k5, k6⟩ := k4 j (by simpa using hj)
          refine ⟨cv, k5, ?_⟩
          rw [List.getElem_map]
          exact k6.shf hhi (flatL_get (p5 r hr2) j (by simpa using hj))
    · intro b b' k1 k1' g g' n n' row row' L L' q1 q2 q3 q1' q2' q3' he
      rcases get q1 q2 with ⟨hi, p1⟩ | ⟨j, bl0, row0, rfl, p1, p2, _⟩
      · rcases get q1' q2' with ⟨hi', p1'⟩ | ⟨j', bl0', row0', rfl, p1', p2', _⟩
        · exact hh.inj b b' k1 k1' g g' n n' row row' L L' p1 q2 (by rw [← hlo hi]; exact q3) p1' q2' (by rw [← hlo hi']; exact q3') he
        · have a := small p1 q2 (by rw [← hlo hi]; exact q3)
          have c := big p1' p2' (by rw [← hhi]; exact q3')
          omega
      · rcases get q1' q2' with ⟨hi', p1'⟩ | ⟨j', bl0', row0', rfl, p1', p2', _⟩
        · have a := small p1' q2' (by rw [← hlo hi']; exact q3')
          have c := big p1 p2 (by rw [← hhi]; exact q3)
          omega
        · have := h2.inj j j' bl0 bl0' g g' n n' row0 row0' L L' p1 p2 (by rw [← hhi]; exact q3) p1' p2' (by rw [← hhi]; exact q3') he
          omega
    · intro b bl g n row L q1 q2 q3
      rcases get q1 q2 with ⟨hi, p1⟩ | ⟨j, bl0, row0, rfl, p1, p2, p3, _⟩
      · exact hh.wid b bl g n row L p1 q2 (by rw [← hlo hi]; exact q3)
      · rw [p3]; exact h2.wid j bl0 g n row0 L p1 p2 (by rw [← hhi]; exact q3)
    · intro b g lo q
      rcases Nat.lt_or_ge b H.length with hi | hi
      · rw [hlo hi] at q
        refine ⟨by simp; omega, fun bl g' n row q1 q2 => ?_⟩
        rcases get q1 q2 with ⟨_, p1⟩ | ⟨j, _, _, rfl, _⟩
        · exact (hh.dom b g lo q).2 bl g' n row p1 q2
        · omega
      · obtain ⟨j, rfl⟩ : ∃ j, b = j + H.length := ⟨b - H.length, by omega⟩
        rw [hhi] at q
        obtain ⟨d1, d2⟩ := h2.dom j g lo q
        refine ⟨by simp; omega, fun bl g' n row q1 q2 => ?_⟩
        rcases get q1 q2 with ⟨hlt, _⟩ | ⟨j', bl0, row0, he, p1, p2, _⟩
        · omega
        · have : j' = j := by omega
          subst this
          exact d2 bl0 g' n row0 p1 p2
  · refine ⟨h3.fm, hold, h3.size, fun cb hl i => ?_, fun cb hl hi => h3.frame cb hl (noImg cb), fun cb o v hx => ?_, by simp, h3.os, h3.output, h3.tape⟩
    · obtain ⟨b, bl, g, n, row, L, q1, q2, q3, q4⟩ := i
      rcases get q1 q2 with ⟨hi, p1⟩ | ⟨j, bl0, row0, rfl, p1, p2, _⟩
      · exact ⟨b, bl, g, n, row, L, p1, q2, by rw [← hlo hi]; exact q3, q4⟩
      · have := big p1 p2 (by rw [← hhi]; exact q3)
        omega
    · rcases Nat.lt_or_ge cb w.heap.size with hl | hl
      · exact .inl (fm1 _ _ _ hl hx)
      · exact .inr (.inl hl)

/-- A call of a function that makes blocks. -/
theorem go_callX {rs : List ResultVar} (W : Walk P TT f rs) (m n : Nat) {cs : List Prop} {g : FuncId} {args : List AV} {dst : Option Nat} {k' : List Item} {T' : Env} {H' : AHeap} {Q : AV → AHeap → Prop}
    (h : exec TT N rs m n [] k T H = .call cs g args dst k' T' H') (hc : AllC cs) (hcl : cloL args = true) (hq : AFun P g args [] Q) (hfl : ∀ u H2, Q u H2 → flat u = true ∧ flatH H2)
    (h1 : ∀ u H2, Q u H2 → ∃ T1 H1, dstM N dst (shf (lenM H') u) T' = some T1 ∧ appM H' (H2.map (shfB (lenM H'))) = some H1 ∧ AGo P f N n0 k' T1 H1 R) : AGo P f N n0 k T H R :=
  go_call W m n h hc (hq.frame hcl hfl H') fun v H1 ⟨u, H2, r1, r2, r3⟩ => by
    obtain ⟨T1, H1', q1, q2, q3⟩ := h1 u H2 r1
    rw [appM_eq] at q2
    rw [lenM_eq] at q1 q2
    cases q2
    subst r2; subst r3
    exact ⟨T1, q1, q3⟩

end Pf
/- The rules as they are used: the conditions are shown by one tactic, said here. -/
namespace Pf
open Go
variable {P : Program} {TT : TypeId → Option TI} {f N n0 : Nat} {k : List Item} {T : Env} {H : AHeap} {R : AV → AHeap → Prop} {rs : List ResultVar}

theorem wrapU (n : Int) : IntKind.u64.wrap n = n % 18446744073709551616 := by simp [IntKind.wrap, IntKind.bits, IntKind.signed]
theorem pw1 : (2 : Int) ^ 1 = 2 := rfl
theorem pw7 : (2 : Int) ^ 7 = 128 := rfl
theorem pw8 : (2 : Int) ^ 8 = 256 := rfl
theorem pw16 : (2 : Int) ^ 16 = 65536 := rfl
theorem pw23 : (2 : Int) ^ 23 = 8388608 := rfl
theorem pw32 : (2 : Int) ^ 32 = 4294967296 := rfl
theorem pw52 : (2 : Int) ^ 52 = 4503599627370496 := rfl

/-- Conditions that are so. -/
abbrev Holds (p : Prop) : Prop := p

theorem sp (W : Walk P TT f rs) (m : Nat) {cs : List Prop} {d : Nat} {p q : Prop} {k' : List Item} {T' T1 T2 : Env} {H' : AHeap} (h : exec TT N rs m 300 [] k T H = .split cs d p q k' T' H')
    (e1 : putM d (.bool true) T' = some T1) (e2 : putM d (.bool false) T' = some T2) (h1 : p → AGo P f N n0 k' T1 H' R) (h2 : q → AGo P f N n0 k' T2 H' R) (hc : AllC cs := by first | exact True.intro | (simp only [AllC, AllP, addN, Int.toNat_natCast, true_and, and_true, Option.getD, List.length_set, wrapU, pw1, pw7, pw8, pw16, pw23, pw32, pw52, Holds] <;> first | omega | ((repeat' apply And.intro) <;> first | omega | (intros; rfl))) | (simp [AllC, AllP, addN, cloL, clo, mrgL, mrg, wrapU, Holds] <;> omega)) : AGo P f N n0 k T H R :=
  go_split W m 300 h e1 e2 hc h1 h2
theorem ce (W : Walk P TT f rs) (m : Nat) {cs : List Prop} {g : FuncId} {args : List AV} {dst : Option Nat} {k' : List Item} {T' T1 : Env} {H' : AHeap} {u : AV}
    (h : exec TT N rs m 300 [] k T H = .call cs g args dst k' T' H') (hcl : cloL args = true) (hq : AFunP P g args (· = u)) (e : dstM N dst u T' = some T1) (h1 : AGo P f N n0 k' T1 H' R) (hc : AllC cs := by first | exact True.intro | (simp only [AllC, AllP, addN, Int.toNat_natCast, true_and, and_true, Option.getD, List.length_set, wrapU, pw1, pw7, pw8, pw16, pw23, pw32, pw52, Holds] <;> first | omega | ((repeat' apply And.intro) <;> first | omega | (intros; rfl))) | (simp [AllC, AllP, addN, cloL, clo, mrgL, mrg, wrapU, Holds] <;> omega)) : AGo P f N n0 k T H R :=
  go_callE W m 300 h hc hcl hq e h1
theorem cq (W : Walk P TT f rs) (m : Nat) {cs : List Prop} {g : FuncId} {args : List AV} {dst : Option Nat} {k' : List Item} {T' : Env} {H' : AHeap} {Q : AV → Prop}
    (h : exec TT N rs m 300 [] k T H = .call cs g args dst k' T' H') (hcl : cloL args = true) (hq : AFunP P g args Q) (h1 : ∀ v, Q v → ∃ T1, dstM N dst v T' = some T1 ∧ AGo P f N n0 k' T1 H' R) (hc : AllC cs := by first | exact True.intro | (simp only [AllC, AllP, addN, Int.toNat_natCast, true_and, and_true, Option.getD, List.length_set, wrapU, pw1, pw7, pw8, pw16, pw23, pw32, pw52, Holds] <;> first | omega | ((repeat' apply And.intro) <;> first | omega | (intros; rfl))) | (simp [AllC, AllP, addN, cloL, clo, mrgL, mrg, wrapU, Holds] <;> omega)) : AGo P f N n0 k T H R :=
  go_callQ W m 300 h hc hcl hq h1
theorem cx (W : Walk P TT f rs) (m : Nat) {cs : List Prop} {g : FuncId} {args : List AV} {dst : Option Nat} {k' : List Item} {T' : Env} {H' : AHeap} {Q : AV → AHeap → Prop}
    (h : exec TT N rs m 300 [] k T H = .call cs g args dst k' T' H') (hcl : cloL args = true) (hq : AFun P g args [] Q) (hfl : ∀ u H2, Q u H2 → flat u = true ∧ flatH H2)
    (h1 : ∀ u H2, Q u H2 → ∃ T1 H1, dstM N dst (shf (lenM H') u) T' = some T1 ∧ appM H' (H2.map (shfB (lenM H'))) = some H1 ∧ AGo P f N n0 k' T1 H1 R) (hc : AllC cs := by first | exact True.intro | (simp only [AllC, AllP, addN, Int.toNat_natCast, true_and, and_true, Option.getD, List.length_set, wrapU, pw1, pw7, pw8, pw16, pw23, pw32, pw52, Holds] <;> first | omega | ((repeat' apply And.intro) <;> first | omega | (intros; rfl))) | (simp [AllC, AllP, addN, cloL, clo, mrgL, mrg, wrapU, Holds] <;> omega)) : AGo P f N n0 k T H R :=
  go_callX W m 300 h hc hcl hq hfl h1
theorem cn (W : Walk P TT f rs) (m : Nat) {cs : List Prop} {g : FuncId} {args args' : List AV} {dst : Option Nat} {k' : List Item} {T' : Env} {H' : AHeap} {ss : List Prop} {Q : AV → AHeap → Prop}
    (h : exec TT N rs m 300 [] k T H = .call cs g args dst k' T' H') (e : mapF (frz (fun _ => true) H' 9) args = some (ss, args')) (hcl : cloL args' = true)
    (hq : AFunN P g args' Q) (h1 : ∀ u H2, Q u H2 → ∃ T1 H1, dstM N dst (shf (lenM H') u) T' = some T1 ∧ appM H' H2 = some H1 ∧ AGo P f N n0 k' T1 H1 R) (hc : AllC cs := by first | exact True.intro | (simp only [AllC, AllP, addN, Int.toNat_natCast, true_and, and_true, Option.getD, List.length_set, wrapU, pw1, pw7, pw8, pw16, pw23, pw32, pw52, Holds] <;> first | omega | ((repeat' apply And.intro) <;> first | omega | (intros; rfl))) | (simp [AllC, AllP, addN, cloL, clo, mrgL, mrg, wrapU, Holds] <;> omega)) (c1 : AllC ss := by first | exact True.intro | (simp only [AllC, AllP, addN, Int.toNat_natCast, true_and, and_true, Option.getD, List.length_set, wrapU, pw1, pw7, pw8, pw16, pw23, pw32, pw52, Holds] <;> first | omega | ((repeat' apply And.intro) <;> first | omega | (intros; rfl))) | (simp [AllC, AllP, addN, cloL, clo, mrgL, mrg, wrapU, Holds] <;> omega)) : AGo P f N n0 k T H R :=
  go_callN W m 300 h hc e c1 hcl hq h1
theorem cb (W : Walk P TT f rs) (m : Nat) {cs : List Prop} {g : FuncId} {args args' : List AV} {dst : Option Nat} {k' : List Item} {T' T1 : Env} {H' : AHeap} {ss : List Prop} {u : AV}
    (h : exec TT N rs m 300 [] k T H = .call cs g args dst k' T' H') (e : mapF (frz (fun _ => true) H' 9) args = some (ss, args')) (hcl : cloL args' = true) (hn : nofm u = true)
    (hq : AFunP P g args' (· = u)) (e2 : dstM N dst u T' = some T1) (h1 : AGo P f N n0 k' T1 H' R) (hc : AllC cs := by first | exact True.intro | (simp only [AllC, AllP, addN, Int.toNat_natCast, true_and, and_true, Option.getD, List.length_set, wrapU, pw1, pw7, pw8, pw16, pw23, pw32, pw52, Holds] <;> first | omega | ((repeat' apply And.intro) <;> first | omega | (intros; rfl))) | (simp [AllC, AllP, addN, cloL, clo, mrgL, mrg, wrapU, Holds] <;> omega)) (c1 : AllC ss := by first | exact True.intro | (simp only [AllC, AllP, addN, Int.toNat_natCast, true_and, and_true, Option.getD, List.length_set, wrapU, pw1, pw7, pw8, pw16, pw23, pw32, pw52, Holds] <;> first | omega | ((repeat' apply And.intro) <;> first | omega | (intros; rfl))) | (simp [AllC, AllP, addN, cloL, clo, mrgL, mrg, wrapU, Holds] <;> omega)) : AGo P f N n0 k T H R :=
  go_callB W m 300 h hc e c1 hcl hn hq e2 h1
theorem cm (W : Walk P TT f rs) (m : Nat) (ρ : List (Nat × Nat)) {cs : List Prop} {g : FuncId} {args args' : List AV} {dst : Option Nat} {k' : List Item} {T' : Env} {H' : AHeap} {blks : List ABlk} {Q : AV → List ABlk → Prop}
    (h : exec TT N rs m 300 [] k T H = .call cs g args dst k' T' H') (hq : AFunM P g args' blks Q) (hb : getAll ρ blks H') (hρ : distP ρ = true) (e : renL ρ args = some args') (hbc : bcloL blks = true)
    (h1 : ∀ u blks', Q u blks' → ∃ T1 H1, dstM N dst u T' = some T1 ∧ setAll ρ blks' H' = some H1 ∧ AGo P f N n0 k' T1 H1 R) (hc : AllC cs := by first | exact True.intro | (simp only [AllC, AllP, addN, Int.toNat_natCast, true_and, and_true, Option.getD, List.length_set, wrapU, pw1, pw7, pw8, pw16, pw23, pw32, pw52, Holds] <;> first | omega | ((repeat' apply And.intro) <;> first | omega | (intros; rfl))) | (simp [AllC, AllP, addN, cloL, clo, mrgL, mrg, wrapU, Holds] <;> omega)) : AGo P f N n0 k T H R :=
  go_callM W m 300 ρ h hc hq hb hρ e hbc h1
theorem cf (W : Walk P TT f rs) (m : Nat) (bs ds : List Nat) {cs : List Prop} {g : FuncId} {args args' : List AV} {dst : Option Nat} {k' : List Item} {T' T1 T2 T3 : Env} {H' H2 : AHeap}
    {ps qs ss : List Prop} {u : AV} (h : exec TT N rs m 300 [] k T H = .call cs g args dst k' T' H') (e1 : keepM T' ds = some T1) (e2 : frzT (memM bs) H' 9 T1 = some (ps, T2)) (e3 : frzH (memM bs) H' 9 0 H' = some (qs, H2))
    (e4 : mapF (frz (memM bs) H' 9) args = some (ss, args')) (e5 : cloL args' = true) (hq : AFunP P g args' (· = u)) (e : dstM N dst u T2 = some T3) (h1 : AGo P f N n0 k' T3 H2 R)
    (hc : AllC cs := by first | exact True.intro | (simp only [AllC, AllP, addN, Int.toNat_natCast, true_and, and_true, Option.getD, List.length_set, wrapU, pw1, pw7, pw8, pw16, pw23, pw32, pw52, Holds] <;> first | omega | ((repeat' apply And.intro) <;> first | omega | (intros; rfl))) | (simp [AllC, AllP, addN, cloL, clo, mrgL, mrg, wrapU, Holds] <;> omega)) (c1 : AllC ps := by first | exact True.intro | (simp only [AllC, AllP, addN, Int.toNat_natCast, true_and, and_true, Option.getD, List.length_set, wrapU, pw1, pw7, pw8, pw16, pw23, pw32, pw52, Holds] <;> first | omega | ((repeat' apply And.intro) <;> first | omega | (intros; rfl))) | (simp [AllC, AllP, addN, cloL, clo, mrgL, mrg, wrapU, Holds] <;> omega)) (c2 : AllC qs := by first | exact True.intro | (simp only [AllC, AllP, addN, Int.toNat_natCast, true_and, and_true, Option.getD, List.length_set, wrapU, pw1, pw7, pw8, pw16, pw23, pw32, pw52, Holds] <;> first | omega | ((repeat' apply And.intro) <;> first | omega | (intros; rfl))) | (simp [AllC, AllP, addN, cloL, clo, mrgL, mrg, wrapU, Holds] <;> omega)) (c3 : AllC ss := by first | exact True.intro | (simp only [AllC, AllP, addN, Int.toNat_natCast, true_and, and_true, Option.getD, List.length_set, wrapU, pw1, pw7, pw8, pw16, pw23, pw32, pw52, Holds] <;> first | omega | ((repeat' apply And.intro) <;> first | omega | (intros; rfl))) | (simp [AllC, AllP, addN, cloL, clo, mrgL, mrg, wrapU, Holds] <;> omega)) : AGo P f N n0 k T H R :=
  go_callF W m 300 bs ds h hc e1 e2 e3 e4 e5 c1 c2 c3 hq e h1
theorem cp (W : Walk P TT f rs) (m : Nat) (bs ds : List Nat) {cs : List Prop} {g : FuncId} {args args' : List AV} {dst : Option Nat} {k' : List Item} {T' T1 T2 : Env} {H' H2 : AHeap}
    {ps qs ss : List Prop} (h : exec TT N rs m 300 [] k T H = .call cs g args dst k' T' H') (e1 : keepM T' ds = some T1) (e2 : frzT (memM bs) H' 9 T1 = some (ps, T2)) (e3 : frzH (memM bs) H' 9 0 H' = some (qs, H2))
    (e4 : mapF (frz (memM bs) H' 9) args = some (ss, args')) (e5 : cloL args' = true) {Q : AV → Prop} (hq : AFunP P g args' Q)
    (h1 : ∀ v, Q v → ∃ T3, dstM N dst v T2 = some T3 ∧ AGo P f N n0 k' T3 H2 R) (hc : AllC cs := by first | exact True.intro | (simp only [AllC, AllP, addN, Int.toNat_natCast, true_and, and_true, Option.getD, List.length_set, wrapU, pw1, pw7, pw8, pw16, pw23, pw32, pw52, Holds] <;> first | omega | ((repeat' apply And.intro) <;> first | omega | (intros; rfl))) | (simp [AllC, AllP, addN, cloL, clo, mrgL, mrg, wrapU, Holds] <;> omega)) (c1 : AllC ps := by first | exact True.intro | (simp only [AllC, AllP, addN, Int.toNat_natCast, true_and, and_true, Option.getD, List.length_set, wrapU, pw1, pw7, pw8, pw16, pw23, pw32, pw52, Holds] <;> first | omega | ((repeat' apply And.intro) <;> first | omega | (intros; rfl))) | (simp [AllC, AllP, addN, cloL, clo, mrgL, mrg, wrapU, Holds] <;> omega)) (c2 : AllC qs := by first | exact True.intro | (simp only [AllC, AllP, addN, Int.toNat_natCast, true_and, and_true, Option.getD, List.length_set, wrapU, pw1, pw7, pw8, pw16, pw23, pw32, pw52, Holds] <;> first | omega | ((repeat' apply And.intro) <;> first | omega | (intros; rfl))) | (simp [AllC, AllP, addN, cloL, clo, mrgL, mrg, wrapU, Holds] <;> omega)) (c3 : AllC ss := by first | exact True.intro | (simp only [AllC, AllP, addN, Int.toNat_natCast, true_and, and_true, Option.getD, List.length_set, wrapU, pw1, pw7, pw8, pw16, pw23, pw32, pw52, Holds] <;> first | omega | ((repeat' apply And.intro) <;> first | omega | (intros; rfl))) | (simp [AllC, AllP, addN, cloL, clo, mrgL, mrg, wrapU, Holds] <;> omega)) : AGo P f N n0 k T H R :=
  go_callP W m 300 bs ds h e1 e2 e3 e4 e5 hc c1 c2 c3 hq h1
theorem rp (W : Walk P TT f rs) (m : Nat) {cs : List Prop} {v u spec : AV} {H' : AHeap} {ps : List Prop} (h : exec TT N rs m 300 [] k T H = .ret cs v H')
    (hf : frz (fun _ => true) H' 9 v = some (ps, u)) (hcl : clo spec = true) (hs : Sub u spec) (hc : AllC cs := by first | exact True.intro | (simp only [AllC, AllP, addN, Int.toNat_natCast, true_and, and_true, Option.getD, List.length_set, wrapU, pw1, pw7, pw8, pw16, pw23, pw32, pw52, Holds] <;> first | omega | ((repeat' apply And.intro) <;> first | omega | (intros; rfl))) | (simp [AllC, AllP, addN, cloL, clo, mrgL, mrg, wrapU, Holds] <;> omega)) (hp : AllC ps := by first | exact True.intro | (simp only [AllC, AllP, addN, Int.toNat_natCast, true_and, and_true, Option.getD, List.length_set, wrapU, pw1, pw7, pw8, pw16, pw23, pw32, pw52, Holds] <;> first | omega | ((repeat' apply And.intro) <;> first | omega | (intros; rfl))) | (simp [AllC, AllP, addN, cloL, clo, mrgL, mrg, wrapU, Holds] <;> omega)) : AGo P f N n0 k T H (Pure (· = spec)) :=
  go_retP W m 300 h hc hf hp hcl hs
theorem rq (W : Walk P TT f rs) (m : Nat) {Q : AV → Prop} {cs : List Prop} {v u : AV} {H' : AHeap} {ps : List Prop} (h : exec TT N rs m 300 [] k T H = .ret cs v H')
    (hf : frz (fun _ => true) H' 9 v = some (ps, u)) (spec : AV) (hq : Q spec) (hcl : clo spec = true) (hs : Sub u spec) (hc : AllC cs := by first | exact True.intro | (simp only [AllC, AllP, addN, Int.toNat_natCast, true_and, and_true, Option.getD, List.length_set, wrapU, pw1, pw7, pw8, pw16, pw23, pw32, pw52, Holds] <;> first | omega | ((repeat' apply And.intro) <;> first | omega | (intros; rfl))) | (simp [AllC, AllP, addN, cloL, clo, mrgL, mrg, wrapU, Holds] <;> omega)) (hp : AllC ps := by first | exact True.intro | (simp only [AllC, AllP, addN, Int.toNat_natCast, true_and, and_true, Option.getD, List.length_set, wrapU, pw1, pw7, pw8, pw16, pw23, pw32, pw52, Holds] <;> first | omega | ((repeat' apply And.intro) <;> first | omega | (intros; rfl))) | (simp [AllC, AllP, addN, cloL, clo, mrgL, mrg, wrapU, Holds] <;> omega)) : AGo P f N n0 k T H (Pure Q) :=
  go_retQ W m 300 h hc hf hp spec hq hcl hs
theorem rg (W : Walk P TT f rs) (m : Nat) {cs : List Prop} {v : AV} {H' : AHeap} (h : exec TT N rs m 300 [] k T H = .ret cs v H') (hr : R v H') (hc : AllC cs := by first | exact True.intro | (simp only [AllC, AllP, addN, Int.toNat_natCast, true_and, and_true, Option.getD, List.length_set, wrapU, pw1, pw7, pw8, pw16, pw23, pw32, pw52, Holds] <;> first | omega | ((repeat' apply And.intro) <;> first | omega | (intros; rfl))) | (simp [AllC, AllP, addN, cloL, clo, mrgL, mrg, wrapU, Holds] <;> omega)) : AGo P f N n0 k T H R :=
  go_ret W m 300 h hc hr
theorem rn (W : Walk P TT f rs) (m : Nat) {Q : AV → AHeap → Prop} {cs : List Prop} {v u : AV} {H' : AHeap} {ps : List Prop} {bs : List NewB} (h : exec TT N rs m 300 [] k T H = .ret cs v H')
    (hf : can H' 9 0 v = some (ps, u, bs)) (hd : distM bs = true) (spec : AV) (hfl : flat spec = true) (hs : Sub u spec) (hq : Q spec (blksM bs)) (hc : AllC cs := by first | exact True.intro | (simp only [AllC, AllP, addN, Int.toNat_natCast, true_and, and_true, Option.getD, List.length_set, wrapU, pw1, pw7, pw8, pw16, pw23, pw32, pw52, Holds] <;> first | omega | ((repeat' apply And.intro) <;> first | omega | (intros; rfl))) | (simp [AllC, AllP, addN, cloL, clo, mrgL, mrg, wrapU, Holds] <;> omega)) (hp : AllC ps := by first | exact True.intro | (simp only [AllC, AllP, addN, Int.toNat_natCast, true_and, and_true, Option.getD, List.length_set, wrapU, pw1, pw7, pw8, pw16, pw23, pw32, pw52, Holds] <;> first | omega | ((repeat' apply And.intro) <;> first | omega | (intros; rfl))) | (simp [AllC, AllP, addN, cloL, clo, mrgL, mrg, wrapU, Holds] <;> omega)) : AGo P f N n0 k T H (New Q) :=
  go_retN W m 300 h hc hf hp hd spec hfl hs hq
theorem rm (W : Walk P TT f rs) (m : Nat) (blks : List ABlk) {nb : Nat} {Q : AV → List ABlk → Prop} {cs : List Prop} {v u : AV} {H' H2 : AHeap} {ps qs : List Prop} (h : exec TT N rs m 300 [] k T H = .ret cs v H')
    (hf : frz (geM nb) H' 9 v = some (ps, u)) (hh : frzH (geM nb) H' 9 0 H' = some (qs, H2)) (hb : firstM H2 blks) (hbc : bcloL blks = true) (hl : blks.length = nb)
    (spec : AV) (hcl : clo spec = true) (hs : Sub u spec) (hQ : Q spec blks) (hc : AllC cs := by first | exact True.intro | (simp only [AllC, AllP, addN, Int.toNat_natCast, true_and, and_true, Option.getD, List.length_set, wrapU, pw1, pw7, pw8, pw16, pw23, pw32, pw52, Holds] <;> first | omega | ((repeat' apply And.intro) <;> first | omega | (intros; rfl))) | (simp [AllC, AllP, addN, cloL, clo, mrgL, mrg, wrapU, Holds] <;> omega)) (hp : AllC ps := by first | exact True.intro | (simp only [AllC, AllP, addN, Int.toNat_natCast, true_and, and_true, Option.getD, List.length_set, wrapU, pw1, pw7, pw8, pw16, pw23, pw32, pw52, Holds] <;> first | omega | ((repeat' apply And.intro) <;> first | omega | (intros; rfl))) | (simp [AllC, AllP, addN, cloL, clo, mrgL, mrg, wrapU, Holds] <;> omega)) (hq : AllC qs := by first | exact True.intro | (simp only [AllC, AllP, addN, Int.toNat_natCast, true_and, and_true, Option.getD, List.length_set, wrapU, pw1, pw7, pw8, pw16, pw23, pw32, pw52, Holds] <;> first | omega | ((repeat' apply And.intro) <;> first | omega | (intros; rfl))) | (simp [AllC, AllP, addN, cloL, clo, mrgL, mrg, wrapU, Holds] <;> omega)) : AGo P f N n0 k T H (Writes nb Q) :=
  go_retM W m 300 h hc hf hp hh hq hb hbc hl spec hcl hs hQ
theorem bk (W : Walk P TT f rs) (m : Nat) (ds : List Nat) {cs : List Prop} {c : Code} {k' : List Item} {T' T1 : Env} {H' : AHeap} (h : exec TT N rs m 300 [] k T H = .back cs c k' T' H')
    (hk : keepM T' ds = some T1) (h1 : AGo P f N n0 (.inLoop c :: k') T1 H' R) (hc : AllC cs := by first | exact True.intro | (simp only [AllC, AllP, addN, Int.toNat_natCast, true_and, and_true, Option.getD, List.length_set, wrapU, pw1, pw7, pw8, pw16, pw23, pw32, pw52, Holds] <;> first | omega | ((repeat' apply And.intro) <;> first | omega | (intros; rfl))) | (simp [AllC, AllP, addN, cloL, clo, mrgL, mrg, wrapU, Holds] <;> omega)) : AGo P f N n0 k T H R :=
  go_back W m 300 h hk hc h1
theorem bd (W : Walk P TT f rs) (m nb : Nat) (ds : List Nat) {cs qs : List Prop} {c : Code} {k' : List Item} {T' T1 : Env} {H' H1 : AHeap} (h : exec TT N rs m 300 [] k T H = .back cs c k' T' H')
    (hk : keepM T' ds = some T1) (e2 : beloT nb T1 = true) (e3 : dropM nb nb H' = some (qs, H1)) (hn : Nat.ble n0 nb = true) (h1 : AGo P f N n0 (.inLoop c :: k') T1 H1 R) (hc : AllC cs := by first | exact True.intro | (simp only [AllC, AllP, addN, Int.toNat_natCast, true_and, and_true, Option.getD, List.length_set, wrapU, pw1, pw7, pw8, pw16, pw23, pw32, pw52, Holds] <;> first | omega | ((repeat' apply And.intro) <;> first | omega | (intros; rfl))) | (simp [AllC, AllP, addN, cloL, clo, mrgL, mrg, wrapU, Holds] <;> omega)) (hq : AllC qs := by simp only [AllC, true_and, and_true] <;> first | exact True.intro | (intros; rfl) | (refine ⟨?_, ?_⟩ <;> intros <;> rfl)) : AGo P f N n0 k T H R :=
  go_backD W m 300 nb ds h hk e2 e3 hn hc hq h1
theorem atl (W : Walk P TT f rs) {cs : List Prop} {k' : List Item} {T' : Env} {H' : AHeap} (h : exec TT N rs 6 300 [] k T H = .stop cs k' T' H') (h1 : AGo P f N n0 k' T' H' R) (hc : AllC cs := by first | exact True.intro | (simp only [AllC, AllP, addN, Int.toNat_natCast, true_and, and_true, Option.getD, List.length_set, wrapU, pw1, pw7, pw8, pw16, pw23, pw32, pw52, Holds] <;> first | omega | ((repeat' apply And.intro) <;> first | omega | (intros; rfl))) | (simp [AllC, AllP, addN, cloL, clo, mrgL, mrg, wrapU, Holds] <;> omega)) : AGo P f N n0 k T H R :=
  go_stop W 6 300 h hc h1
theorem lp (W : Walk P TT f rs) (m : Nat) {σ : Type} (Inv : σ → Env) (Hp : σ → AHeap) (mu : σ → Nat) (ok : σ → Prop) (s0 : σ) (ds : List Nat) {cs : List Prop} {c : Code} {k' : List Item} {T' : Env} {H' : AHeap}
    (h : exec TT N rs m 300 [] k T H = .loop cs c k' T' H') (hk : keepM T' ds = some (Inv s0)) (hH : H' = Hp s0) (h0 : ok s0)
    (hs : ∀ s, ok s → (∀ s', ok s' → mu s' < mu s → AGo P f N n0 (.inLoop c :: k') (Inv s') (Hp s') R) → AGo P f N n0 (.code c :: .inLoop c :: k') (Inv s) (Hp s) R) (hc : AllC cs := by first | exact True.intro | (simp only [AllC, AllP, addN, Int.toNat_natCast, true_and, and_true, Option.getD, List.length_set, wrapU, pw1, pw7, pw8, pw16, pw23, pw32, pw52, Holds] <;> first | omega | ((repeat' apply And.intro) <;> first | omega | (intros; rfl))) | (simp [AllC, AllP, addN, cloL, clo, mrgL, mrg, wrapU, Holds] <;> omega)) : AGo P f N n0 k T H R :=
  go_loop W m 300 Inv Hp mu ok s0 ds h hk hH hc h0 hs
theorem dre (W : Walk P TT f rs) (m nf : Nat) (hs : List (Nat × Bool)) (us : List AV) {cs : List Prop} {id : Nat} {ops : Array Oper} {k' : List Item} {T' T2 : Env} {H' : AHeap} {ps : List Prop} {cl : List CallM}
    {vs : List (Option Nat × AV)} (h : exec TT N rs m 300 [] k T H = .draw cs (.code (.region id ops true) :: k') T' H')
    (hd : drawM TT (modeM m) ops.toList (dropD (dstsM nf ops.toList) T') H' hs nf 0 [] us = some (ps, cl, vs))
    (hst : (backAll 0 ops.toList && lastAll ops.toList (lenM ops.toList - nf) nf && Nat.ble nf (lenM ops.toList) && distD (dstsM nf ops.toList) && allLt N (dstsM nf ops.toList)) = true)
    (hcl : AllCalls P H' cl) (e : TS (fun _ => true) 0 vs T' = T2) (h1 : AGo P f N n0 (.inRegion ops (upFrom nf (lenM ops.toList - nf)) :: k') T2 H' R) (hc : AllC cs := by first | exact True.intro | (simp only [AllC, AllP, addN, Int.toNat_natCast, true_and, and_true, Option.getD, List.length_set, wrapU, pw1, pw7, pw8, pw16, pw23, pw32, pw52, Holds] <;> first | omega | ((repeat' apply And.intro) <;> first | omega | (intros; rfl))) | (simp [AllC, AllP, addN, cloL, clo, mrgL, mrg, wrapU, Holds] <;> omega)) (hp : AllP ps := by first | exact True.intro | (simp only [AllC, AllP, addN, Int.toNat_natCast, true_and, and_true, Option.getD, List.length_set, wrapU, pw1, pw7, pw8, pw16, pw23, pw32, pw52, Holds] <;> first | omega | ((repeat' apply And.intro) <;> first | omega | (intros; rfl))) | (simp [AllC, AllP, addN, cloL, clo, mrgL, mrg, wrapU, Holds] <;> omega)) : AGo P f N n0 k T H R :=
  go_draw W m 300 h hc (go_drawE W (modeM m) 300 nf hs us (cs := []) (id := id) rfl trivial hd hst hp hcl e h1)
theorem phg (W : Walk P TT f rs) (m nf : Nat) (pend : List Nat) {cs : List Prop} {id : Nat} {ops : Array Oper} {k' : List Item} {T' : Env} {H' : AHeap} (h : exec TT N rs m 300 [] k T H = .draw cs (.code (.region id ops true) :: k') T' H')
    (hst : (stM ops N nf && ltAll (lenM ops.toList) pend) = true) (h1 : PW P TT N ops nf → Ph1 P f N n0 nf ops k' T' R [] pend (upFrom 0 nf) (dstsM nf ops.toList) H') (hc : AllC cs := by first | exact True.intro | (simp only [AllC, AllP, addN, Int.toNat_natCast, true_and, and_true, Option.getD, List.length_set, wrapU, pw1, pw7, pw8, pw16, pw23, pw32, pw52, Holds] <;> first | omega | ((repeat' apply And.intro) <;> first | omega | (intros; rfl))) | (simp [AllC, AllP, addN, cloL, clo, mrgL, mrg, wrapU, Holds] <;> omega)) : AGo P f N n0 k T H R :=
  go_ph W m 300 nf pend h hc hst h1
variable {nf : Nat} {ops : Array Oper} {past op pend' : List Nat} {vin ws vs' : List (Option Nat × AV)} {ps : List Prop} {cl : List CallM}
theorem pho (W : PW P TT N ops nf) (m e : Nat) (hs : List (Nat × Bool)) (us : List AV) {d : Option Nat} {C : Prop} {v : AV} {H1 : AHeap}
    (hd : phM TT m ops.toList (dropD (dstsM nf ops.toList) T) H hs past (needsAll ops.toList past []) (e :: pend') op vin nf 0 [] us = some (ps, cl, ws)) (hch : (chainM ops.toList nf e pend' && subM (e :: pend') op) = true) (hcl : AllCalls P H cl)
    (he : effM TT m ops.toList (dropD (dstsM nf ops.toList) T) ws H e = some (d, C, v, H1)) (hset : setM (d, v) ws e = some vs') (next : Ph1 P f N n0 nf ops k T R (e :: past) pend' (e :: pend') vs' H1) (hp : AllP ps := by first | exact True.intro | (simp only [AllC, AllP, addN, Int.toNat_natCast, true_and, and_true, Option.getD, List.length_set, wrapU, pw1, pw7, pw8, pw16, pw23, pw32, pw52, Holds] <;> first | omega | ((repeat' apply And.intro) <;> first | omega | (intros; rfl))) | (simp [AllC, AllP, addN, cloL, clo, mrgL, mrg, wrapU, Holds] <;> omega)) (hC : Holds C := by first | exact True.intro | (simp only [AllC, AllP, addN, Int.toNat_natCast, true_and, and_true, Option.getD, List.length_set, wrapU, pw1, pw7, pw8, pw16, pw23, pw32, pw52, Holds] <;> first | omega | ((repeat' apply And.intro) <;> first | omega | (intros; rfl))) | (simp [AllC, AllP, addN, cloL, clo, mrgL, mrg, wrapU, Holds] <;> omega)) : Ph1 P f N n0 nf ops k T R past (e :: pend') op vin H :=
  ph_op W m e hs us hd hch hp hcl he hC hset next
theorem phm (W : PW P TT N ops nf) (m e : Nat) (ρ : List (Nat × Nat)) (hs : List (Nat × Bool)) (us : List AV) {d : Option Nat} {g : FuncId} {args args' : List AV} {blks : List ABlk} {Q : AV → List ABlk → Prop}
    (hd : phM TT m ops.toList (dropD (dstsM nf ops.toList) T) H hs past (needsAll ops.toList past []) (e :: pend') op vin nf 0 [] us = some (ps, cl, ws)) (hch : (chainM ops.toList nf e pend' && subM (e :: pend') op) = true) (hcl : AllCalls P H cl)
    (he : effC ops.toList (dropD (dstsM nf ops.toList) T) ws e = some (d, g, args)) (hq : AFunM P g args' blks Q) (hb : getAll ρ blks H) (hρ : distP ρ = true) (er : renL ρ args = some args') (hbc : bcloL blks = true)
    (next : ∀ u blks', Q u blks' → ∃ vs' H1, setM (d, u) ws e = some vs' ∧ setAll ρ blks' H = some H1 ∧ Ph1 P f N n0 nf ops k T R (e :: past) pend' (e :: pend') vs' H1) (hp : AllP ps := by first | exact True.intro | (simp only [AllC, AllP, addN, Int.toNat_natCast, true_and, and_true, Option.getD, List.length_set, wrapU, pw1, pw7, pw8, pw16, pw23, pw32, pw52, Holds] <;> first | omega | ((repeat' apply And.intro) <;> first | omega | (intros; rfl))) | (simp [AllC, AllP, addN, cloL, clo, mrgL, mrg, wrapU, Holds] <;> omega)) : Ph1 P f N n0 nf ops k T R past (e :: pend') op vin H :=
  ph_callM W m e ρ hs us hd hch hp hcl he hq hb hρ er hbc next
/-- ... that touches nothing, of which is told what Q says. -/
theorem phq (W : PW P TT N ops nf) (m e : Nat) (hs : List (Nat × Bool)) (us : List AV) {d : Option Nat} {g : FuncId} {args : List AV} {Q : AV → Prop}
    (hd : phM TT m ops.toList (dropD (dstsM nf ops.toList) T) H hs past (needsAll ops.toList past []) (e :: pend') op vin nf 0 [] us = some (ps, cl, ws)) (hch : (chainM ops.toList nf e pend' && subM (e :: pend') op) = true) (hcl : AllCalls P H cl)
    (he : effC ops.toList (dropD (dstsM nf ops.toList) T) ws e = some (d, g, args)) (hq : AFunP P g args Q) (hclo : cloL args = true)
    (next : ∀ u, Q u → ∃ vs', setM (d, u) ws e = some vs' ∧ Ph1 P f N n0 nf ops k T R (e :: past) pend' (e :: pend') vs' H) (hp : AllP ps := by first | exact True.intro | (simp only [AllC, AllP, addN, Int.toNat_natCast, true_and, and_true, Option.getD, List.length_set, wrapU, pw1, pw7, pw8, pw16, pw23, pw32, pw52, Holds] <;> first | omega | ((repeat' apply And.intro) <;> first | omega | (intros; rfl))) | (simp [AllC, AllP, addN, cloL, clo, mrgL, mrg, wrapU, Holds] <;> omega)) : Ph1 P f N n0 nf ops k T R past (e :: pend') op vin H :=
  ph_call W m e hs us hd hch hp hcl he (hq.at hclo H) fun u H1 ⟨e1, hQ⟩ => by subst e1; exact next u hQ
theorem phe (W : PW P TT N ops nf) (m : Nat) (hs : List (Nat × Bool)) (us : List AV) {T2 : Env}
    (hd : phM TT m ops.toList (dropD (dstsM nf ops.toList) T) H hs past (needsAll ops.toList past []) [] op vin nf 0 [] us = some (ps, cl, ws)) (hcl : AllCalls P H cl) (e : TS (fun _ => true) 0 ws T = T2)
    (h1 : AGo P f N n0 (.inRegion ops (upFrom nf (lenM ops.toList - nf)) :: k) T2 H R) (hp : AllP ps := by first | exact True.intro | (simp only [AllC, AllP, addN, Int.toNat_natCast, true_and, and_true, Option.getD, List.length_set, wrapU, pw1, pw7, pw8, pw16, pw23, pw32, pw52, Holds] <;> first | omega | ((repeat' apply And.intro) <;> first | omega | (intros; rfl))) | (simp [AllC, AllP, addN, cloL, clo, mrgL, mrg, wrapU, Holds] <;> omega)) : Ph1 P f N n0 nf ops k T R past [] op vin H :=
  ph_end W m hs us hd hp hcl e h1

/-- Two effects that come in either order: one operation each. -/
theorem phf (W : PW P TT N ops nf) (m e1 e2 : Nat) (hs : List (Nat × Bool)) (us : List AV) {vs1 vs2 : List (Option Nat × AV)} {d1 d2 : Option Nat} {C1 C2 : Prop} {v1 v2 : AV} {H1 H2 : AHeap}
    (hd : phM TT m ops.toList (dropD (dstsM nf ops.toList) T) H hs past (needsAll ops.toList past []) (e1 :: e2 :: pend') op vin nf 0 [] us = some (ps, cl, ws))
    (hch : (chainM ops.toList nf e1 pend' && chainM ops.toList nf e2 pend' && subM (e1 :: e2 :: pend') op && Nat.blt e1 e2) = true) (hcl : AllCalls P H cl)
    (he1 : effM TT m ops.toList (dropD (dstsM nf ops.toList) T) ws H e1 = some (d1, C1, v1, H1)) (hset1 : setM (d1, v1) ws e1 = some vs1)
    (he2 : effM TT m ops.toList (dropD (dstsM nf ops.toList) T) ws H e2 = some (d2, C2, v2, H2)) (hset2 : setM (d2, v2) ws e2 = some vs2)
    (next1 : Ph1 P f N n0 nf ops k T R (e1 :: past) (e2 :: pend') (e1 :: e2 :: pend') vs1 H1) (next2 : Ph1 P f N n0 nf ops k T R (e2 :: past) (e1 :: pend') (e1 :: e2 :: pend') vs2 H2)
    (hp : AllP ps := by first | exact True.intro | (simp only [AllC, AllP, addN, Int.toNat_natCast, true_and, and_true, Option.getD, List.length_set, wrapU, pw1, pw7, pw8, pw16, pw23, pw32, pw52, Holds] <;> first | omega | ((repeat' apply And.intro) <;> first | omega | (intros; rfl))) | (simp [AllC, AllP, addN, cloL, clo, mrgL, mrg, wrapU, Holds] <;> omega)) (hC1 : Holds C1 := by first | exact True.intro | (simp only [AllC, AllP, addN, Int.toNat_natCast, true_and, and_true, Option.getD, List.length_set, wrapU, pw1, pw7, pw8, pw16, pw23, pw32, pw52, Holds] <;> first | omega | ((repeat' apply And.intro) <;> first | omega | (intros; rfl))) | (simp [AllC, AllP, addN, cloL, clo, mrgL, mrg, wrapU, Holds] <;> omega)) (hC2 : Holds C2 := by first | exact True.intro | (simp only [AllC, AllP, addN, Int.toNat_natCast, true_and, and_true, Option.getD, List.length_set, wrapU, pw1, pw7, pw8, pw16, pw23, pw32, pw52, Holds] <;> first | omega | ((repeat' apply And.intro) <;> first | omega | (intros; rfl))) | (simp [AllC, AllP, addN, cloL, clo, mrgL, mrg, wrapU, Holds] <;> omega)) : Ph1 P f N n0 nf ops k T R past (e1 :: e2 :: pend') op vin H := by
  intro hv
  obtain ⟨hch, hlt⟩ := Bool.and_eq_true_iff.1 hch
  obtain ⟨hch, hsub⟩ := Bool.and_eq_true_iff.1 hch
  obtain ⟨hc1, hc2⟩ := Bool.and_eq_true_iff.1 hch
  have hlt : e1 < e2 := by simpa [Nat.blt_eq] using hlt
  obtain ⟨c1, c2, c3, c4, c5, c6, c7, c8, c9, c10⟩ := Ph.base W.tt W.st hd hp hcl hv
  obtain ⟨a1, a2⟩ := chainM_ok hc1
  obtain ⟨b1, b2⟩ := chainM_ok hc2
  have ne1 : ∀ p ∈ pend', p ≠ e1 := fun p hp => by have := needs_self (a2 p hp).1; omega
  have ne2 : ∀ p ∈ pend', p ≠ e2 := fun p hp => by have := needs_self (b2 p hp).1; omega
  have f1 : (e1 :: e2 :: pend').filter (· != e1) = e2 :: pend' := by
    rw [List.filter_cons_of_neg (by simp), List.filter_eq_self.2]
    intro p hp
    rcases List.mem_cons.1 hp with rfl | hp
    · have : p ≠ e1 := by omega
      simpa using this
    · simpa using ne1 p hp
  have f2 : (e1 :: e2 :: pend').filter (· != e2) = e1 :: pend' := by
    have : e1 ≠ e2 := by omega
    rw [List.filter_cons_of_pos (by simpa using this), List.filter_cons_of_neg (by simp), List.filter_eq_self.2]
    intro p hp
    simpa using ne2 p hp
  have one : ∀ {e : Nat} {d : Option Nat} {C : Prop} {v : AV} {H' : AHeap} {vs' : List (Option Nat × AV)} {pd : List Nat}, e < nf → effM TT m ops.toList (dropD (dstsM nf ops.toList) T) ws H e = some (d, C, v, H') → Holds C → setM (d, v) ws e = some vs' →
      Ph1 P f N n0 nf ops k T R (e :: past) pd (e1 :: e2 :: pend') vs' H' → ∃ o Q, ops[e]? = some o ∧ (∃ h : e < ws.length, o.dst = ws[e].1) ∧ EffStep P N ops o (TS (memM (preds ops.toList e)) 0 ws (dropD ws T)) H Q ∧
        ∀ u H1, Q u H1 → Ph P f N n0 ops k T R (e :: past) pd (e1 :: e2 :: pend') (ws.set e (o.dst, u)) H1 := by
    intro e d C v H' vs' pd hlt he hC hset next
    unfold effM at he
    split at he
    · rename_i o ho
      have ho' : ops[e]? = some o := by rw [nthM_eq] at ho; simpa using ho
      obtain ⟨o', o1, o2, _⟩ := c10 e (by omega)
      have : o' = o := by rw [ho'] at o1; exact (Option.some.inj o1).symm
      subst this
      split at he
      · rename_i hg
        split at he
        · have key : ∀ {v1 : AV} {H2 : AHeap}, EffStep P N ops o' (TS (memM (preds ops.toList e)) 0 ws (dropD (dstsM nf ops.toList) T)) H (fun u H1 => u = v1 ∧ H1 = H2) → o'.dst = d → v1 = v → H2 = H' →
              ∃ o Q, ops[e]? = some o ∧ (∃ h : e < ws.length, o.dst = ws[e].1) ∧ EffStep P N ops o (TS (memM (preds ops.toList e)) 0 ws (dropD ws T)) H Q ∧ ∀ u H1, Q u H1 → Ph P f N n0 ops k T R (e :: past) pd (e1 :: e2 :: pend') (ws.set e (o.dst, u)) H1 := by
            rintro v1 H2 hE rfl rfl rfl
            refine ⟨o', _, ho', ⟨by omega, o2⟩, by rw [c8]; exact hE, ?_⟩
            rintro _ _ ⟨rfl, rfl⟩
            obtain ⟨r1, r2⟩ := fst_set (c6.symm.trans hv) ⟨by omega, o2⟩ hset
            rw [← r1]
            exact next r2
          split at he
          · rename_i hst
            simp only [Option.some.injEq, Prod.mk.injEq] at he
            obtain ⟨r1, r2, r3, r4⟩ := he
            exact key (.ok W.tt m hg hst) r1 r3 r4
          · rename_i hst
            simp only [Option.some.injEq, Prod.mk.injEq] at he
            obtain ⟨r1, r2, r3, r4⟩ := he
            subst r2
            exact key (.okc W.tt m hg hst hC) r1 r3 r4
          · cases he
        · cases he
      · cases he
    · cases he
  refine Ph.core c1 c2 c3 c4 c5 c6 (fun j hj hj' hx => c9 j hj hj' (hx.imp id fun hx => ⟨hx, touch_sub (subM_ok hsub) hx⟩)) (fun i hi q1 q2 q3 => ?_) (fun p hp => ?_) (fun p hp hn => ?_) (fun h => by cases h)
  · obtain ⟨o, o1, o2, o3⟩ := c10 i hi
    exact ⟨o, o1, o2, o3 q1 q2 q3 fun j hj => (needsAll_iff hj).elim (fun h => by simp at h) id⟩
  · rcases List.mem_cons.1 hp with rfl | hp
    · omega
    rcases List.mem_cons.1 hp with rfl | hp
    · omega
    · have := (a2 p hp).2; omega
  · rcases List.mem_cons.1 hp with rfl | hp
    · obtain ⟨o, Q, q1, q2, q3, q4⟩ := one a1 he1 hC1 hset1 next1
      exact ⟨o, Q, q1, q2, q3, fun u H1 hq => by rw [f1]; exact q4 u H1 hq⟩
    rcases List.mem_cons.1 hp with rfl | hp
    · obtain ⟨o, Q, q1, q2, q3, q4⟩ := one b1 he2 hC2 hset2 next2
      exact ⟨o, Q, q1, q2, q3, fun u H1 hq => by rw [f2]; exact q4 u H1 hq⟩
    · exact absurd (List.mem_cons_self) (hn e1 (a2 p hp).1)

end Pf
/- The types of the program that are known here. -/
namespace Pf
open Go Go.Proofs
def ttree : TTree := (.node 46 (.node 21 (.node 9 (.node 4 (.node 3 (.one 2 ⟨1, 8, [(.int .i64 0)], (.int .i64)⟩) (.one 3 ⟨1, 8, [(.int .i64 0)], (.int .i64)⟩)) (.node 5 (.one 4 ⟨1, 1, [.bool false], .bool⟩) (.one 5 ⟨1, 1, [(.int .u8 0)], (.int .u8)⟩))) (.node 17 (.node 12 (.one 9 ⟨1, 16, [.str []], .string⟩) (.one 12 ⟨1, 8, [(.int .u64 0)], (.int .u64)⟩)) (.node 20 (.one 17 ⟨1, 8, [.nilp], (.pointer 161)⟩) (.one 20 ⟨1, 16, [.nili], .iface⟩)))) (.node 25 (.node 23 (.node 22 (.one 21 ⟨1, 4, [(.int .i32 0)], (.int .i32)⟩) (.one 22 ⟨1, 24, [.nils], (.slice 5)⟩)) (.node 24 (.one 23 ⟨1, 24, [.nils], (.slice 40)⟩) (.one 24 ⟨1, 24, [.nils], (.struct [(0, 23)])⟩))) (.node 40 (.node 39 (.one 25 ⟨1, 24, [.nils], (.struct [(0, 23)])⟩) (.one 39 ⟨2, 16, [(.int .i64 0), (.int .i64 0)], (.struct [(0, 3), (1, 3)])⟩)) (.node 45 (.one 40 ⟨2, 16, [(.int .i64 0), (.int .i64 0)], (.struct [(0, 3), (1, 3)])⟩) (.one 45 ⟨1, 24, [.nils], (.slice 3)⟩))))) (.node 119 (.node 79 (.node 49 (.node 47 (.one 46 ⟨3, 56, [.bool false, .nils, .nils], (.struct [(0, 4), (1, 45), (2, 45)])⟩) (.one 47 ⟨3, 56, [.bool false, .nils, .nils], (.struct [(0, 4), (1, 45), (2, 45)])⟩)) (.node 74 (.one 49 ⟨3, 56, [.bool false, .nils, .nils], (.struct [(0, 4), (1, 45), (2, 45)])⟩) (.one 74 ⟨1, 8, [(.int .u64 0)], (.int .u64)⟩))) (.node 82 (.node 81 (.one 79 ⟨1, 8, [.nilp], (.pointer 82)⟩) (.one 81 ⟨2, 32, [.nils, (.int .i64 0)], (.struct [(0, 22), (1, 3)])⟩)) (.node 101 (.one 82 ⟨2, 32, [.nils, (.int .i64 0)], (.struct [(0, 22), (1, 3)])⟩) (.one 101 ⟨1, 8, [.nilp], (.pointer 126)⟩)))) (.node 133 (.node 126 (.node 123 (.one 119 ⟨1, 8, [(.int .u64 0)], (.int .u64)⟩) (.one 123 ⟨1, 24, [.nils], (.slice 49)⟩)) (.node 132 (.one 126 ⟨2, 32, [.nils, (.int .i64 0)], (.struct [(0, 22), (1, 3)])⟩) (.one 132 ⟨4, 32, [(.int .i64 0), (.int .i64 0), (.int .i64 0), (.int .i64 0)], (.struct [(0, 3), (1, 3), (2, 3), (3, 3)])⟩))) (.node 144 (.node 140 (.one 133 ⟨4, 32, [(.int .i64 0), (.int .i64 0), (.int .i64 0), (.int .i64 0)], (.struct [(0, 3), (1, 3), (2, 3), (3, 3)])⟩) (.one 140 ⟨1, 24, [.nils], (.slice 45)⟩)) (.node 157 (.one 144 ⟨1, 4, [(.int .u32 0)], (.int .u32)⟩) (.node 160 (.one 157 ⟨1, 8, [.nilp], (.pointer 5)⟩) (.one 160 ⟨11, 48, [(.int .u64 0), (.int .u64 0), (.int .u32 0), (.int .u8 0), (.int .u8 0), (.int .u8 0), (.int .u8 0), .nilf, .nilp, (.int .i32 0), (.int .i32 0)], (.struct [(0, 12), (1, 12), (2, 144), (3, 154), (4, 5), (5, 5), (6, 155), (7, 156), (8, 157), (9, 158), (10, 159)])⟩)))))))
/-- The types that are known here. -/
abbrev TT : TypeId → Option TI := ttree.get
theorem TT_ok : TTok Try.prog TT := TTree.get_ok (by kernel_rfl)
end Pf
/- The bits of floats, and pairs. -/
namespace Pf
open Go Go.Proofs


theorem in_ok (n lo hi : Int) : AFunP Try.prog 59 [.int .i64 n, .int .i64 lo, .int .i64 hi] (· = .pr (lo ≤ n ∧ n ≤ hi)) := by
  refine afun_of Try.func59 Try.call59 rfl Try.ntmps59 rfl ?_
  have W : Walk Try.prog TT 59 _ := Walk.of TT_ok Try.func59 Try.results59
  refine go_split W 0 100 rfl rfl rfl trivial (fun h => ?_) (fun h => ?_)
  · exact go_retP W 0 100 rfl trivial rfl trivial rfl (.pr (by simp [h]))
  · exact go_retP W 0 100 rfl trivial rfl trivial rfl (.no (by simp [h]))

/-- The greatest order number of a width. -/
def top (w : Int) : Int := if w = 32 then 2139095040 else if w = 64 then 9218868437227405312 else 0
def fmt (w : Int) : List AV := if w = 32 then [.int .i64 23, .int .i64 (-149), .int .i64 127, .int .i64 2139095040] else if w = 64 then [.int .i64 52, .int .i64 (-1074), .int .i64 1023, .int .i64 9218868437227405312] else [.int .i64 0, .int .i64 0, .int .i64 0, .int .i64 0]
def frac (w : Int) : Int := if w = 32 then 23 else if w = 64 then 52 else 0
def least (w : Int) : Int := if w = 32 then -149 else if w = 64 then -1074 else 0
def greatest (w : Int) : Int := if w = 32 then 127 else if w = 64 then 1023 else 0
theorem formatOf_ok (w : Int) : AFunP Try.prog 158 [.int .i64 w] (· = .tup [.agg [.int .i64 (frac w), .int .i64 (least w), .int .i64 (greatest w), .int .i64 (top w)], .pr (w = 32 ∨ w = 64)]) := by
  refine afun_of Try.func158 Try.call158 rfl Try.ntmps158 rfl ?_
  have W : Walk Try.prog TT 158 _ := Walk.of TT_ok Try.func158 Try.results158
  refine go_split W 0 100 rfl rfl rfl trivial (fun h => ?_) (fun h => ?_)
  · subst h
    exact go_retP W 0 100 rfl trivial rfl trivial rfl (.tup ⟨.refl, .yes (by simp), trivial⟩)
  · refine go_split W 0 100 rfl rfl rfl trivial (fun h2 => ?_) (fun h2 => ?_)
    · subst h2
      exact go_retP W 0 100 rfl trivial rfl trivial rfl (.tup ⟨.refl, .yes (by simp), trivial⟩)
    · refine go_retP W 0 100 rfl trivial rfl trivial rfl (.tup ⟨.eq ?_, .no (by simp [h, h2]), trivial⟩)
      simp [frac, least, greatest, top, h, h2]

theorem implBitTop_ok (w : Int) : AFunP Try.prog 122 [.int .i64 w] (· = .int .i64 (top w)) := by
  refine afun_of Try.func122 Try.call122 rfl Try.ntmps122 rfl ?_
  have W : Walk Try.prog TT 122 _ := Walk.of TT_ok Try.func122 Try.results122
  refine go_callE W 0 100 rfl trivial rfl (formatOf_ok w) rfl ?_
  exact go_retP W 0 100 rfl trivial rfl trivial rfl (.refl)

def bitOk (w n : Int) : Prop := (w = 32 ∨ w = 64) ∧ -top w ≤ n ∧ n ≤ top w
theorem top_rng (w : Int) : 0 ≤ top w ∧ top w ≤ 9218868437227405312 := by unfold top; split <;> (try split) <;> omega
theorem implBitOk_ok (w n : Int) : AFunP Try.prog 123 [.int .i64 w, .int .i64 n] (· = .pr (bitOk w n)) := by
  refine afun_of Try.func123 Try.call123 rfl Try.ntmps123 rfl ?_
  have W : Walk Try.prog TT 123 _ := Walk.of TT_ok Try.func123 Try.results123
  refine go_callE W 0 100 rfl trivial rfl (formatOf_ok w) rfl ?_
  refine go_split W 0 100 rfl rfl rfl trivial (fun h => ?_) (fun h => ?_)
  · have := top_rng w
    refine go_callE W 0 100 rfl ⟨trivial, by omega⟩ rfl (in_ok _ _ _) rfl ?_
    exact go_retP W 0 100 rfl trivial rfl trivial rfl (.pr (by simp [bitOk, h]))
  · exact go_retP W 0 100 rfl trivial rfl trivial rfl (.no (by simp [bitOk, h]))

def pairOk (w lo hi : Int) : Prop := bitOk w lo ∧ bitOk w hi ∧ lo ≤ hi ∧ lo ≠ top w ∧ hi ≠ -top w
theorem implPairOk_ok (w lo hi : Int) : AFunP Try.prog 62 [.int .i64 w, .agg [.int .i64 lo, .int .i64 hi]] (· = .pr (pairOk w lo hi)) := by
  refine afun_of Try.func62 Try.call62 rfl Try.ntmps62 rfl ?_
  have W : Walk Try.prog TT 62 _ := Walk.of TT_ok Try.func62 Try.results62
  have := top_rng w
  refine go_callE W 0 200 rfl trivial rfl (implBitTop_ok w) rfl ?_
  refine go_callE W 0 200 rfl trivial rfl (implBitOk_ok w lo) rfl ?_
  refine go_split W 0 200 rfl rfl rfl trivial (fun h1 => ?_) (fun h1 => ?_)
  case refine_2 => exact go_retP W 0 200 rfl trivial rfl trivial rfl (.no (by simp [pairOk, h1]))
  refine go_callE W 0 200 rfl trivial rfl (implBitOk_ok w hi) rfl ?_
  refine go_split W 0 200 rfl rfl rfl trivial (fun h2 => ?_) (fun h2 => ?_)
  case refine_2 => exact go_retP W 0 200 rfl trivial rfl trivial rfl (.no (by simp [pairOk, h2]))
  refine go_split W 0 200 rfl rfl rfl trivial (fun h3 => ?_) (fun h3 => ?_)
  case refine_2 => exact go_retP W 0 200 rfl trivial rfl trivial rfl (.no (by simp [pairOk, h3]))
  refine go_split W 0 200 rfl rfl rfl trivial (fun h4 => ?_) (fun h4 => ?_)
  case refine_2 => exact go_retP W 0 200 rfl trivial rfl trivial rfl (.no (by simp only [pairOk]; intro h; exact h4 h.2.2.2.1))
  exact go_retP W 0 200 rfl ⟨trivial, by omega⟩ rfl trivial rfl (.pr (by simp only [pairOk, h1, h2, h3, h4, true_and, ne_eq, not_false_iff]))

theorem implPairIs_ok (a b c d : Int) : AFunP Try.prog 64 [.agg [.int .i64 a, .int .i64 b], .agg [.int .i64 c, .int .i64 d]] (· = .pr (c ≤ a ∧ b ≤ d)) := by
  refine afun_of Try.func64 Try.call64 rfl Try.ntmps64 rfl ?_
  have W : Walk Try.prog TT 64 _ := Walk.of TT_ok Try.func64 Try.results64
  refine go_split W 0 100 rfl rfl rfl trivial (fun h => ?_) (fun h => ?_)
  · exact go_retP W 0 100 rfl trivial rfl trivial rfl (.pr (by simp [h]))
  · exact go_retP W 0 100 rfl trivial rfl trivial rfl (.no (by simp [h]))

end Pf
/- What the laws do with lists of whole numbers. -/
namespace Pf
open Go Go.Proofs

theorem szIntS_ok (a : List Int) (n : Int) (h0 : 0 ≤ n) (h1 : n ≤ 1048576) (hl : a.length ≤ 9223372036854775807) : AFunP Try.prog 81 [.fi .i64 a, .int .i64 n] (· = .int .i64 (if n < a.length then -1 else n - a.length)) := by
  refine afun_of Try.func81 Try.call81 rfl Try.ntmps81 rfl ?_
  have W : Walk Try.prog TT 81 _ := Walk.of TT_ok Try.func81 Try.results81
  refine go_split W 0 200 rfl rfl rfl ⟨trivial, by omega⟩ (fun h => ?_) (fun h => ?_)
  · exact go_retP W 0 200 rfl trivial rfl trivial rfl (.int (by rw [if_pos (by omega)]))
  · exact go_retP W 0 200 rfl trivial rfl trivial rfl (.int (by rw [if_neg (by omega)]))

theorem eqIntS_ok (a b : List Int) (hl : a.length ≤ 9223372036854775806) : AFunP Try.prog 86 [.fi .i64 a, .fi .i64 b] (· = .pr (a = b)) := by
  refine afun_of Try.func86 Try.call86 rfl Try.ntmps86 rfl ?_
  have W : Walk Try.prog TT 86 _ := Walk.of TT_ok Try.func86 Try.results86
  refine go_split W 0 200 rfl rfl rfl trivial (fun h => ?_) (fun h => ?_)
  · exact go_retP W 0 200 rfl trivial rfl trivial rfl (.no (by intro e; subst e; exact h rfl))
  have hab : a.length = b.length := by have h := Classical.not_not.1 h; omega
  refine go_loop W 0 200 (σ := Nat) (fun i => [(0, .fi .i64 a), (1, .fi .i64 b), (5, .int .i64 i)]) (fun _ => []) (fun i => a.length - i) (fun i => i ≤ a.length ∧ ∀ j, j < i → a.getD j 0 = b.getD j 0) 0 [0, 1, 5] rfl rfl rfl trivial
    ⟨Nat.zero_le _, fun j hj => by omega⟩ ?_
  rintro i ⟨hi, he⟩ ih
  refine go_split W 0 200 rfl rfl rfl trivial (fun h1 => ?_) (fun h1 => ?_)
  · have h1 : i < a.length := by simpa using h1
    refine go_drawE W 0 200 9 [] [] rfl trivial rfl rfl (by simp [AllP]; omega) trivial rfl ?_
    refine go_split W 0 200 rfl rfl rfl trivial (fun h2 => ?_) (fun h2 => ?_)
    · refine go_retP W 0 200 rfl trivial rfl trivial rfl (.no ?_)
      intro e; subst e; exact h2 rfl
    · refine go_back W 0 200 (ds := [0, 1, 5]) rfl rfl ⟨trivial, by omega⟩ (ih (i + 1) ⟨by omega, fun j hj => ?_⟩ (by omega))
      by_cases hji : j = i
      · subst hji; simpa using h2
      · exact he j (by omega)
  · refine go_retP W 0 200 rfl trivial rfl trivial rfl (.yes ?_)
    have : i = a.length := by
      have : ¬ (i : Int) < a.length := h1
      omega
    refine List.ext_getElem hab fun j h2 h3 => ?_
    have := he j (by omega)
    simpa [List.getD_eq_getElem?_getD, h2, h3] using this

def marks (k : Int) (n : Nat) : List Int := (List.range n).map fun i : Nat => k + (i : Int)
theorem set_mid {α : Type} (l1 l2 : List α) (x y : α) (n : Nat) (h : n = l1.length) : (l1 ++ y :: l2).set n x = l1 ++ x :: l2 := by subst h; simp
theorem marks_succ (k : Int) (n : Nat) : marks k (n + 1) = marks k n ++ [k + n] := by simp [marks, List.range_succ]
theorem marks_len (k : Int) (n : Nat) : (marks k n).length = n := by simp [marks]

/-- New whole numbers, at the block 0. -/
def NewI (l : List Int) (u : AV) (H : AHeap) : Prop := u = .sl 0 0 0 l.length ∧ H = [.ints 0 .i64 l]

theorem toIntS_new (a : List Int) (hl : a.length ≤ 1048576) : AFunN Try.prog 83 [.fi .i64 a] (NewI a) := by
  refine afun_of Try.func83 Try.call83 rfl Try.ntmps83 rfl ?_
  have W : Walk Try.prog TT 83 _ := Walk.of TT_ok Try.func83 Try.results83
  refine go_loop W 0 200 (σ := Nat) (fun i => [(0, .fi .i64 a), (3, .sl 0 0 0 a.length), (4, .int .i64 i)]) (fun i => [.ints 0 .i64 (a.take i ++ List.replicate (a.length - i) 0)]) (fun i => a.length - i) (fun i => i ≤ a.length) 0 [0, 3, 4] rfl rfl
    (by simp) ⟨trivial, by simp; omega⟩ (Nat.zero_le _) ?_
  intro i hi ih
  refine go_split W 0 200 rfl rfl rfl trivial (fun h1 => ?_) (fun h1 => ?_)
  · have h1 : i < a.length := by simpa using h1
    refine go_back W 0 200 (ds := [0, 3, 4]) rfl rfl ?_ ?_
    · simp [AllC, addN]; omega
    · have := ih (i + 1) (by omega) (by omega)
      have e : (a.take i ++ List.replicate (a.length - i) 0).set (i : Int).toNat (a.getD (i : Int).toNat 0) = a.take (i + 1) ++ List.replicate (a.length - (i + 1)) 0 := by
        have e1 : List.replicate (a.length - i) (0 : Int) = 0 :: List.replicate (a.length - (i + 1)) 0 := by
          rw [show a.length - i = a.length - (i + 1) + 1 by omega, List.replicate_succ]
        have e2 : a.getD (i : Int).toNat 0 = a[i] := by simp [List.getD_eq_getElem?_getD, h1]
        rw [e1, set_mid _ _ _ _ _ (by simp; omega), e2, ← List.take_append_getElem h1, List.append_assoc, List.singleton_append]
      rw [← e] at this
      exact this
  · have : i = a.length := by
      have : ¬ (i : Int) < a.length := h1
      omega
    subst this
    refine go_retN W 0 200 rfl trivial rfl ⟨trivial, rfl, by simp⟩ rfl _ rfl .refl ⟨rfl, ?_⟩
    simp [blksM]
theorem toIntS_ok (a : List Int) (hl : a.length ≤ 1048576) : AFunP Try.prog 83 [.fi .i64 a] (· = .fi .i64 a) :=
  (toIntS_new a hl).toP rfl trivial rfl fun u H2 ⟨h1, h2⟩ => by
    subst h1; subst h2
    exact ⟨_, _, _, rfl, ⟨trivial, rfl, rfl⟩, .refl, rfl, rfl⟩

theorem heldIntS_ok (a : List Int) (k : Int) (hl : a.length ≤ 1048576) (hk : 0 ≤ k) (hk2 : k ≤ 9000000000000000000) : AFunP Try.prog 88 [.fi .i64 a, .int .i64 k] (· = .int .i64 (if a = marks k a.length then k + a.length else -1)) := by
  refine afun_of Try.func88 Try.call88 rfl Try.ntmps88 rfl ?_
  have W : Walk Try.prog TT 88 _ := Walk.of TT_ok Try.func88 Try.results88
  refine go_loop W 0 200 (σ := Nat) (fun i => [(0, .fi .i64 a), (1, .int .i64 (k + i)), (5, .int .i64 i)]) (fun _ => []) (fun i => a.length - i) (fun i => i ≤ a.length ∧ ∀ j, j < i → a.getD j 0 = k + j) 0 [0, 1, 5] rfl (by simp [keepM, getM]) rfl trivial
    ⟨Nat.zero_le _, fun j hj => by omega⟩ ?_
  rintro i ⟨hi, he⟩ ih
  refine go_split W 0 200 rfl rfl rfl trivial (fun h1 => ?_) (fun h1 => ?_)
  · have h1 : i < a.length := by simpa using h1
    refine go_split W 0 200 rfl rfl rfl ⟨trivial, by omega⟩ (fun h2 => ?_) (fun h2 => ?_)
    · refine go_retP W 0 200 rfl trivial rfl trivial rfl (.int ?_)
      rw [if_neg]
      intro e
      apply h2
      have : (marks k a.length)[i]'(by rw [marks_len]; exact h1) = k + i := by simp [marks]
      rw [← this]
      simp only [Int.toNat_natCast, List.getD_eq_getElem?_getD, List.getElem?_eq_getElem h1, Option.getD_some]
      congr 1
    · have h2 : a.getD i 0 = k + i := by simpa using h2
      refine go_back W 0 200 (ds := [0, 1, 5]) (T1 := [(0, .fi .i64 a), (1, .int .i64 (k + (i + 1 : Nat))), (5, .int .i64 (i + 1 : Nat))]) rfl ?_ ⟨⟨trivial, by omega⟩, by omega⟩ (ih (i + 1) ⟨by omega, fun j hj => ?_⟩ (by omega))
      · simp [keepM, getM, Int.add_assoc]
      · by_cases hji : j = i
        · subst hji; exact h2
        · exact he j (by omega)
  · have : i = a.length := by
      have : ¬ (i : Int) < a.length := h1
      omega
    subst this
    refine go_retP W 0 200 rfl trivial rfl trivial rfl (.int ?_)
    rw [if_pos]
    refine List.ext_getElem (marks_len _ _).symm fun j h2 h3 => ?_
    have := he j h2
    simpa [List.getD_eq_getElem?_getD, h2, marks] using this

theorem markIntS_ok (l : List Int) (k : Int) (hl : l.length ≤ 1048576) (hk : 0 ≤ k) (hk2 : k ≤ 9000000000000000000) : AFunM Try.prog 87 [.sl 0 0 0 l.length, .int .i64 k] [.ints 0 .i64 l]
    (fun u blks => u = .int .i64 (k + l.length) ∧ blks = [.ints 0 .i64 (marks k l.length)]) := by
  refine afun_of Try.func87 Try.call87 rfl Try.ntmps87 rfl ?_
  have W : Walk Try.prog TT 87 _ := Walk.of TT_ok Try.func87 Try.results87
  refine go_loop W 0 200 (σ := Nat) (fun i => [(0, .sl 0 0 0 l.length), (1, .int .i64 (k + i)), (5, .int .i64 i)]) (fun i => [.ints 0 .i64 (marks k i ++ l.drop i)]) (fun i => l.length - i) (fun i => i ≤ l.length) 0 [0, 1, 5] rfl
    (by simp [keepM, getM]) (by simp [marks, setg, set0]) trivial (Nat.zero_le _) ?_
  intro i hi ih
  refine go_split W 0 200 rfl rfl rfl trivial (fun h1 => ?_) (fun h1 => ?_)
  · have h1 : i < l.length := by simpa using h1
    refine go_back W 0 200 (ds := [0, 1, 5]) (T1 := [(0, .sl 0 0 0 l.length), (1, .int .i64 (k + (i + 1 : Nat))), (5, .int .i64 (i + 1 : Nat))]) rfl (by simp [keepM, getM, Int.add_assoc]) ?_ ?_
    · simp [AllC, marks_len, addN]; omega
    · have := ih (i + 1) (by omega) (by omega)
      have e : (marks k i ++ l.drop i).set (i : Int).toNat (k + i) = marks k (i + 1) ++ l.drop (i + 1) := by
        rw [marks_succ]
        rw [List.drop_eq_getElem_cons h1, set_mid _ _ _ _ _ (by simp [marks_len])]
        simp
      rw [← e] at this
      exact this
  · have : i = l.length := by
      have : ¬ (i : Int) < l.length := h1
      omega
    subst this
    exact go_retM W 0 200 (blks := [.ints 0 .i64 (marks k l.length ++ l.drop l.length)]) rfl trivial rfl trivial rfl trivial ⟨rfl, trivial⟩ rfl rfl _ rfl .refl ⟨rfl, by simp⟩

end Pf
/- What the laws do with fractions. -/
namespace Pf
open Go Go.Proofs

/-- A fraction, all read only. -/
def frF (p : Prop) (t d : List Int) : AV := .agg [.pr p, .fi .i64 t, .fi .i64 d]
def szF (n : Int) (t d : List Int) : Int := if n < t.length then -1 else if n - t.length < d.length then -1 else n - t.length - d.length

theorem szFrac_ok (p : Prop) (t d : List Int) (n : Int) (h0 : 0 ≤ n) (h1 : n ≤ 1048576) (ht : t.length ≤ 9223372036854775807) (hd : d.length ≤ 9223372036854775807) :
    AFunP Try.prog 27 [frF p t d, .int .i64 n] (· = .int .i64 (szF n t d)) := by
  refine afun_of Try.func27 Try.call27 rfl Try.ntmps27 rfl ?_
  have W : Walk Try.prog TT 27 _ := Walk.of TT_ok Try.func27 Try.results27
  refine go_callE W 0 200 rfl trivial rfl (szIntS_ok t n h0 h1 ht) rfl ?_
  refine go_split W 0 200 rfl rfl rfl trivial (fun h => ?_) (fun h => ?_)
  · refine go_retP W 0 200 rfl trivial rfl trivial rfl (.int ?_)
    unfold szF
    split at h
    · rw [if_pos ‹_›]
    · omega
  · have hn : ¬ n < t.length := by intro hn; rw [if_pos hn] at h; omega
    refine go_callE W 0 200 rfl trivial rfl (szIntS_ok d _ (by rw [if_neg hn]; omega) (by rw [if_neg hn]; omega) hd) rfl ?_
    refine go_split W 0 200 rfl rfl rfl trivial (fun h2 => ?_) (fun h2 => ?_)
    · refine go_retP W 0 200 rfl trivial rfl trivial rfl (.int ?_)
      simp only [if_neg hn] at h2
      unfold szF
      rw [if_neg hn]
      split at h2
      · rw [if_pos ‹_›]
      · omega
    · refine go_retP W 0 200 rfl trivial rfl trivial rfl (.int ?_)
      simp only [if_neg hn] at h2 ⊢
      unfold szF
      rw [if_neg hn]

def NewF (p : Prop) (t d : List Int) (u : AV) (H : AHeap) : Prop := u = .agg [.pr p, .sl 0 0 0 t.length, .sl 1 0 0 d.length] ∧ H = [.ints 0 .i64 t, .ints 0 .i64 d]
theorem toFrac_new (p : Prop) (t d : List Int) (ht : t.length ≤ 1048576) (hd : d.length ≤ 1048576) : AFunN Try.prog 29 [frF p t d] (NewF p t d) := by
  refine afun_of Try.func29 Try.call29 rfl Try.ntmps29 rfl ?_
  have W : Walk Try.prog TT 29 _ := Walk.of TT_ok Try.func29 Try.results29
  refine go_callN W 0 200 rfl trivial rfl trivial rfl (toIntS_new t ht) ?_
  rintro _ _ ⟨rfl, rfl⟩
  refine ⟨_, _, rfl, rfl, ?_⟩
  refine go_callN W 0 200 rfl trivial rfl trivial rfl (toIntS_new d hd) ?_
  rintro _ _ ⟨rfl, rfl⟩
  refine ⟨_, _, rfl, rfl, ?_⟩
  refine go_retN W 0 200 rfl trivial rfl ⟨⟨trivial, rfl, Nat.le_refl _⟩, rfl, Nat.le_refl _⟩ rfl _ rfl .refl ⟨rfl, ?_⟩
  simp [blksM]
theorem toFrac_ok (p : Prop) (t d : List Int) (ht : t.length ≤ 1048576) (hd : d.length ≤ 1048576) : AFunP Try.prog 29 [frF p t d] (· = frF p t d) :=
  (toFrac_new p t d ht hd).toP rfl trivial rfl fun u H2 ⟨h1, h2⟩ => by
    subst h1; subst h2
    exact ⟨_, _, _, rfl, ⟨⟨trivial, rfl, rfl⟩, rfl, rfl⟩, .refl, rfl, rfl⟩

theorem eqFrac_ok (p q : Prop) (t d t' d' : List Int) (ht : t.length ≤ 9223372036854775806) (hd : d.length ≤ 9223372036854775806) :
    AFunP Try.prog 31 [frF p t d, frF q t' d'] (· = .pr ((p ↔ q) ∧ t = t' ∧ d = d')) := by
  refine afun_of Try.func31 Try.call31 rfl Try.ntmps31 rfl ?_
  have W : Walk Try.prog TT 31 _ := Walk.of TT_ok Try.func31 Try.results31
  refine go_split W 0 200 rfl rfl rfl trivial (fun h => ?_) (fun h => ?_)
  · exact go_retP W 0 200 rfl trivial rfl trivial rfl (.no fun e => h e.1)
  have h := Classical.not_not.1 h
  refine go_callE W 0 200 rfl trivial rfl (eqIntS_ok t t' ht) rfl ?_
  refine go_split W 0 200 rfl rfl rfl trivial (fun h1 => ?_) (fun h1 => ?_)
  · exact go_retP W 0 200 rfl trivial rfl trivial rfl (.no fun e => h1 e.2.1)
  have h1 := Classical.not_not.1 h1
  refine go_callE W 0 200 rfl trivial rfl (eqIntS_ok d d' hd) rfl ?_
  refine go_split W 0 200 rfl rfl rfl trivial (fun h2 => ?_) (fun h2 => ?_)
  · exact go_retP W 0 200 rfl trivial rfl trivial rfl (.no fun e => h2 e.2.2)
  · exact go_retP W 0 200 rfl trivial rfl trivial rfl (.yes ⟨h, h1, Classical.not_not.1 h2⟩)

theorem markFrac_ok (p : Prop) (t d : List Int) (k : Int) (ht : t.length ≤ 1048576) (hd : d.length ≤ 1048576) (hk : 0 ≤ k) (hk2 : k ≤ 8000000000000000000) :
    AFunM Try.prog 32 [.agg [.pr p, .sl 0 0 0 t.length, .sl 1 0 0 d.length], .int .i64 k] [.ints 0 .i64 t, .ints 0 .i64 d]
    (fun u blks => u = .int .i64 (k + t.length + d.length) ∧ blks = [.ints 0 .i64 (marks k t.length), .ints 0 .i64 (marks (k + t.length) d.length)]) := by
  refine afun_of Try.func32 Try.call32 rfl Try.ntmps32 rfl ?_
  have W : Walk Try.prog TT 32 _ := Walk.of TT_ok Try.func32 Try.results32
  refine go_callM W 0 200 [(0, 0)] rfl trivial (markIntS_ok t k ht hk (by omega)) ⟨rfl, trivial⟩ rfl rfl rfl ?_
  rintro _ _ ⟨rfl, rfl⟩
  refine ⟨_, _, rfl, rfl, ?_⟩
  refine go_callM W 0 200 [(1, 0)] rfl trivial (markIntS_ok d (k + t.length) hd (by omega) (by omega)) ⟨rfl, trivial⟩ rfl rfl rfl ?_
  rintro _ _ ⟨rfl, rfl⟩
  refine ⟨_, _, rfl, rfl, ?_⟩
  exact go_retM W 0 200 (blks := [_, _]) rfl trivial rfl trivial rfl trivial ⟨rfl, rfl, trivial⟩ rfl rfl _ rfl .refl ⟨rfl, rfl⟩

theorem heldFrac_ok (p : Prop) (t d : List Int) (k : Int) (ht : t.length ≤ 1048576) (hd : d.length ≤ 1048576) (hk : 0 ≤ k) (hk2 : k ≤ 8000000000000000000) (h1 : t = marks k t.length) (h2 : d = marks (k + t.length) d.length) :
    AFunP Try.prog 33 [frF p t d, .int .i64 k] (· = .int .i64 (k + t.length + d.length)) := by
  refine afun_of Try.func33 Try.call33 rfl Try.ntmps33 rfl ?_
  have W : Walk Try.prog TT 33 _ := Walk.of TT_ok Try.func33 Try.results33
  refine go_callE W 0 200 (u := .int .i64 (k + t.length)) rfl trivial rfl ((heldIntS_ok t k ht hk (by omega)).mono fun u hu => by rw [hu, if_pos h1]) rfl ?_
  refine go_split W 0 200 rfl rfl rfl trivial (fun h => ?_) (fun h => ?_)
  · omega
  refine go_callE W 0 200 (u := .int .i64 (k + t.length + d.length)) rfl trivial rfl ((heldIntS_ok d (k + t.length) hd (by omega) (by omega)).mono fun u hu => by rw [hu, if_pos h2]) rfl ?_
  refine go_split W 0 200 rfl rfl rfl trivial (fun h => ?_) (fun h => ?_)
  · omega
  exact go_retP W 0 200 rfl trivial rfl trivial rfl .refl

end Pf
/- Whole numbers by their digits to the base 65536. -/
namespace Pf

/-- The digits of a number, the least first. -/
def dig (n : Nat) : List Int := if h : n = 0 then [] else ((n % 65536 : Nat) : Int) :: dig (n / 65536)
termination_by n
decreasing_by omega
/-- The number of digits. -/
def val : List Int → Int
  | [] => 0
  | d :: l => d + 65536 * val l
/-- Digits, all in range. -/
def Dgs (l : List Int) : Prop := ∀ d ∈ l, 0 ≤ d ∧ d < 65536

theorem dig_zero : dig 0 = [] := by rw [dig]; simp
theorem dig_pos {n : Nat} (h : n ≠ 0) : dig n = ((n % 65536 : Nat) : Int) :: dig (n / 65536) := by rw [dig]; simp [h]
theorem dig_dgs (n : Nat) : Dgs (dig n) := by
  induction n using Nat.strongRecOn with
  | ind n ih =>
    by_cases h : n = 0
    · subst h; rw [dig_zero]; intro d hd; simp at hd
    · rw [dig_pos h]
      intro d hd
      rcases List.mem_cons.1 hd with rfl | hd
      · omega
      · exact ih (n / 65536) (by omega) d hd
theorem val_dig (n : Nat) : val (dig n) = n := by
  induction n using Nat.strongRecOn with
  | ind n ih =>
    by_cases h : n = 0
    · subst h; rw [dig_zero]; rfl
    · rw [dig_pos h]
      simp only [val]
      rw [ih (n / 65536) (by omega)]
      omega
theorem dig_inj {m n : Nat} (h : dig m = dig n) : m = n := by
  have := congrArg val h
  rw [val_dig, val_dig] at this
  omega
theorem dig_nil {n : Nat} : dig n = [] ↔ n = 0 := by
  constructor
  · intro h
    have := congrArg val h
    rw [val_dig] at this
    simpa [val] using this
  · rintro rfl; exact dig_zero
theorem Dgs.nil : Dgs [] := fun d h => by simp at h
theorem Dgs.cons {d : Int} {l : List Int} (h0 : 0 ≤ d) (h1 : d < 65536) (h : Dgs l) : Dgs (d :: l) := by
  intro e he
  rcases List.mem_cons.1 he with rfl | he
  · exact ⟨h0, h1⟩
  · exact h e he
theorem Dgs.head {d : Int} {l : List Int} (h : Dgs (d :: l)) : 0 ≤ d ∧ d < 65536 := h d (by simp)
theorem Dgs.tail {d : Int} {l : List Int} (h : Dgs (d :: l)) : Dgs l := fun e he => h e (by simp [he])
theorem Dgs.app {l m : List Int} (h : Dgs l) (k : Dgs m) : Dgs (l ++ m) := by
  intro e he
  rcases List.mem_append.1 he with he | he
  · exact h e he
  · exact k e he
theorem Dgs.get {l : List Int} (h : Dgs l) (i : Nat) : 0 ≤ l.getD i 0 ∧ l.getD i 0 < 65536 := by
  rw [List.getD_eq_getElem?_getD]
  cases hi : l[i]? with
  | none => simp
  | some d => simpa using h d (List.mem_of_getElem? hi)
theorem Dgs.take {l : List Int} (h : Dgs l) (n : Nat) : Dgs (l.take n) := fun d hd => h d (List.mem_of_mem_take hd)
theorem Dgs.drop {l : List Int} (h : Dgs l) (n : Nat) : Dgs (l.drop n) := fun d hd => h d (List.mem_of_mem_drop hd)

theorem val_nonneg {l : List Int} (h : Dgs l) : 0 ≤ val l := by
  induction l with
  | nil => simp [val]
  | cons d l ih =>
    have := h.head
    have := ih h.tail
    simp only [val]; omega
theorem val_lt {l : List Int} (h : Dgs l) : val l < 65536 ^ l.length := by
  induction l with
  | nil => simp [val]
  | cons d l ih =>
    have := h.head
    have := ih h.tail
    simp only [val, List.length_cons]
    rw [Int.pow_succ]
    omega
theorem val_app (l m : List Int) : val (l ++ m) = val l + 65536 ^ l.length * val m := by
  induction l with
  | nil => simp [val]
  | cons d l ih =>
    simp only [List.cons_append, val, ih, List.length_cons, Int.pow_succ, Int.mul_add]
    rw [Int.mul_comm (65536 ^ l.length) 65536, Int.mul_assoc, Int.add_assoc]
theorem val_replicate (n : Nat) : val (List.replicate n 0) = 0 := by
  induction n with
  | zero => rfl
  | succ n ih => simp [List.replicate_succ, val, ih]
theorem val_single (d : Int) : val [d] = d := by simp [val]
/-- A digit put in another's place. -/
theorem val_set : ∀ (l : List Int) (i : Nat) (d : Int), i < l.length → val (l.set i d) = val l + 65536 ^ i * (d - l.getD i 0)
  | [], i, d, h => by simp at h
  | e :: l, 0, d, h => by simp [val]; omega
  | e :: l, i + 1, d, h => by
    have ih := val_set l i d (by simpa using h)
    simp only [List.set_cons_succ, val, ih, List.getD_cons_succ, Int.pow_succ]
    rw [Int.mul_add, Int.mul_comm (65536 ^ i) 65536, Int.mul_assoc, Int.add_assoc]

/-- Digits whose last is not nought are the digits of their number. -/
theorem dig_val : ∀ {l : List Int}, Dgs l → (∀ h : l ≠ [], l.getLast h ≠ 0) → dig (val l).toNat = l
  | [], _, _ => by simp [val, dig_zero]
  | d :: l, h, hl => by
    have hd := h.head
    have hv := val_nonneg h.tail
    have hl' : ∀ h : l ≠ [], l.getLast h ≠ 0 := fun hn => by
      have := hl (by simp)
      rwa [List.getLast_cons hn] at this
    have ih := dig_val h.tail hl'
    have hne : (val (d :: l)).toNat ≠ 0 := by
      intro h0
      simp only [val] at h0
      have hd0 : d = 0 := by omega
      have hv0 : val l = 0 := by omega
      rw [hv0] at ih
      simp only [Int.toNat_zero, dig_zero] at ih
      subst ih
      exact hl (by simp) (by simp [hd0])
    rw [dig_pos hne]
    have e1 : (((val (d :: l)).toNat % 65536 : Nat) : Int) = d := by simp only [val]; omega
    have e2 : (val (d :: l)).toNat / 65536 = (val l).toNat := by simp only [val]; omega
    rw [e1, e2, ih]

/-- Noughts behind the last digit dropped. -/
def trimL (l : List Int) : List Int := (l.reverse.dropWhile (· == 0)).reverse
theorem trimL_snoc (l : List Int) (d : Int) : trimL (l ++ [d]) = if d = 0 then trimL l else l ++ [d] := by
  unfold trimL
  rw [List.reverse_append]
  by_cases h : d = 0 <;> simp [List.dropWhile_cons, h]
theorem trimL_nil : trimL [] = [] := rfl
theorem trimL_dig {l : List Int} (h : Dgs l) : trimL l = dig (val l).toNat := by
  have key : ∀ (n : Nat) (l : List Int), l.length = n → Dgs l → trimL l = dig (val l).toNat := by
    intro n
    induction n with
    | zero =>
      intro l hl h
      have : l = [] := List.eq_nil_of_length_eq_zero hl
      subst this
      simp [trimL_nil, val, dig_zero]
    | succ n ih =>
      intro l hl h
      have hne : l ≠ [] := by rintro rfl; simp at hl
      obtain ⟨m, d, rfl⟩ : ∃ m d, l = m ++ [d] := ⟨_, _, (List.dropLast_concat_getLast hne).symm⟩
      rw [trimL_snoc]
      split
      · rename_i h0
        rw [ih m (by simpa using hl) (fun d hd => h d (by simp [hd]))]
        rw [val_app, h0]
        simp [val]
      · rename_i h0
        rw [dig_val h]
        intro hn
        simpa using h0
  exact key _ l rfl h
theorem trimL_len (l : List Int) : (trimL l).length ≤ l.length := by
  unfold trimL
  have := (List.dropWhile_sublist (fun x : Int => x == 0) (l := l.reverse)).length_le
  simpa using this

/-- How many digits. -/
theorem dig_len_le {n k : Nat} : (dig n).length ≤ k ↔ n < 65536 ^ k := by
  induction k generalizing n with
  | zero =>
    constructor
    · intro h
      have : dig n = [] := List.eq_nil_of_length_eq_zero (by omega)
      have := dig_nil.1 this
      subst this; simp
    · intro h
      have : n = 0 := by simpa using h
      subst this; simp [dig_zero]
  | succ k ih =>
    by_cases h : n = 0
    · subst h; simp [dig_zero]
      exact Nat.pow_pos (by omega)
    · rw [dig_pos h]
      simp only [List.length_cons, Nat.succ_le_succ_iff, ih, Nat.pow_succ]
      rw [Nat.div_lt_iff_lt_mul (by omega)]
theorem dig_len_lt {n k : Nat} : k < (dig n).length ↔ 65536 ^ k ≤ n := by
  have := dig_len_le (n := n) (k := k)
  omega
theorem dig_len_mono {m n : Nat} (h : m ≤ n) : (dig m).length ≤ (dig n).length := by
  rw [dig_len_le]
  have := (dig_len_le (n := n) (k := (dig n).length)).1 (Nat.le_refl _)
  omega
theorem dig_last {n : Nat} (h : dig n ≠ []) : (dig n).getLast h ≠ 0 := by
  induction n using Nat.strongRecOn with
  | ind n ih =>
    have hn : n ≠ 0 := fun h0 => h (dig_nil.2 h0)
    have e := dig_pos hn
    by_cases hq : n / 65536 = 0
    · have e2 : dig n = [((n % 65536 : Nat) : Int)] := by rw [e, hq, dig_zero]
      simp only [e2, List.getLast_singleton]
      omega
    · have h2 : dig (n / 65536) ≠ [] := fun h0 => hq (dig_nil.1 h0)
      have := ih (n / 65536) (by omega) h2
      simp only [e, List.getLast_cons h2]
      exact this

end Pf
/- Whole numbers: the simple functions. -/
namespace Pf
open Go Go.Proofs

theorem getD_last {l : List Int} {d : Int} : (l ++ [d]).getD l.length 0 = d := by simp [List.getD_eq_getElem?_getD]

theorem trim_ok (a : List Int) (hl : a.length ≤ 1000000000) : AFunP Try.prog 154 [.fi .i64 a] (· = .fi .i64 (trimL a)) := by
  refine afun_of Try.func154 Try.call154 rfl Try.ntmps154 rfl ?_
  have W : Walk Try.prog TT 154 _ := Walk.of TT_ok Try.func154 Try.results154
  refine go_loop W 0 200 (σ := List Int) (fun l => [(0, .fi .i64 l)]) (fun _ => []) (fun l => l.length) (fun l => trimL l = trimL a ∧ l.length ≤ a.length) a [0] rfl rfl rfl trivial ⟨rfl, Nat.le_refl _⟩ ?_
  rintro l ⟨h1, h2⟩ ih
  refine go_split W 0 200 rfl rfl rfl trivial (fun h3 => ?_) (fun h3 => ?_)
  · have h3 : 0 < l.length := by omega
    have hne : l ≠ [] := by rintro rfl; simp at h3
    obtain ⟨m, d, rfl⟩ : ∃ m d, l = m ++ [d] := ⟨_, _, (List.dropLast_concat_getLast hne).symm⟩
    have e1 : (((m ++ [d]).length : Int) - 1).toNat = m.length := by simp
    refine go_split W 0 200 rfl rfl rfl ⟨⟨trivial, by omega⟩, by omega⟩ (fun h4 => ?_) (fun h4 => ?_)
    · rw [e1, getD_last] at h4
      refine go_back W 0 200 (ds := [0]) rfl rfl ⟨⟨trivial, by omega⟩, by omega⟩ ?_
      rw [e1, List.take_left]
      refine ih m ⟨?_, by simp at h2; omega⟩ (by simp)
      rw [← h1, trimL_snoc, if_pos h4]
    · rw [e1, getD_last] at h4
      refine go_retP W 0 200 rfl trivial rfl trivial rfl (.fi ?_)
      rw [← h1, trimL_snoc, if_neg h4]
  · have : l = [] := List.eq_nil_of_length_eq_zero (by omega)
    subst this
    exact go_retP W 0 200 rfl trivial rfl trivial rfl (.fi h1)

/-- -1, 0 or 1. -/
def sgn (n : Int) : Int := max (-1) (min 1 n)
/-- From the greatest digit down. -/
theorem val_cmp {l m : List Int} (hl : Dgs l) (hm : Dgs m) (h : l.length = m.length) : ∀ (k : Nat), k ≤ l.length → (∀ j, k ≤ j → l.getD j 0 = m.getD j 0) → val l - val m = val (l.take k) - val (m.take k) := by
  intro k hk he
  have e : l.drop k = m.drop k := by
    refine List.ext_getElem (by simp [h]) fun i h1 h2 => ?_
    have := he (k + i) (by omega)
    simp at h1 h2
    simpa [List.getD_eq_getElem?_getD, show k + i < l.length by omega, show k + i < m.length by omega] using this
  have h1 : val l = val (l.take k) + 65536 ^ k * val (l.drop k) := by
    conv => lhs; rw [← List.take_append_drop k l, val_app]
    simp [Nat.min_eq_left hk]
  have h2 : val m = val (m.take k) + 65536 ^ k * val (m.drop k) := by
    conv => lhs; rw [← List.take_append_drop k m, val_app]
    simp [Nat.min_eq_left (show k ≤ m.length by omega)]
  rw [h1, h2, e]; omega
theorem val_take_succ {l : List Int} {k : Nat} (h : k < l.length) : val (l.take (k + 1)) = val (l.take k) + 65536 ^ k * l.getD k 0 := by
  rw [← List.take_append_getElem h, val_app]
  simp [val_single, List.getD_eq_getElem?_getD, h, Nat.min_eq_left (Nat.le_of_lt h)]
/-- The first place, from above, where two lists of digits differ, decides. -/
theorem val_first {l m : List Int} (hl : Dgs l) (hm : Dgs m) (h : l.length = m.length) {k : Nat} (hk : k < l.length) (he : ∀ j, k < j → l.getD j 0 = m.getD j 0) (hd : l.getD k 0 < m.getD k 0) : val l < val m := by
  have h1 := val_cmp hl hm h (k + 1) hk (fun j hj => he j hj)
  rw [val_take_succ hk, val_take_succ (show k < m.length by omega)] at h1
  have h2 := val_lt (hl.take k)
  have h3 := val_nonneg (hm.take k)
  have e : (l.take k).length = k := by simp; omega
  rw [e] at h2
  have hp : (0 : Int) < 65536 ^ k := Int.pow_pos (by omega)
  have h4 : (65536 : Int) ^ k * (l.getD k 0 + 1) ≤ 65536 ^ k * m.getD k 0 := Int.mul_le_mul_of_nonneg_left (by omega) (by omega)
  rw [Int.mul_add] at h4
  omega

theorem sgn_pos {n : Int} (h : 0 < n) : sgn n = 1 := by unfold sgn; omega
theorem sgn_neg {n : Int} (h : n < 0) : sgn n = -1 := by unfold sgn; omega
theorem sgn_zero : sgn 0 = 0 := by decide

theorem natCmp_ok (a b : Nat) (ha : (dig a).length ≤ 1000000000) (hb : (dig b).length ≤ 1000000000) : AFunP Try.prog 143 [.fi .i64 (dig a), .fi .i64 (dig b)] (· = .int .i64 (sgn ((a : Int) - b))) := by
  refine afun_of Try.func143 Try.call143 rfl Try.ntmps143 rfl ?_
  have W : Walk Try.prog TT 143 _ := Walk.of TT_ok Try.func143 Try.results143
  have da := dig_dgs a
  have db := dig_dgs b
  have len : ∀ {x y : Nat}, (dig x).length < (dig y).length → x < y := by
    intro x y h
    have h1 := dig_len_lt.1 h
    have h2 := (dig_len_le (n := x) (k := (dig x).length)).1 (Nat.le_refl _)
    omega
  refine go_split W 0 200 rfl rfl rfl trivial (fun h => ?_) (fun h => ?_)
  · refine go_retP W 0 200 rfl ⟨trivial, by omega⟩ rfl trivial rfl (.int ?_)
    rcases Nat.lt_or_ge (dig a).length (dig b).length with hlt | hge
    · have := len hlt
      rw [sgn_neg (by omega)]; omega
    · have := len (x := b) (y := a) (by omega)
      rw [sgn_pos (by omega)]; omega
  have h := Classical.not_not.1 h
  have hab : (dig a).length = (dig b).length := by omega
  refine go_loop W 0 200 (σ := Nat) (fun k => [(0, .fi .i64 (dig a)), (1, .fi .i64 (dig b)), (5, .int .i64 ((k : Int) - 1))]) (fun _ => []) (fun k => k) (fun k => k ≤ (dig a).length ∧ ∀ j, k ≤ j → (dig a).getD j 0 = (dig b).getD j 0)
    (dig a).length [0, 1, 5] rfl rfl rfl ⟨trivial, by omega⟩ ⟨Nat.le_refl _, fun j hj => ?_⟩ ?_
  · simp [List.getD_eq_getElem?_getD, List.getElem?_eq_none hj, List.getElem?_eq_none (show (dig b).length ≤ j by omega)]
  rintro k ⟨hk, he⟩ ih
  refine go_split W 0 200 rfl rfl rfl trivial (fun h1 => ?_) (fun h1 => ?_)
  · obtain ⟨i, rfl⟩ : ∃ i, k = i + 1 := ⟨k - 1, by omega⟩
    have ei : ((i + 1 : Nat) : Int) - 1 = (i : Int) := by omega
    have et : (((i + 1 : Nat) : Int) - 1).toNat = i := by omega
    refine go_drawE W 0 200 9 [] [] rfl trivial rfl rfl (by simp [AllP]; omega) trivial rfl ?_
    refine go_split W 0 200 rfl rfl rfl trivial (fun h2 => ?_) (fun h2 => ?_)
    · rw [et] at h2
      have g1 := da.get i
      have g2 := db.get i
      refine go_drawE W 0 200 12 [] [] rfl trivial rfl rfl (by simp only [AllP, Option.getD, et]; simp; simp only [List.getD_eq_getElem?_getD] at g1 g2; omega) trivial rfl ?_
      refine go_retP W 0 200 rfl trivial rfl trivial rfl (.int ?_)
      · rw [et]
        rcases Int.lt_or_lt_of_ne h2 with hlt | hgt
        · have := val_first da db hab (by omega) (fun j hj => he j hj) hlt
          rw [val_dig, val_dig] at this
          rw [sgn_neg (by omega)]; omega
        · have := val_first db da hab.symm (by omega) (fun j hj => (he j hj).symm) hgt
          rw [val_dig, val_dig] at this
          rw [sgn_pos (by omega)]; omega
    · rw [et] at h2
      have h2 := Classical.not_not.1 h2
      refine go_back W 0 200 (ds := [0, 1, 5]) (T1 := [(0, .fi .i64 (dig a)), (1, .fi .i64 (dig b)), (5, .int .i64 ((i : Int) - 1))]) rfl (by rw [ei]; rfl) ⟨trivial, by omega⟩ (ih i ⟨by omega, fun j hj => ?_⟩ (by omega))
      by_cases hji : j = i
      · subst hji; exact h2
      · exact he j (by omega)
  · have hk0 : k = 0 := by omega
    subst hk0
    refine go_retP W 0 200 rfl trivial rfl trivial rfl (.int ?_)
    have := val_cmp da db hab 0 (Nat.zero_le _) he
    rw [val_dig, val_dig] at this
    simp [val] at this
    rw [show (a : Int) - b = 0 by omega, sgn_zero]

end Pf
/- Whole numbers: sums and products. -/
namespace Pf
open Go Go.Proofs

theorem getD_set (l : List Int) (i j : Nat) (d : Int) (h : i < l.length) : (l.set i d).getD j 0 = if j = i then d else l.getD j 0 := by
  simp only [List.getD_eq_getElem?_getD, List.getElem?_set]
  by_cases hij : i = j
  · subst hij; simp [h]
  · rw [if_neg hij, if_neg (Ne.symm hij)]
theorem dgs_of_getD {l : List Int} (h : ∀ j, j < l.length → 0 ≤ l.getD j 0 ∧ l.getD j 0 < 65536) : Dgs l := by
  intro d hd
  obtain ⟨j, hj, rfl⟩ := List.getElem_of_mem hd
  have := h j hj
  simpa [List.getD_eq_getElem?_getD, hj] using this
theorem getD_over {l : List Int} {j : Nat} (h : l.length ≤ j) : l.getD j 0 = 0 := by
  simp [List.getD_eq_getElem?_getD, List.getElem?_eq_none h]
theorem band_low {n : Int} (h0 : 0 ≤ n) (h1 : n ≤ 9223372036854775807) : band .i64 n 65535 = n % 65536 := by
  obtain ⟨m, rfl⟩ : ∃ m : Nat, n = m := ⟨n.toNat, by omega⟩
  have e1 : (BitVec.ofInt 64 (m : Int) &&& BitVec.ofInt 64 65535).toNat = m % 65536 := by
    rw [BitVec.toNat_and]
    have a1 : (BitVec.ofInt 64 (m : Int)).toNat = m := by
      rw [BitVec.toNat_ofInt]; omega
    have a2 : (BitVec.ofInt 64 65535).toNat = 65535 := by decide
    rw [a1, a2]
    exact Nat.and_two_pow_sub_one_eq_mod m 16
  have e2 : band .i64 (m : Int) 65535 = IntKind.i64.wrap (((BitVec.ofInt 64 (m : Int) &&& BitVec.ofInt 64 65535).toNat : Nat) : Int) := rfl
  rw [e2, e1]
  rw [wrap_id (k := .i64) (C := -9223372036854775808 ≤ ((m % 65536 : Nat) : Int) ∧ ((m % 65536 : Nat) : Int) ≤ 9223372036854775807) rfl (by omega)]
  omega
theorem val_last {l : List Int} (h : ∀ j, j < l.length → 0 ≤ l.getD j 0) {n : Nat} (hn : l.length = n + 1) : 65536 ^ n * l.getD n 0 ≤ val l := by
  have hne : l ≠ [] := by rintro rfl; simp at hn
  obtain ⟨m, d, rfl⟩ : ∃ m d, l = m ++ [d] := ⟨_, _, (List.dropLast_concat_getLast hne).symm⟩
  have hm : m.length = n := by simpa using hn
  subst hm
  rw [getD_last, val_app, val_single]
  have key : ∀ (m : List Int), (∀ j, j < m.length → 0 ≤ m.getD j 0) → 0 ≤ val m := by
    intro m
    induction m with
    | nil => intro _; simp [val]
    | cons e m ih =>
      intro h
      have h0 := h 0 (by simp)
      have := ih fun j hj => by simpa using h (j + 1) (by simpa using hj)
      simp at h0
      simp only [val]; omega
  have := key m fun j hj => by
    have := h j (by simp; omega)
    simpa [List.getD_eq_getElem?_getD, List.getElem?_append_left hj] using this
  omega

theorem lt_pow {a i : Nat} (h : a < 65536 ^ i) : (a : Int) < 65536 ^ i := by
  have := Int.ofNat_lt.2 h
  rw [Int.natCast_pow] at this
  exact this

theorem natAdd_ok (a b : Nat) (ha : (dig a).length ≤ 100000000) (hb : (dig b).length ≤ 100000000) : AFunP Try.prog 113 [.fi .i64 (dig a), .fi .i64 (dig b)] (· = .fi .i64 (dig (a + b))) := by
  refine afun_of Try.func113 Try.call113 rfl Try.ntmps113 rfl ?_
  have W : Walk Try.prog TT 113 _ := Walk.of TT_ok Try.func113 Try.results113
  have da := dig_dgs a
  have db := dig_dgs b
  generalize hM : max (dig a).length (dig b).length = M
  have eM : max ((dig a).length : Int) (dig b).length + 1 = ((M + 1 : Nat) : Int) := by omega
  -- the sums of the digits
  refine go_loop W 0 200 (σ := Nat × List Int) (fun s => [(5, .sl 0 0 0 (M + 1)), (19, .fi .i64 (dig b)), (20, .int .i64 (dig b).length), (21, .int .i64 s.1)]) (fun s => [.ints 0 .i64 s.2]) (fun s => (dig b).length - s.1)
    (fun s => s.1 ≤ (dig b).length ∧ s.2.length = M + 1 ∧ val s.2 = a + val ((dig b).take s.1) ∧ ∀ j, 0 ≤ s.2.getD j 0 ∧ s.2.getD j 0 ≤ 131070 ∧ (s.1 ≤ j → s.2.getD j 0 < 65536))
    (0, dig a ++ List.replicate (M + 1 - (dig a).length) 0) [5, 19, 20, 21] rfl (by simp [keepM, getM, eM, lenM]) ?_ ?_ ?_ ?_
  · simp only [eM, splice]
    congr 2
    have e1 : (((M + 1 : Nat) : Int)).toNat = M + 1 := by omega
    have e2 : (dig a).take (M + 1) = dig a := List.take_of_length_le (by omega)
    simp only [e1, e2, List.take_zero, List.nil_append, Nat.zero_add, List.drop_replicate]
  · simp only [AllC, eM]
    simp
    omega
  · refine ⟨Nat.zero_le _, by simp; omega, ?_, fun j => ?_⟩
    · rw [val_app, val_dig, val_replicate]; simp [val]
    · have e : (dig a ++ List.replicate (M + 1 - (dig a).length) 0).getD j 0 = (dig a).getD j 0 := by
        rcases Nat.lt_or_ge j (dig a).length with h | h
        · simp [List.getD_eq_getElem?_getD, List.getElem?_append_left h]
        · rw [getD_over h, List.getD_eq_getElem?_getD, List.getElem?_append_right h, List.getElem?_replicate]
          split <;> rfl
      have := da.get j
      rw [e]; omega
  rintro ⟨i, l⟩ ⟨hi, hl, hv, hd⟩ ih
  dsimp only at hi hl hv hd ih ⊢
  refine go_split W 0 200 rfl rfl rfl trivial (fun h1 => ?_) (fun h1 => ?_)
  · have h1 : i < (dig b).length := by omega
    have g1 := hd i
    have g2 := db.get i
    refine go_back W 0 200 (ds := [5, 19, 20, 21]) rfl rfl ?_ (ih (i + 1, l.set i (l.getD i 0 + (dig b).getD i 0)) ⟨by omega, by simpa using hl, ?_, fun j => ?_⟩ (by dsimp only; omega))
    · simp only [AllC, Int.toNat_natCast, addN]
      simp only [true_and]
      omega
    · rw [val_set _ _ _ (by omega), hv, val_take_succ h1]
      rw [show l.getD i 0 + (dig b).getD i 0 - l.getD i 0 = (dig b).getD i 0 by omega]; omega
    · dsimp only
      rw [getD_set _ _ _ _ (by omega)]
      have := hd j
      split <;> omega
  have hib : i = (dig b).length := by omega
  subst hib
  rw [List.take_length, val_dig] at hv
  -- the carries
  refine go_loop W 0 200 (σ := Nat × List Int) (fun s => [(5, .sl 0 0 0 (M + 1)), (36, .int .i64 M), (37, .int .i64 s.1)]) (fun s => [.ints 0 .i64 s.2]) (fun s => M - s.1)
    (fun s => s.1 ≤ M ∧ s.2.length = M + 1 ∧ val s.2 = a + b ∧ ∀ j, 0 ≤ s.2.getD j 0 ∧ s.2.getD j 0 ≤ 131071 ∧ (j < s.1 → s.2.getD j 0 < 65536) ∧ (s.1 < j → s.2.getD j 0 ≤ 131070))
    (0, l) [5, 36, 37] rfl (by simp [keepM, getM]) rfl ⟨trivial, by omega⟩ ⟨Nat.zero_le _, hl, hv, fun j => by have := hd j; dsimp only; omega⟩ ?_
  rintro ⟨i, m⟩ ⟨hi, hm, hw, he⟩ ih2
  dsimp only at hi hm hw he ih2 ⊢
  refine go_split W 0 200 rfl rfl rfl trivial (fun h2 => ?_) (fun h2 => ?_)
  · have h2 : i < M := by omega
    have g1 := he i
    have g2 := he (i + 1)
    have e1 : ((i : Int) + 1).toNat = i + 1 := by omega
    refine go_drawE W 0 200 11 [] [] rfl trivial rfl rfl (by simp only [AllP, Option.getD, addN, e1, Int.toNat_natCast, true_and, and_true]; omega) trivial rfl ?_
    refine go_back W 0 200 (ds := [5, 36, 37]) rfl rfl ?_ ?_
    · simp only [AllC, e1, Int.toNat_natCast, addN, List.length_set, true_and]
      omega
    · have e2 : (m.set (i + 1) (m.getD (i + 1) 0 + m.getD i 0 / 65536)).getD i 0 = m.getD i 0 := by rw [getD_set _ _ _ _ (by omega), if_neg (by omega)]
      have := ih2 (i + 1, (m.set (i + 1) (m.getD (i + 1) 0 + m.getD i 0 / 65536)).set i (m.getD i 0 % 65536)) ⟨by omega, by simpa using hm, ?_, fun j => ?_⟩ (by dsimp only; omega)
      · simp only [e1, Int.toNat_natCast, addN, show (2 : Int) ^ 16 = 65536 from rfl, e2, band_low g1.1 (by omega)]
        exact this
      · dsimp only
        rw [val_set _ _ _ (by simp; omega), val_set _ _ _ (by omega), hw, e2, Int.pow_succ]
        have hq : m.getD i 0 = 65536 * (m.getD i 0 / 65536) + m.getD i 0 % 65536 := by omega
        generalize m.getD i 0 / 65536 = q at *
        generalize m.getD i 0 % 65536 = r at *
        generalize m.getD (i + 1) 0 = s at *
        rw [hq]
        generalize (65536 : Int) ^ i = p
        have : p * 65536 * (s + q - s) = 65536 * (p * q) := by rw [show s + q - s = q by omega, Int.mul_comm p 65536, Int.mul_assoc]
        rw [this]
        have : p * (r - (65536 * q + r)) = - (65536 * (p * q)) := by
          rw [show r - (65536 * q + r) = -(65536 * q) by omega, Int.mul_neg, ← Int.mul_assoc, Int.mul_comm p 65536, Int.mul_assoc]
        omega
      · dsimp only
        rw [getD_set _ _ _ _ (by simp; omega)]
        have hj := he j
        split
        · omega
        · rw [getD_set _ _ _ _ (by omega)]
          split
          · subst j; omega
          · omega
  have hiM : i = M := by omega
  subst hiM
  have top : m.getD i 0 < 65536 := by
    have h3 := val_last (l := m) (fun j _ => (he j).1) hm
    have h4 : (a : Int) < 65536 ^ i := by
      exact lt_pow ((dig_len_le (n := a) (k := i)).1 (by omega))
    have h5 : (b : Int) < 65536 ^ i := by
      exact lt_pow ((dig_len_le (n := b) (k := i)).1 (by omega))
    have hp : (0 : Int) < 65536 ^ i := Int.pow_pos (by omega)
    rw [hw] at h3
    have h6 : (65536 : Int) ^ i * m.getD i 0 < 65536 ^ i * 2 := by omega
    have := Int.lt_of_mul_lt_mul_left h6 (by omega)
    omega
  have dm : Dgs m := dgs_of_getD fun j hj => by
    have := he j
    by_cases hji : j = i
    · subst hji; omega
    · omega
  refine go_callF W 0 200 [0] [] rfl trivial rfl rfl rfl rfl rfl trivial trivial ⟨trivial, rfl, hm.symm⟩ (trim_ok m (by omega)) rfl ?_
  refine go_retP W 0 200 rfl trivial rfl trivial rfl (.fi ?_)
  rw [trimL_dig dm, hw]
  congr 1

end Pf
/- Copies. -/
namespace Pf
open Go Go.Proofs

theorem cloneS_new (l : List Int) (hl : l.length ≤ 1000000000) : AFunN Try.prog 156 [.fi .i64 l] (NewI l) := by
  refine afun_of Try.func156 Try.call156 rfl Try.ntmps156 rfl ?_
  have W : Walk Try.prog TT 156 _ := Walk.of TT_ok Try.func156 Try.results156
  refine go_split W 0 200 rfl rfl rfl trivial (fun h => ?_) (fun _ => ?_)
  · subst h
    exact go_retN W 0 200 rfl trivial rfl trivial rfl _ rfl .refl ⟨rfl, rfl⟩
  · refine go_retN W 0 200 rfl ⟨trivial, by simp; omega⟩ rfl ⟨trivial, rfl, Nat.le_refl _⟩ rfl _ rfl .refl ⟨rfl, ?_⟩
    simp [blksM]
theorem clipS_any (b g off len : Nat) (H : AHeap) : AFun Try.prog 168 [.sl b g off len] H fun v H1 => v = .sl b g off len ∧ H1 = H := by
  refine afun_of Try.func168 Try.call168 rfl Try.ntmps168 rfl ?_
  have W : Walk Try.prog TT 168 _ := Walk.of TT_ok Try.func168 Try.results168
  exact go_ret W 0 200 rfl ⟨trivial, rfl, rfl⟩ ⟨rfl, rfl⟩
theorem clone_new (l : List Int) (hl : l.length ≤ 1000000000) : AFunN Try.prog 137 [.fi .i64 l] (NewI l) := by
  refine afun_of Try.func137 Try.call137 rfl Try.ntmps137 rfl ?_
  have W : Walk Try.prog TT 137 _ := Walk.of TT_ok Try.func137 Try.results137
  refine go_callN W 0 200 rfl trivial rfl trivial rfl (cloneS_new l hl) ?_
  rintro _ _ ⟨rfl, rfl⟩
  refine ⟨_, _, rfl, rfl, ?_⟩
  refine go_call W 0 200 rfl trivial (clipS_any _ _ _ _ _) ?_
  rintro _ _ ⟨rfl, rfl⟩
  refine ⟨_, rfl, ?_⟩
  refine go_retN W 0 200 rfl trivial rfl ⟨trivial, rfl, Nat.le_refl _⟩ rfl _ rfl .refl ⟨rfl, ?_⟩
  simp [blksM]
theorem clone_ok (l : List Int) (hl : l.length ≤ 1000000000) : AFunP Try.prog 137 [.fi .i64 l] (· = .fi .i64 l) :=
  (clone_new l hl).toP rfl trivial rfl fun u H2 ⟨h1, h2⟩ => by
    subst h1; subst h2
    exact ⟨_, _, _, rfl, ⟨trivial, rfl, rfl⟩, .refl, rfl, rfl⟩
theorem cloneS_ok (l : List Int) (hl : l.length ≤ 1000000000) : AFunP Try.prog 156 [.fi .i64 l] (· = .fi .i64 l) :=
  (cloneS_new l hl).toP rfl trivial rfl fun u H2 ⟨h1, h2⟩ => by
    subst h1; subst h2
    exact ⟨_, _, _, rfl, ⟨trivial, rfl, rfl⟩, .refl, rfl, rfl⟩

end Pf
/- Boxes: slices of pairs. -/
namespace Pf
open Go Go.Proofs

/-- Rows of pairs. -/
def prow (l : List (Int × Int)) : Nat → List AV := fun i => [.int .i64 (l.getD i (0, 0)).1, .int .i64 (l.getD i (0, 0)).2]
def bx (l : List (Int × Int)) : AV := .agg [.fz l.length (prow l)]
theorem getD_mem {α : Type} {l : List α} {i : Nat} {d : α} (h : i < l.length) : l.getD i d ∈ l := by simp [List.getD_eq_getElem?_getD, h]
theorem mem_getD {α : Type} {l : List α} {a : α} (d : α) (h : a ∈ l) : ∃ i, i < l.length ∧ l.getD i d = a := by
  obtain ⟨i, hi, rfl⟩ := List.getElem_of_mem h
  exact ⟨i, hi, by simp [List.getD_eq_getElem?_getD, hi]⟩

theorem indexPair_ok (l : List (Int × Int)) (g : FuncId) (cs : List AV) (p : Int × Int → Prop) (hl : l.length ≤ 9223372036854775806) (hc : cloL cs = true)
    (h : ∀ a ∈ l, AFunP Try.prog g (.agg [.int .i64 a.1, .int .i64 a.2] :: cs) (· = .pr (p a))) :
    AFunP Try.prog 121 [.fz l.length (prow l), .fn g [] cs] (fun u => ∃ r, u = .int .i64 r ∧ (0 ≤ r ↔ ∃ a ∈ l, p a)) := by
  refine afun_of Try.func121 Try.call121 rfl Try.ntmps121 rfl ?_
  have W : Walk Try.prog TT 121 _ := Walk.of TT_ok Try.func121 Try.results121
  refine go_loop W 0 200 (σ := Nat) (fun i => [(0, .fz l.length (prow l)), (1, .fn g [] cs), (7, .int .i64 l.length), (8, .int .i64 i)]) (fun _ => []) (fun i => l.length - i) (fun i => i ≤ l.length ∧ ∀ j, j < i → ¬ p (l.getD j (0, 0))) 0 [0, 1, 7, 8] rfl rfl rfl trivial
    ⟨Nat.zero_le _, fun j hj => by omega⟩ ?_
  rintro i ⟨hi, he⟩ ih
  refine sp W 0 rfl rfl rfl (fun h1 => ?_) (fun h1 => ?_)
  · have h1 : i < l.length := by omega
    refine go_callE W 0 300 rfl (by first | exact True.intro | (simp only [AllC, AllP, addN, Int.toNat_natCast, true_and, and_true, Option.getD, List.length_set, wrapU, pw1, pw7, pw8, pw16, pw23, pw32, pw52, Holds] <;> first | omega | ((repeat' apply And.intro) <;> first | omega | (intros; rfl))) | (simp [AllC, AllP, addN, cloL, clo, mrgL, mrg, wrapU, Holds] <;> omega)) (by simp [cloL, clo, hc]) (h (l.getD i (0, 0)) (getD_mem h1)) rfl ?_
    refine sp W 0 rfl rfl rfl (fun h2 => ?_) (fun h2 => ?_)
    · refine rq W 0 rfl rfl (.int .i64 (i : Int)) (⟨_, rfl, ?_⟩) rfl .refl
      simp only [Int.natCast_nonneg, true_iff]
      exact ⟨_, getD_mem h1, h2⟩
    · refine go_back W 0 200 (ds := [0, 1, 7, 8]) rfl rfl (by first | exact True.intro | (simp only [AllC, AllP, addN, Int.toNat_natCast, true_and, and_true, Option.getD, List.length_set, wrapU, pw1, pw7, pw8, pw16, pw23, pw32, pw52, Holds] <;> first | omega | ((repeat' apply And.intro) <;> first | omega | (intros; rfl))) | (simp [AllC, AllP, addN, cloL, clo, mrgL, mrg, wrapU, Holds] <;> omega)) (ih (i + 1) ⟨by omega, fun j hj => ?_⟩ (by omega))
      by_cases hji : j = i
      · subst hji; exact h2
      · exact he j (by omega)
  · refine rq W 0 rfl rfl (.int .i64 (-1)) (⟨_, rfl, ?_⟩) rfl .refl
    constructor
    · intro h; omega
    · rintro ⟨a, ha, hp⟩
      obtain ⟨j, hj, rfl⟩ := mem_getD (0, 0) ha
      exact absurd hp (he j (by omega))
theorem containsPair_ok (l : List (Int × Int)) (g : FuncId) (cs : List AV) (p : Int × Int → Prop) (hl : l.length ≤ 9223372036854775806) (hc : cloL cs = true)
    (h : ∀ a ∈ l, AFunP Try.prog g (.agg [.int .i64 a.1, .int .i64 a.2] :: cs) (· = .pr (p a))) :
    AFunP Try.prog 60 [.fz l.length (prow l), .fn g [] cs] (· = .pr (∃ a ∈ l, p a)) := by
  refine afun_of Try.func60 Try.call60 rfl Try.ntmps60 rfl ?_
  have W : Walk Try.prog TT 60 _ := Walk.of TT_ok Try.func60 Try.results60
  refine go_callQ W 0 300 rfl (by first | exact True.intro | (simp only [AllC, AllP, addN, Int.toNat_natCast, true_and, and_true, Option.getD, List.length_set, wrapU, pw1, pw7, pw8, pw16, pw23, pw32, pw52, Holds] <;> first | omega | ((repeat' apply And.intro) <;> first | omega | (intros; rfl))) | (simp [AllC, AllP, addN, cloL, clo, mrgL, mrg, wrapU, Holds] <;> omega)) (by simp [cloL, clo, hc]) (indexPair_ok l g cs p hl hc h) ?_
  rintro _ ⟨r, rfl, hr⟩
  refine ⟨_, rfl, ?_⟩
  refine rp W 0 rfl rfl rfl (.pr hr)
def boxOk (w : Int) (l : List (Int × Int)) : Prop := 1 ≤ l.length ∧ l.length ≤ 6 ∧ ∀ a ∈ l, pairOk w a.1 a.2
theorem boxOk1_ok (w a b : Int) : AFunP Try.prog 61 [.agg [.int .i64 a, .int .i64 b], .fptr [.int .i64 w] 0] (· = .pr ¬pairOk w a b) := by
  refine afun_of Try.func61 Try.call61 rfl Try.ntmps61 rfl ?_
  have W : Walk Try.prog TT 61 _ := Walk.of TT_ok Try.func61 Try.results61
  refine ce W 0 rfl rfl (implPairOk_ok w a b) rfl ?_
  refine rp W 0 rfl rfl rfl (.refl)
theorem implBoxOk_ok (w : Int) (l : List (Int × Int)) (hl : l.length ≤ 9223372036854775806) : AFunP Try.prog 15 [.int .i64 w, bx l] (· = .pr (boxOk w l)) := by
  refine afun_of Try.func15 Try.call15 rfl Try.ntmps15 rfl ?_
  have W : Walk Try.prog TT 15 _ := Walk.of TT_ok Try.func15 Try.results15
  refine ce W 0 rfl rfl (in_ok _ _ _) rfl ?_
  refine sp W 0 rfl rfl rfl (fun h => ?_) (fun h => ?_)
  · refine go_callF W 0 300 [0] [9] rfl (by first | exact True.intro | (simp only [AllC, AllP, addN, Int.toNat_natCast, true_and, and_true, Option.getD, List.length_set, wrapU, pw1, pw7, pw8, pw16, pw23, pw32, pw52, Holds] <;> first | omega | ((repeat' apply And.intro) <;> first | omega | (intros; rfl))) | (simp [AllC, AllP, addN, cloL, clo, mrgL, mrg, wrapU, Holds] <;> omega)) rfl rfl rfl rfl rfl (by first | exact True.intro | (simp only [AllC, AllP, addN, Int.toNat_natCast, true_and, and_true, Option.getD, List.length_set, wrapU, pw1, pw7, pw8, pw16, pw23, pw32, pw52, Holds] <;> first | omega | ((repeat' apply And.intro) <;> first | omega | (intros; rfl))) | (simp [AllC, AllP, addN, cloL, clo, mrgL, mrg, wrapU, Holds] <;> omega)) (by first | exact True.intro | (simp only [AllC, AllP, addN, Int.toNat_natCast, true_and, and_true, Option.getD, List.length_set, wrapU, pw1, pw7, pw8, pw16, pw23, pw32, pw52, Holds] <;> first | omega | ((repeat' apply And.intro) <;> first | omega | (intros; rfl))) | (simp [AllC, AllP, addN, cloL, clo, mrgL, mrg, wrapU, Holds] <;> omega)) (by first | exact True.intro | (simp only [AllC, AllP, addN, Int.toNat_natCast, true_and, and_true, Option.getD, List.length_set, wrapU, pw1, pw7, pw8, pw16, pw23, pw32, pw52, Holds] <;> first | omega | ((repeat' apply And.intro) <;> first | omega | (intros; rfl))) | (simp [AllC, AllP, addN, cloL, clo, mrgL, mrg, wrapU, Holds] <;> omega)) (containsPair_ok l _ _ (fun a => ¬pairOk w a.1 a.2) hl rfl fun a ha => boxOk1_ok w a.1 a.2) rfl ?_
    have e : (¬ ∃ a ∈ l, ¬ pairOk w a.1 a.2) ↔ boxOk w l := by
      simp only [boxOk]
      constructor
      · intro h2; exact ⟨by omega, by omega, fun a ha => Classical.byContradiction fun h3 => h2 ⟨a, ha, h3⟩⟩
      · rintro ⟨_, _, h3⟩ ⟨a, ha, h4⟩; exact h4 (h3 a ha)
    refine rp W 0 rfl rfl rfl (.pr e)
  · refine rp W 0 rfl rfl rfl (.no (by simp only [boxOk]; omega))
end Pf
/- Pairs and boxes: steps, what two have in common. -/
namespace Pf
open Go Go.Proofs

def InI (n : Int) : Prop := -9223372036854775808 ≤ n ∧ n ≤ 9223372036854775807
def gap (a b : Int) : Int := if b < a then 0 else b - a
theorem bitGap_ok (a b : Int) (ha : InI a) (hb : InI b) : AFunP Try.prog 126 [.int .i64 a, .int .i64 b] (· = .int .u64 (gap a b)) := by
  refine afun_of Try.func126 Try.call126 rfl Try.ntmps126 rfl ?_
  have W : Walk Try.prog TT 126 _ := Walk.of TT_ok Try.func126 Try.results126
  unfold InI at *
  refine sp W 0 rfl rfl rfl (fun h => ?_) (fun h => ?_)
  · refine rp W 0 rfl rfl rfl (.int (by simp [gap, h]))
  · refine rp W 1 rfl rfl rfl (.int (by simp only [gap, if_neg h, wrapU]; omega))
theorem steps_ok (a b : Int) (ha : InI a) (hb : InI b) : AFunP Try.prog 66 [.agg [.int .i64 a, .int .i64 b]] (· = .int .u64 (gap a b)) := by
  refine afun_of Try.func66 Try.call66 rfl Try.ntmps66 rfl ?_
  have W : Walk Try.prog TT 66 _ := Walk.of TT_ok Try.func66 Try.results66
  refine ce W 0 rfl rfl (bitGap_ok a b ha hb) rfl ?_
  refine rp W 0 rfl rfl rfl (.refl)
def meetOk (w : Int) (a b : Int × Int) : Prop := pairOk w a.1 a.2 ∧ pairOk w b.1 b.2 ∧ max a.1 b.1 ≤ min a.2 b.2
theorem meet_pair {w : Int} {a b : Int × Int} (ha : pairOk w a.1 a.2) (hb : pairOk w b.1 b.2) : pairOk w (max a.1 b.1) (min a.2 b.2) ↔ max a.1 b.1 ≤ min a.2 b.2 := by
  unfold pairOk bitOk at *
  obtain ⟨⟨h1, h2⟩, ⟨_, h3⟩, h4⟩ := ha
  obtain ⟨⟨_, k2⟩, ⟨_, k3⟩, k4⟩ := hb
  constructor
  · exact fun h => h.2.2.1
  · intro h; exact ⟨⟨h1, by omega⟩, ⟨h1, by omega⟩, by omega⟩
open Classical in
noncomputable def pmeet (w : Int) (a b : Int × Int) : Int × Int := if meetOk w a b then (max a.1 b.1, min a.2 b.2) else (0, 0)
def pairV (a : Int × Int) : AV := .agg [.int .i64 a.1, .int .i64 a.2]
theorem pmeet_yes {w : Int} {a b : Int × Int} (h : meetOk w a b) : pmeet w a b = (max a.1 b.1, min a.2 b.2) := by simp [pmeet, h]
theorem pmeet_no {w : Int} {a b : Int × Int} (h : ¬ meetOk w a b) : pmeet w a b = (0, 0) := by simp [pmeet, h]
theorem implPairMeet_ok (w : Int) (a b : Int × Int) : AFunP Try.prog 57 [.int .i64 w, pairV a, pairV b] (· = .tup [pairV (pmeet w a b), .pr (meetOk w a b)]) := by
  refine afun_of Try.func57 Try.call57 rfl Try.ntmps57 rfl ?_
  have W : Walk Try.prog TT 57 _ := Walk.of TT_ok Try.func57 Try.results57
  (repeat' (first | (refine sp W 0 rfl rfl rfl (fun _ => ?_) (fun _ => ?_)) | (refine ce W 0 rfl rfl (implPairOk_ok _ _ _) rfl ?_))) <;> (first | skip)
  all_goals (first
    | (refine go_retP W 0 300 rfl (by first | exact True.intro | (simp only [AllC, AllP, addN, Int.toNat_natCast, true_and, and_true, Option.getD, List.length_set, wrapU, pw1, pw7, pw8, pw16, pw23, pw32, pw52, Holds] <;> first | omega | ((repeat' apply And.intro) <;> first | omega | (intros; rfl))) | (simp [AllC, AllP, addN, cloL, clo, mrgL, mrg, wrapU, Holds] <;> omega)) rfl (by first | exact True.intro | (simp only [AllC, AllP, addN, Int.toNat_natCast, true_and, and_true, Option.getD, List.length_set, wrapU, pw1, pw7, pw8, pw16, pw23, pw32, pw52, Holds] <;> first | omega | ((repeat' apply And.intro) <;> first | omega | (intros; rfl))) | (simp [AllC, AllP, addN, cloL, clo, mrgL, mrg, wrapU, Holds] <;> omega)) rfl (.tup ⟨.eq ?_, .yes ?_, trivial⟩) <;> simp_all [meet_pair, meetOk, pmeet, pairV, Int.not_le]; done)
    | (refine go_retP W 0 300 rfl (by first | exact True.intro | (simp only [AllC, AllP, addN, Int.toNat_natCast, true_and, and_true, Option.getD, List.length_set, wrapU, pw1, pw7, pw8, pw16, pw23, pw32, pw52, Holds] <;> first | omega | ((repeat' apply And.intro) <;> first | omega | (intros; rfl))) | (simp [AllC, AllP, addN, cloL, clo, mrgL, mrg, wrapU, Holds] <;> omega)) rfl (by first | exact True.intro | (simp only [AllC, AllP, addN, Int.toNat_natCast, true_and, and_true, Option.getD, List.length_set, wrapU, pw1, pw7, pw8, pw16, pw23, pw32, pw52, Holds] <;> first | omega | ((repeat' apply And.intro) <;> first | omega | (intros; rfl))) | (simp [AllC, AllP, addN, cloL, clo, mrgL, mrg, wrapU, Holds] <;> omega)) rfl (.tup ⟨.eq ?_, .no ?_, trivial⟩) <;> simp_all [meet_pair, meetOk, pmeet, pairV, Int.not_le] <;> rw [if_neg (by omega)] <;> exact ⟨rfl, rfl⟩))

/-- Two boxes. -/
def bmeetOk (w : Int) (a b : List (Int × Int)) : Prop := boxOk w a ∧ boxOk w b ∧ a.length = b.length ∧ ∀ i, i < a.length → meetOk w (a.getD i (0, 0)) (b.getD i (0, 0))
open Classical in
noncomputable def bmeet (w : Int) (a b : List (Int × Int)) : List (Int × Int) := if bmeetOk w a b then (List.range a.length).map fun i => pmeet w (a.getD i (0, 0)) (b.getD i (0, 0)) else []
theorem bx_nil : Sub (.agg [.nils]) (bx []) := .agg ⟨.nils_fz, trivial⟩
theorem implBoxMeet_ok (w : Int) (a b : List (Int × Int)) (ha : a.length ≤ 1000000000000) (hb : b.length ≤ 1000000000000) : AFunP Try.prog 13 [.int .i64 w, bx a, bx b] (· = .tup [bx (bmeet w a b), .pr (bmeetOk w a b)]) := by
  refine afun_of Try.func13 Try.call13 rfl Try.ntmps13 rfl ?_
  have W : Walk Try.prog TT 13 _ := Walk.of TT_ok Try.func13 Try.results13
  refine ce W 0 rfl rfl (implBoxOk_ok w a (by omega)) rfl ?_
  refine sp W 0 rfl rfl rfl (fun h1 => ?_) (fun h1 => ?_)
  case refine_1 => refine rp W 0 rfl rfl rfl (.tup ⟨.trans bx_nil (.eq (by simp_all [bmeet, bmeetOk])), .no (by simp_all [bmeetOk]), trivial⟩)
  refine ce W 0 rfl rfl (implBoxOk_ok w b (by omega)) rfl ?_
  refine sp W 0 rfl rfl rfl (fun h2 => ?_) (fun h2 => ?_)
  case refine_1 => refine rp W 0 rfl rfl rfl (.tup ⟨.trans bx_nil (.eq (by simp_all [bmeet, bmeetOk])), .no (by simp_all [bmeetOk]), trivial⟩)
  refine sp W 0 rfl rfl rfl (fun h3 => ?_) (fun h3 => ?_)
  case refine_1 =>
    have h3 : ¬ a.length = b.length := by omega
    refine rp W 0 rfl rfl rfl (.tup ⟨.trans bx_nil (.eq (by simp_all [bmeet, bmeetOk])), .no (by simp_all [bmeetOk]), trivial⟩)
  have h1 := Classical.not_not.1 h1
  have h2 := Classical.not_not.1 h2
  have h3 : a.length = b.length := by omega
  refine go_loop W 0 300 (σ := Nat × (Nat → Int) × (Nat → Int)) (fun s => [(0, .int .i64 w), (4, .ptr 0 0 0 0), (5, .ptr 1 0 0 0), (6, .ptr 2 0 0 0), (8, .ptr 4 0 0 0), (39, .int .i64 a.length), (40, .int .i64 s.1)])
    (fun s => [.lst 0 [[.fz a.length (prow a)]], .lst 0 [[.fz b.length (prow b)]], .lst 0 [[.nils]], .tab 0 a.length fun j => [.int .i64 (s.2.1 j), .int .i64 (s.2.2 j)], .lst 0 [[.sl 3 0 0 a.length]]])
    (fun s => a.length - s.1) (fun s => s.1 ≤ a.length ∧ ∀ j, j < s.1 → meetOk w (a.getD j (0, 0)) (b.getD j (0, 0)) ∧ (s.2.1 j, s.2.2 j) = pmeet w (a.getD j (0, 0)) (b.getD j (0, 0))) (0, fun _ => 0, fun _ => 0) [0, 4, 5, 6, 8, 39, 40] rfl rfl rfl (by first | exact True.intro | (simp only [AllC, AllP, addN, Int.toNat_natCast, true_and, and_true, Option.getD, List.length_set, wrapU, pw1, pw7, pw8, pw16, pw23, pw32, pw52, Holds] <;> first | omega | ((repeat' apply And.intro) <;> first | omega | (intros; rfl))) | (simp [AllC, AllP, addN, cloL, clo, mrgL, mrg, wrapU, Holds] <;> omega))
    ⟨Nat.zero_le _, fun j hj => by omega⟩ ?_
  rintro ⟨i, F, G⟩ ⟨hi, he⟩ ih
  dsimp only at hi he ih ⊢
  refine sp W 0 rfl rfl rfl (fun h4 => ?_) (fun h4 => ?_)
  · have h4 : i < a.length := by omega
    have hm := implPairMeet_ok w (a.getD i (0, 0)) (b.getD i (0, 0))
    refine go_ph W 0 300 17 [15, 16] rfl (by first | exact True.intro | (simp only [AllC, AllP, addN, Int.toNat_natCast, true_and, and_true, Option.getD, List.length_set, wrapU, pw1, pw7, pw8, pw16, pw23, pw32, pw52, Holds] <;> first | omega | ((repeat' apply And.intro) <;> first | omega | (intros; rfl))) | (simp [AllC, AllP, addN, cloL, clo, mrgL, mrg, wrapU, Holds] <;> omega)) rfl (fun PW => ?_)
    refine ph_op PW 0 15 [] [.tup [pairV (pmeet w (a.getD i (0, 0)) (b.getD i (0, 0))), .pr (meetOk w (a.getD i (0, 0)) (b.getD i (0, 0)))]] rfl rfl (by first | exact True.intro | (simp only [AllC, AllP, addN, Int.toNat_natCast, true_and, and_true, Option.getD, List.length_set, wrapU, pw1, pw7, pw8, pw16, pw23, pw32, pw52, Holds] <;> first | omega | ((repeat' apply And.intro) <;> first | omega | (intros; rfl))) | (simp [AllC, AllP, addN, cloL, clo, mrgL, mrg, wrapU, Holds] <;> omega)) ⟨hm.at rfl _, trivial⟩ rfl (by first | exact True.intro | (simp only [AllC, AllP, addN, Int.toNat_natCast, true_and, and_true, Option.getD, List.length_set, wrapU, pw1, pw7, pw8, pw16, pw23, pw32, pw52, Holds] <;> first | omega | ((repeat' apply And.intro) <;> first | omega | (intros; rfl))) | (simp [AllC, AllP, addN, cloL, clo, mrgL, mrg, wrapU, Holds] <;> omega)) rfl ?_
    refine ph_op PW 0 16 [] [.tup [pairV (pmeet w (a.getD i (0, 0)) (b.getD i (0, 0))), .pr (meetOk w (a.getD i (0, 0)) (b.getD i (0, 0)))]] rfl rfl (by first | exact True.intro | (simp only [AllC, AllP, addN, Int.toNat_natCast, true_and, and_true, Option.getD, List.length_set, wrapU, pw1, pw7, pw8, pw16, pw23, pw32, pw52, Holds] <;> first | omega | ((repeat' apply And.intro) <;> first | omega | (intros; rfl))) | (simp [AllC, AllP, addN, cloL, clo, mrgL, mrg, wrapU, Holds] <;> omega)) ⟨hm.at rfl _, trivial⟩ rfl (by first | exact True.intro | (simp only [AllC, AllP, addN, Int.toNat_natCast, true_and, and_true, Option.getD, List.length_set, wrapU, pw1, pw7, pw8, pw16, pw23, pw32, pw52, Holds] <;> first | omega | ((repeat' apply And.intro) <;> first | omega | (intros; rfl))) | (simp [AllC, AllP, addN, cloL, clo, mrgL, mrg, wrapU, Holds] <;> omega)) rfl ?_
    refine ph_end PW 0 [] [] rfl (by first | exact True.intro | (simp only [AllC, AllP, addN, Int.toNat_natCast, true_and, and_true, Option.getD, List.length_set, wrapU, pw1, pw7, pw8, pw16, pw23, pw32, pw52, Holds] <;> first | omega | ((repeat' apply And.intro) <;> first | omega | (intros; rfl))) | (simp [AllC, AllP, addN, cloL, clo, mrgL, mrg, wrapU, Holds] <;> omega)) (by first | exact True.intro | (simp only [AllC, AllP, addN, Int.toNat_natCast, true_and, and_true, Option.getD, List.length_set, wrapU, pw1, pw7, pw8, pw16, pw23, pw32, pw52, Holds] <;> first | omega | ((repeat' apply And.intro) <;> first | omega | (intros; rfl))) | (simp [AllC, AllP, addN, cloL, clo, mrgL, mrg, wrapU, Holds] <;> omega)) rfl ?_
    refine sp W 0 rfl rfl rfl (fun h5 => ?_) (fun h5 => ?_)
    · have hn : ¬ bmeetOk w a b := fun h => h5 (h.2.2.2 i h4)
      refine rp W 0 rfl rfl rfl (.tup ⟨.trans bx_nil (.eq (by simp [bmeet, hn])), .no hn, trivial⟩)
    · have h5 := Classical.not_not.1 h5
      refine bd W 0 5 [0, 4, 5, 6, 8, 39, 40] rfl rfl rfl rfl rfl (ih (i + 1, fun j => if j = i then (pmeet w (a.getD i (0, 0)) (b.getD i (0, 0))).1 else F j, fun j => if j = i then (pmeet w (a.getD i (0, 0)) (b.getD i (0, 0))).2 else G j) ⟨?_, fun j hj => ?_⟩ ?_)
      · dsimp only; omega
      · dsimp only
        by_cases hji : j = i
        · subst hji; exact ⟨h5, by rw [if_pos rfl, if_pos rfl]⟩
        · rw [if_neg hji, if_neg hji]; exact he j (by omega)
      · dsimp only; omega
  · have hil : i = a.length := by omega
    subst hil
    have hb : bmeetOk w a b := ⟨h1, h2, h3, fun j hj => (he j hj).1⟩
    have hlen : (bmeet w a b).length = a.length := by simp [bmeet, hb]
    refine rp W 0 rfl rfl rfl (.tup ⟨.agg ⟨.fzn hlen.symm fun j hj => ?_, trivial⟩, .yes hb, trivial⟩)
    have := (he j hj).2
    have e : (bmeet w a b).getD j (0, 0) = pmeet w (a.getD j (0, 0)) (b.getD j (0, 0)) := by simp [bmeet, hb, List.getD_eq_getElem?_getD, hj]
    unfold prow; rw [e, ← this]
end Pf
/- Boxes: one within another, units, paths, fineness. -/
namespace Pf
open Go Go.Proofs

theorem equalPair_ok (l m : List (Int × Int)) (hl : l.length ≤ 1000000000000) :
    AFunP Try.prog 63 [.fz l.length (prow l), .fz m.length (prow m), .fn 64 [] []] (· = .pr (l.length = m.length ∧ ∀ i, i < l.length → (m.getD i (0, 0)).1 ≤ (l.getD i (0, 0)).1 ∧ (l.getD i (0, 0)).2 ≤ (m.getD i (0, 0)).2)) := by
  refine afun_of Try.func63 Try.call63 rfl Try.ntmps63 rfl ?_
  have W : Walk Try.prog TT 63 _ := Walk.of TT_ok Try.func63 Try.results63
  refine sp W 0 rfl rfl rfl (fun h1 => ?_) (fun h1 => ?_)
  · refine rp W 0 rfl rfl rfl (.no (by omega))
  have h1 : l.length = m.length := by omega
  refine go_loop W 0 300 (σ := Nat) (fun i => [(0, .fz l.length (prow l)), (1, .fz m.length (prow m)), (2, .fn 64 [] []), (15, .fz l.length (prow l)), (16, .int .i64 l.length), (17, .int .i64 i)]) (fun _ => []) (fun i => l.length - i) (fun i => i ≤ l.length ∧ ∀ j, j < i → (m.getD j (0, 0)).1 ≤ (l.getD j (0, 0)).1 ∧ (l.getD j (0, 0)).2 ≤ (m.getD j (0, 0)).2) 0 [0, 1, 2, 15, 16, 17] rfl rfl rfl (by first | exact True.intro | (simp only [AllC, AllP, addN, Int.toNat_natCast, true_and, and_true, Option.getD, List.length_set, wrapU, pw1, pw7, pw8, pw16, pw23, pw32, pw52, Holds] <;> first | omega | ((repeat' apply And.intro) <;> first | omega | (intros; rfl))) | (simp [AllC, AllP, addN, cloL, clo, mrgL, mrg, wrapU, Holds] <;> omega))
    ⟨Nat.zero_le _, fun j hj => by omega⟩ ?_
  rintro i ⟨hi, he⟩ ih
  refine sp W 0 rfl rfl rfl (fun h2 => ?_) (fun h2 => ?_)
  · have h2 : i < l.length := by omega
    refine ce W 0 rfl rfl (implPairIs_ok _ _ _ _) rfl ?_
    refine sp W 0 rfl rfl rfl (fun h3 => ?_) (fun h3 => ?_)
    · refine rp W 0 rfl rfl rfl (.no (fun h => h3 (h.2 i h2)))
    · refine bd W 0 0 [0, 1, 2, 15, 16, 17] rfl rfl rfl rfl rfl (ih (i + 1) ⟨by omega, fun j hj => ?_⟩ (by omega))
      by_cases hji : j = i
      · subst hji; exact Classical.not_not.1 h3
      · exact he j (by omega)
  · refine rp W 0 rfl rfl rfl (.yes ⟨h1, fun j hj => he j (by omega)⟩)
def boxIs (l m : List (Int × Int)) : Prop := l.length = m.length ∧ ∀ i, i < l.length → (m.getD i (0, 0)).1 ≤ (l.getD i (0, 0)).1 ∧ (l.getD i (0, 0)).2 ≤ (m.getD i (0, 0)).2
theorem implBoxIs_ok (l m : List (Int × Int)) (hl : l.length ≤ 1000000000000) : AFunP Try.prog 16 [bx l, bx m] (· = .pr (boxIs l m)) := by
  refine afun_of Try.func16 Try.call16 rfl Try.ntmps16 rfl ?_
  have W : Walk Try.prog TT 16 _ := Walk.of TT_ok Try.func16 Try.results16
  refine ce W 0 rfl rfl (equalPair_ok l m hl) rfl ?_
  refine rp W 0 rfl rfl rfl (.refl)

/-- How many boxes are taken at most. -/
def unitsL : List (Int × Int) → Int → Int
  | [], u => u
  | p :: l, u => unitsL l (if 0 < gap p.1 p.2 then min 1000000000 (u * (4 * min (gap p.1 p.2) 1000000000 - 1)) else u)
open Classical in
noncomputable def units (w : Int) (l : List (Int × Int)) : Int := if boxOk w l then unitsL l 1 else 0
theorem unitsL_take (l : List (Int × Int)) (u : Int) (i : Nat) (h : i < l.length) : unitsL (l.take (i + 1)) u = (if 0 < gap (l.getD i (0, 0)).1 (l.getD i (0, 0)).2 then min 1000000000 (unitsL (l.take i) u * (4 * min (gap (l.getD i (0, 0)).1 (l.getD i (0, 0)).2) 1000000000 - 1)) else unitsL (l.take i) u) := by
  induction l generalizing u i with
  | nil => simp at h
  | cons p l ih =>
    cases i with
    | zero => simp [unitsL]
    | succ i =>
      have := ih (if 0 < gap p.1 p.2 then min 1000000000 (u * (4 * min (gap p.1 p.2) 1000000000 - 1)) else u) i (by simpa using h)
      simpa [unitsL] using this
theorem pairOk_rng {w a b : Int} (h : pairOk w a b) : -9218868437227405312 ≤ a ∧ a ≤ b ∧ b ≤ 9218868437227405312 := by
  have := top_rng w
  unfold pairOk bitOk at h
  omega
theorem gap_rng {a b : Int} (h : -9218868437227405312 ≤ a ∧ a ≤ b ∧ b ≤ 9218868437227405312) : gap a b = b - a ∧ 0 ≤ gap a b ∧ gap a b ≤ 18437736874454810624 := by
  unfold gap; rw [if_neg (by omega)]; omega
theorem boxOk_get {w : Int} {l : List (Int × Int)} (h : boxOk w l) {i : Nat} (hi : i < l.length) : pairOk w (l.getD i (0, 0)).1 (l.getD i (0, 0)).2 := h.2.2 _ (getD_mem hi)
theorem implBoxUnits_ok (w : Int) (l : List (Int × Int)) (hl : l.length ≤ 1000000000000) : AFunP Try.prog 18 [.int .i64 w, bx l] (· = .int .i64 (units w l)) := by
  refine afun_of Try.func18 Try.call18 rfl Try.ntmps18 rfl ?_
  have W : Walk Try.prog TT 18 _ := Walk.of TT_ok Try.func18 Try.results18
  refine ce W 0 rfl rfl (implBoxOk_ok w l (by omega)) rfl ?_
  refine sp W 0 rfl rfl rfl (fun h => ?_) (fun h => ?_)
  · refine rp W 0 rfl rfl rfl (.int (by simp [units, h]))
  have h := Classical.not_not.1 h
  refine go_loop W 0 300 (σ := Nat) (fun i => [(5, .int .i64 (unitsL (l.take i) 1)), (14, .fz l.length (prow l)), (15, .int .i64 l.length), (16, .int .i64 i)]) (fun i => [.lst 0 [[.fz l.length (prow l)]]]) (fun i => l.length - i) (fun i => i ≤ l.length ∧ 0 ≤ unitsL (l.take i) 1 ∧ unitsL (l.take i) 1 ≤ 1000000000) 0 [5, 14, 15, 16] rfl rfl rfl (by first | exact True.intro | (simp only [AllC, AllP, addN, Int.toNat_natCast, true_and, and_true, Option.getD, List.length_set, wrapU, pw1, pw7, pw8, pw16, pw23, pw32, pw52, Holds] <;> first | omega | ((repeat' apply And.intro) <;> first | omega | (intros; rfl))) | (simp [AllC, AllP, addN, cloL, clo, mrgL, mrg, wrapU, Holds] <;> omega))
    ⟨Nat.zero_le _, by simp [unitsL], by simp [unitsL]⟩ ?_
  rintro i ⟨hi, h0, h1⟩ ih
  refine sp W 0 rfl rfl rfl (fun h2 => ?_) (fun h2 => ?_)
  · have h2 : i < l.length := by omega
    have hp := pairOk_rng (boxOk_get h h2)
    have hg := gap_rng hp
    have ht := unitsL_take l 1 i h2
    refine ce W 0 rfl rfl (steps_ok _ _ (by unfold InI; simp only [Int.toNat_natCast]; omega) (by unfold InI; simp only [Int.toNat_natCast]; omega)) rfl ?_
    simp only [Int.toNat_natCast]
    generalize hG : gap (l.getD i (0, 0)).1 (l.getD i (0, 0)).2 = G at *
    generalize hU : unitsL (l.take i) 1 = U at *
    have hm : 0 ≤ U * (4 * min G 1000000000 - 1) ∨ G = 0 := by
      by_cases hG0 : G = 0
      · exact .inr hG0
      · exact .inl (Int.mul_nonneg h0 (by omega))
    have hM : U * (4 * min G 1000000000 - 1) ≤ 1000000000 * 4000000000 := by
      by_cases hG0 : G = 0
      · rw [hG0, show min (0 : Int) 1000000000 = 0 from rfl]; omega
      · exact Int.mul_le_mul h1 (by omega) (by omega) (by omega)
    refine sp W 0 rfl rfl rfl (fun h3 => ?_) (fun h3 => ?_)
    · rw [if_pos h3] at ht
      have nx := ih (i + 1) ⟨by omega, by rw [ht]; omega, by rw [ht]; omega⟩ (by omega)
      rw [ht] at nx
      refine bd W 0 1 [5, 14, 15, 16] rfl rfl rfl rfl rfl (nx)
    · rw [if_neg h3] at ht
      have nx := ih (i + 1) ⟨by omega, by rw [ht]; omega, by rw [ht]; omega⟩ (by omega)
      rw [ht] at nx
      refine bd W 0 1 [5, 14, 15, 16] rfl rfl rfl rfl rfl (nx)
  · have : i = l.length := by omega
    subst this
    refine rp W 0 rfl rfl rfl (.int (by simp [units, h]))

/-- How many bits a number has. -/
def bitL (n : Nat) : Nat := if h : n = 0 then 0 else bitL (n / 2) + 1
termination_by n
decreasing_by omega
theorem bitL_zero : bitL 0 = 0 := by rw [bitL]; simp
theorem bitL_pos {n : Nat} (h : n ≠ 0) : bitL n = bitL (n / 2) + 1 := by rw [bitL]; simp [h]
theorem bitL_shift : ∀ (j n : Nat), 2 ^ j ≤ n → bitL n = bitL (n / 2 ^ j) + j
  | 0, n, h => by simp
  | j + 1, n, h => by
    have h2 : 2 ^ j ≤ n / 2 := by rw [Nat.pow_succ] at h; omega
    rw [bitL_pos (by have : 0 < 2 ^ (j + 1) := Nat.pow_pos (by omega)
                     omega), bitL_shift j (n / 2) h2, Nat.div_div_eq_div_mul, Nat.pow_succ, Nat.mul_comm 2]; omega
theorem bitL_lt : ∀ (k n : Nat), bitL n ≤ k ↔ n < 2 ^ k
  | 0, n => by
    by_cases h : n = 0
    · subst h; simp [bitL_zero]
    · rw [bitL_pos h]; simp; omega
  | k + 1, n => by
    by_cases h : n = 0
    · subst h; simp [bitL_zero]; exact Nat.pow_pos (by omega)
    · rw [bitL_pos h]
      have := bitL_lt k (n / 2)
      rw [Nat.pow_succ]; omega
theorem bitL_mono {a b : Nat} (h : a ≤ b) : bitL a ≤ bitL b := by
  rw [bitL_lt]
  have := (bitL_lt (bitL b) b).1 (Nat.le_refl _)
  omega
def bitLen (n : Int) : Int := bitL n.toNat
def bitF : Nat → Nat → Nat
  | 0, _ => 0
  | f + 1, n => match n with | 0 => 0 | n + 1 => bitF f ((n + 1) / 2) + 1
theorem bitF_eq : ∀ (f n : Nat), n < 2 ^ f → bitF f n = bitL n
  | 0, n, h => by have : n = 0 := by simpa using h
                  subst this; simp [bitF, bitL_zero]
  | f + 1, 0, h => by simp [bitF, bitL_zero]
  | f + 1, n + 1, h => by
    simp only [bitF]
    rw [bitL_pos (by omega), bitF_eq f _ (by rw [Nat.pow_succ] at h; omega)]
/-- The table of bits/bits_tables.go. -/
def tbl : List UInt8 := [0, 1] ++ List.replicate 2 2 ++ List.replicate 4 3 ++ List.replicate 8 4 ++ List.replicate 16 5 ++ List.replicate 32 6 ++ List.replicate 64 7 ++ List.replicate 128 8
theorem tbl_ok (k : Nat) (h : k < 256) : (tbl.getD k 0).toNat = bitL k := by
  rw [← bitF_eq 8 k (by omega)]
  exact (by decide +kernel : ∀ k, k < 256 → (tbl.getD k 0).toNat = bitF 8 k) k h
theorem tbl_len : tbl.length = 256 := by decide +kernel
theorem tbl_int (k : Int) (h0 : 0 ≤ k) (h : k < 256) : (((tbl.getD k.toNat 0).toNat : Nat) : Int) = bitLen k ∧ 0 ≤ bitLen k ∧ bitLen k ≤ 8 := by
  rw [tbl_ok k.toNat (by omega)]
  refine ⟨rfl, by unfold bitLen; omega, ?_⟩
  have := (bitL_lt 8 k.toNat).2 (by omega)
  unfold bitLen; omega
theorem bitLen_shift (j : Nat) (n : Int) (h : 2 ^ j ≤ n) : bitLen n = bitLen (n / 2 ^ j) + j := by
  have hp : (0 : Int) < 2 ^ j := Int.pow_pos (by omega)
  obtain ⟨m, rfl⟩ : ∃ m : Nat, n = m := ⟨n.toNat, by omega⟩
  have e : ((m : Int) / 2 ^ j).toNat = m / 2 ^ j := by
    have : (2 : Int) ^ j = ((2 ^ j : Nat) : Int) := by simp
    rw [this, ← Int.natCast_ediv, Int.toNat_natCast]
  unfold bitLen
  rw [e, Int.toNat_natCast, bitL_shift j m (by exact_mod_cast h)]
  omega
theorem len64_ok (n : Int) (h0 : 0 ≤ n) (h1 : n ≤ 18446744073709551615) : AFunP Try.prog 67 [.int .u64 n] (· = .int .i64 (bitLen n)) := by
  refine afun_of Try.func67 Try.call67 rfl Try.ntmps67 rfl ?_
  have W : Walk Try.prog TT 67 _ := Walk.of TT_ok Try.func67 Try.results67
  refine sp W 0 rfl rfl rfl (fun h32 => ?_) (fun h32 => ?_)
  · have h32 : 4294967296 ≤ n := h32
    refine sp W 0 rfl rfl rfl (fun h16 => ?_) (fun h16 => ?_)
    · have h16 : 65536 ≤ n / 4294967296 := h16
      refine sp W 0 rfl rfl rfl (fun h8 => ?_) (fun h8 => ?_)
      · have h8 : 256 ≤ n / 4294967296 / 65536 := h8
        obtain ⟨b1, b2, b3⟩ := tbl_int (n / 4294967296 / 65536 / 256) (by omega) (by omega)
        have e0 : bitLen (n) = bitLen (n / 4294967296) + 32 := bitLen_shift 32 (n) (by omega)
        have e1 : bitLen (n / 4294967296) = bitLen (n / 4294967296 / 65536) + 16 := bitLen_shift 16 (n / 4294967296) (by omega)
        have e2 : bitLen (n / 4294967296 / 65536) = bitLen (n / 4294967296 / 65536 / 256) + 8 := bitLen_shift 8 (n / 4294967296 / 65536) (by omega)
        have r0 : -9223372036854775808 ≤ 32 + 16 + 8 + ((tbl.getD (n / 4294967296 / 65536 / 256).toNat 0).toNat : Int) ∧ 32 + 16 + 8 + ((tbl.getD (n / 4294967296 / 65536 / 256).toNat 0).toNat : Int) ≤ 9223372036854775807 := by rw [b1]; omega
        have r1 : -9223372036854775808 ≤ ((tbl.getD (n / 4294967296 / 65536 / 256).toNat 0).toNat : Int) ∧ ((tbl.getD (n / 4294967296 / 65536 / 256).toNat 0).toNat : Int) ≤ 9223372036854775807 := by rw [b1]; omega
        have r2 : 0 ≤ n / 4294967296 / 65536 / 256 ∧ n / 4294967296 / 65536 / 256 < ((tbl.length : Nat) : Int) := by rw [tbl_len]; omega
        have r3 : 0 ≤ n / 4294967296 / 65536 / 256 ∧ n / 4294967296 / 65536 / 256 ≤ 255 := by omega
        have r : 32 + 16 + 8 + ((tbl.getD (n / 4294967296 / 65536 / 256).toNat 0).toNat : Int) = bitLen n := by rw [b1]; omega
        exact go_retP W 0 300 rfl ⟨⟨⟨⟨⟨trivial, by omega⟩, r3⟩, r2⟩, r1⟩, r0⟩ rfl trivial rfl (.int r)
      · have h8 : n / 4294967296 / 65536 < 256 := Int.not_le.1 h8
        obtain ⟨b1, b2, b3⟩ := tbl_int (n / 4294967296 / 65536) (by omega) (by omega)
        have e0 : bitLen (n) = bitLen (n / 4294967296) + 32 := bitLen_shift 32 (n) (by omega)
        have e1 : bitLen (n / 4294967296) = bitLen (n / 4294967296 / 65536) + 16 := bitLen_shift 16 (n / 4294967296) (by omega)
        have r0 : -9223372036854775808 ≤ 32 + 16 + ((tbl.getD (n / 4294967296 / 65536).toNat 0).toNat : Int) ∧ 32 + 16 + ((tbl.getD (n / 4294967296 / 65536).toNat 0).toNat : Int) ≤ 9223372036854775807 := by rw [b1]; omega
        have r1 : -9223372036854775808 ≤ ((tbl.getD (n / 4294967296 / 65536).toNat 0).toNat : Int) ∧ ((tbl.getD (n / 4294967296 / 65536).toNat 0).toNat : Int) ≤ 9223372036854775807 := by rw [b1]; omega
        have r2 : 0 ≤ n / 4294967296 / 65536 ∧ n / 4294967296 / 65536 < ((tbl.length : Nat) : Int) := by rw [tbl_len]; omega
        have r3 : 0 ≤ n / 4294967296 / 65536 ∧ n / 4294967296 / 65536 ≤ 255 := by omega
        have r : 32 + 16 + ((tbl.getD (n / 4294967296 / 65536).toNat 0).toNat : Int) = bitLen n := by rw [b1]; omega
        exact go_retP W 0 300 rfl ⟨⟨⟨⟨trivial, r3⟩, r2⟩, r1⟩, r0⟩ rfl trivial rfl (.int r)
    · have h16 : n / 4294967296 < 65536 := Int.not_le.1 h16
      refine sp W 0 rfl rfl rfl (fun h8 => ?_) (fun h8 => ?_)
      · have h8 : 256 ≤ n / 4294967296 := h8
        obtain ⟨b1, b2, b3⟩ := tbl_int (n / 4294967296 / 256) (by omega) (by omega)
        have e0 : bitLen (n) = bitLen (n / 4294967296) + 32 := bitLen_shift 32 (n) (by omega)
        have e1 : bitLen (n / 4294967296) = bitLen (n / 4294967296 / 256) + 8 := bitLen_shift 8 (n / 4294967296) (by omega)
        have r0 : -9223372036854775808 ≤ 32 + 8 + ((tbl.getD (n / 4294967296 / 256).toNat 0).toNat : Int) ∧ 32 + 8 + ((tbl.getD (n / 4294967296 / 256).toNat 0).toNat : Int) ≤ 9223372036854775807 := by rw [b1]; omega
        have r1 : -9223372036854775808 ≤ ((tbl.getD (n / 4294967296 / 256).toNat 0).toNat : Int) ∧ ((tbl.getD (n / 4294967296 / 256).toNat 0).toNat : Int) ≤ 9223372036854775807 := by rw [b1]; omega
        have r2 : 0 ≤ n / 4294967296 / 256 ∧ n / 4294967296 / 256 < ((tbl.length : Nat) : Int) := by rw [tbl_len]; omega
        have r3 : 0 ≤ n / 4294967296 / 256 ∧ n / 4294967296 / 256 ≤ 255 := by omega
        have r : 32 + 8 + ((tbl.getD (n / 4294967296 / 256).toNat 0).toNat : Int) = bitLen n := by rw [b1]; omega
        exact go_retP W 0 300 rfl ⟨⟨⟨⟨⟨trivial, by omega⟩, r3⟩, r2⟩, r1⟩, r0⟩ rfl trivial rfl (.int r)
      · have h8 : n / 4294967296 < 256 := Int.not_le.1 h8
        obtain ⟨b1, b2, b3⟩ := tbl_int (n / 4294967296) (by omega) (by omega)
        have e0 : bitLen (n) = bitLen (n / 4294967296) + 32 := bitLen_shift 32 (n) (by omega)
        have r0 : -9223372036854775808 ≤ 32 + ((tbl.getD (n / 4294967296).toNat 0).toNat : Int) ∧ 32 + ((tbl.getD (n / 4294967296).toNat 0).toNat : Int) ≤ 9223372036854775807 := by rw [b1]; omega
        have r1 : -9223372036854775808 ≤ ((tbl.getD (n / 4294967296).toNat 0).toNat : Int) ∧ ((tbl.getD (n / 4294967296).toNat 0).toNat : Int) ≤ 9223372036854775807 := by rw [b1]; omega
        have r2 : 0 ≤ n / 4294967296 ∧ n / 4294967296 < ((tbl.length : Nat) : Int) := by rw [tbl_len]; omega
        have r3 : 0 ≤ n / 4294967296 ∧ n / 4294967296 ≤ 255 := by omega
        have r : 32 + ((tbl.getD (n / 4294967296).toNat 0).toNat : Int) = bitLen n := by rw [b1]; omega
        exact go_retP W 0 300 rfl ⟨⟨⟨⟨trivial, r3⟩, r2⟩, r1⟩, r0⟩ rfl trivial rfl (.int r)
  · have h32 : n < 4294967296 := Int.not_le.1 h32
    refine sp W 0 rfl rfl rfl (fun h16 => ?_) (fun h16 => ?_)
    · have h16 : 65536 ≤ n := h16
      refine sp W 0 rfl rfl rfl (fun h8 => ?_) (fun h8 => ?_)
      · have h8 : 256 ≤ n / 65536 := h8
        obtain ⟨b1, b2, b3⟩ := tbl_int (n / 65536 / 256) (by omega) (by omega)
        have e0 : bitLen (n) = bitLen (n / 65536) + 16 := bitLen_shift 16 (n) (by omega)
        have e1 : bitLen (n / 65536) = bitLen (n / 65536 / 256) + 8 := bitLen_shift 8 (n / 65536) (by omega)
        have r0 : -9223372036854775808 ≤ 0 + 16 + 8 + ((tbl.getD (n / 65536 / 256).toNat 0).toNat : Int) ∧ 0 + 16 + 8 + ((tbl.getD (n / 65536 / 256).toNat 0).toNat : Int) ≤ 9223372036854775807 := by rw [b1]; omega
        have r1 : -9223372036854775808 ≤ ((tbl.getD (n / 65536 / 256).toNat 0).toNat : Int) ∧ ((tbl.getD (n / 65536 / 256).toNat 0).toNat : Int) ≤ 9223372036854775807 := by rw [b1]; omega
        have r2 : 0 ≤ n / 65536 / 256 ∧ n / 65536 / 256 < ((tbl.length : Nat) : Int) := by rw [tbl_len]; omega
        have r3 : 0 ≤ n / 65536 / 256 ∧ n / 65536 / 256 ≤ 255 := by omega
        have r : 0 + 16 + 8 + ((tbl.getD (n / 65536 / 256).toNat 0).toNat : Int) = bitLen n := by rw [b1]; omega
        exact go_retP W 0 300 rfl ⟨⟨⟨⟨⟨trivial, by omega⟩, r3⟩, r2⟩, r1⟩, r0⟩ rfl trivial rfl (.int r)
      · have h8 : n / 65536 < 256 := Int.not_le.1 h8
        obtain ⟨b1, b2, b3⟩ := tbl_int (n / 65536) (by omega) (by omega)
        have e0 : bitLen (n) = bitLen (n / 65536) + 16 := bitLen_shift 16 (n) (by omega)
        have r0 : -9223372036854775808 ≤ 0 + 16 + ((tbl.getD (n / 65536).toNat 0).toNat : Int) ∧ 0 + 16 + ((tbl.getD (n / 65536).toNat 0).toNat : Int) ≤ 9223372036854775807 := by rw [b1]; omega
        have r1 : -9223372036854775808 ≤ ((tbl.getD (n / 65536).toNat 0).toNat : Int) ∧ ((tbl.getD (n / 65536).toNat 0).toNat : Int) ≤ 9223372036854775807 := by rw [b1]; omega
        have r2 : 0 ≤ n / 65536 ∧ n / 65536 < ((tbl.length : Nat) : Int) := by rw [tbl_len]; omega
        have r3 : 0 ≤ n / 65536 ∧ n / 65536 ≤ 255 := by omega
        have r : 0 + 16 + ((tbl.getD (n / 65536).toNat 0).toNat : Int) = bitLen n := by rw [b1]; omega
        exact go_retP W 0 300 rfl ⟨⟨⟨⟨trivial, r3⟩, r2⟩, r1⟩, r0⟩ rfl trivial rfl (.int r)
    · have h16 : n < 65536 := Int.not_le.1 h16
      refine sp W 0 rfl rfl rfl (fun h8 => ?_) (fun h8 => ?_)
      · have h8 : 256 ≤ n := h8
        obtain ⟨b1, b2, b3⟩ := tbl_int (n / 256) (by omega) (by omega)
        have e0 : bitLen (n) = bitLen (n / 256) + 8 := bitLen_shift 8 (n) (by omega)
        have r0 : -9223372036854775808 ≤ 0 + 8 + ((tbl.getD (n / 256).toNat 0).toNat : Int) ∧ 0 + 8 + ((tbl.getD (n / 256).toNat 0).toNat : Int) ≤ 9223372036854775807 := by rw [b1]; omega
        have r1 : -9223372036854775808 ≤ ((tbl.getD (n / 256).toNat 0).toNat : Int) ∧ ((tbl.getD (n / 256).toNat 0).toNat : Int) ≤ 9223372036854775807 := by rw [b1]; omega
        have r2 : 0 ≤ n / 256 ∧ n / 256 < ((tbl.length : Nat) : Int) := by rw [tbl_len]; omega
        have r3 : 0 ≤ n / 256 ∧ n / 256 ≤ 255 := by omega
        have r : 0 + 8 + ((tbl.getD (n / 256).toNat 0).toNat : Int) = bitLen n := by rw [b1]; omega
        exact go_retP W 0 300 rfl ⟨⟨⟨⟨⟨trivial, by omega⟩, r3⟩, r2⟩, r1⟩, r0⟩ rfl trivial rfl (.int r)
      · have h8 : n < 256 := Int.not_le.1 h8
        obtain ⟨b1, b2, b3⟩ := tbl_int (n) (by omega) (by omega)
        have r0 : -9223372036854775808 ≤ 0 + ((tbl.getD (n).toNat 0).toNat : Int) ∧ 0 + ((tbl.getD (n).toNat 0).toNat : Int) ≤ 9223372036854775807 := by rw [b1]; omega
        have r1 : -9223372036854775808 ≤ ((tbl.getD (n).toNat 0).toNat : Int) ∧ ((tbl.getD (n).toNat 0).toNat : Int) ≤ 9223372036854775807 := by rw [b1]; omega
        have r2 : 0 ≤ n ∧ n < ((tbl.length : Nat) : Int) := by rw [tbl_len]; omega
        have r3 : 0 ≤ n ∧ n ≤ 255 := by omega
        have r : 0 + ((tbl.getD (n).toNat 0).toNat : Int) = bitLen n := by rw [b1]; omega
        exact go_retP W 0 300 rfl ⟨⟨⟨⟨trivial, r3⟩, r2⟩, r1⟩, r0⟩ rfl trivial rfl (.int r)

end Pf
/- Boxes: paths, fineness; the reference's pairs and boxes. -/
namespace Pf
open Go Go.Proofs

/-- How many boxes wait at most. -/
def pathL : List (Int × Int) → Int → Int
  | [], u => u
  | p :: l, u => pathL l (u + bitLen (gap p.1 p.2))
open Classical in
noncomputable def path (w : Int) (l : List (Int × Int)) : Int := if boxOk w l then pathL l 1 else 0
theorem pathL_take (l : List (Int × Int)) (u : Int) (i : Nat) (h : i < l.length) : pathL (l.take (i + 1)) u = pathL (l.take i) u + bitLen (gap (l.getD i (0, 0)).1 (l.getD i (0, 0)).2) := by
  induction l generalizing u i with
  | nil => simp at h
  | cons p l ih =>
    cases i with
    | zero => simp [pathL]
    | succ i => simpa [pathL] using ih (u + bitLen (gap p.1 p.2)) i (by simpa using h)
theorem bitLen_rng {n : Int} (h : n ≤ 18446744073709551615) : 0 ≤ bitLen n ∧ bitLen n ≤ 64 := by
  refine ⟨by unfold bitLen; omega, ?_⟩
  have := (bitL_lt 64 n.toNat).2 (by omega)
  unfold bitLen; omega
theorem implBoxPath_ok (w : Int) (l : List (Int × Int)) (hl : l.length ≤ 1000000000000) : AFunP Try.prog 19 [.int .i64 w, bx l] (· = .int .i64 (path w l)) := by
  refine afun_of Try.func19 Try.call19 rfl Try.ntmps19 rfl ?_
  have W : Walk Try.prog TT 19 _ := Walk.of TT_ok Try.func19 Try.results19
  refine ce W 0 rfl rfl (implBoxOk_ok w l (by omega)) rfl ?_
  refine sp W 0 rfl rfl rfl (fun h => ?_) (fun h => ?_)
  · refine rp W 0 rfl rfl rfl (.int (by simp [path, h]))
  have h := Classical.not_not.1 h
  refine go_loop W 0 300 (σ := Nat) (fun i => [(5, .int .i64 (pathL (l.take i) 1)), (13, .fz l.length (prow l)), (14, .int .i64 l.length), (15, .int .i64 i)]) (fun i => [.lst 0 [[.fz l.length (prow l)]]]) (fun i => l.length - i) (fun i => i ≤ l.length ∧ 0 ≤ pathL (l.take i) 1 ∧ pathL (l.take i) 1 ≤ 1 + 64 * i) 0 [5, 13, 14, 15] rfl rfl rfl (by first | exact True.intro | (simp only [AllC, AllP, addN, Int.toNat_natCast, true_and, and_true, Option.getD, List.length_set, wrapU, pw1, pw7, pw8, pw16, pw23, pw32, pw52, Holds] <;> first | omega | ((repeat' apply And.intro) <;> first | omega | (intros; rfl))) | (simp [AllC, AllP, addN, cloL, clo, mrgL, mrg, wrapU, Holds] <;> omega))
    ⟨Nat.zero_le _, by simp [pathL], by simp [pathL]⟩ ?_
  rintro i ⟨hi, h0, h1⟩ ih
  refine sp W 0 rfl rfl rfl (fun h2 => ?_) (fun h2 => ?_)
  · have h2 : i < l.length := by omega
    have hp := pairOk_rng (boxOk_get h h2)
    have hg := gap_rng hp
    have hb := bitLen_rng (n := gap (l.getD i (0, 0)).1 (l.getD i (0, 0)).2) (by omega)
    have ht := pathL_take l 1 i h2
    refine ce W 0 rfl rfl (steps_ok _ _ (by unfold InI; simp only [Int.toNat_natCast]; omega) (by unfold InI; simp only [Int.toNat_natCast]; omega)) rfl ?_
    refine ce W 0 rfl rfl (len64_ok _ (by simp only [Int.toNat_natCast]; omega) (by simp only [Int.toNat_natCast]; omega)) rfl ?_
    have nx := ih (i + 1) ⟨by omega, by rw [ht]; omega, by rw [ht]; omega⟩ (by omega)
    rw [ht] at nx
    refine bd W 0 1 [5, 13, 14, 15] rfl rfl rfl rfl rfl (nx)
  · have : i = l.length := by omega
    subst this
    refine rp W 0 rfl rfl rfl (.int (by simp [path, h]))

def fineN (n : Int) : Int := max 1 (min 1000000 n) + 1
def boxFine (w : Int) (l : List (Int × Int)) (n : Int) : Prop := boxOk w l ∧ ∀ a ∈ l, gap a.1 a.2 ≤ fineN n
theorem boxFine1_ok (a b n : Int) (ha : InI a) (hb : InI b) : AFunP Try.prog 68 [.agg [.int .i64 a, .int .i64 b], .fptr [.int .u64 n] 0] (· = .pr (n < gap a b)) := by
  refine afun_of Try.func68 Try.call68 rfl Try.ntmps68 rfl ?_
  have W : Walk Try.prog TT 68 _ := Walk.of TT_ok Try.func68 Try.results68
  refine go_drawE W 0 300 3 [] [.int .u64 (gap a b)] rfl (by first | exact True.intro | (simp only [AllC, AllP, addN, Int.toNat_natCast, true_and, and_true, Option.getD, List.length_set, wrapU, pw1, pw7, pw8, pw16, pw23, pw32, pw52, Holds] <;> first | omega | ((repeat' apply And.intro) <;> first | omega | (intros; rfl))) | (simp [AllC, AllP, addN, cloL, clo, mrgL, mrg, wrapU, Holds] <;> omega)) rfl rfl (by first | exact True.intro | (simp only [AllC, AllP, addN, Int.toNat_natCast, true_and, and_true, Option.getD, List.length_set, wrapU, pw1, pw7, pw8, pw16, pw23, pw32, pw52, Holds] <;> first | omega | ((repeat' apply And.intro) <;> first | omega | (intros; rfl))) | (simp [AllC, AllP, addN, cloL, clo, mrgL, mrg, wrapU, Holds] <;> omega)) ⟨(steps_ok a b ha hb).at rfl _, trivial⟩ rfl ?_
  refine rp W 0 rfl rfl rfl (.refl)
theorem implBoxFine_ok (w : Int) (l : List (Int × Int)) (n : Int) (hl : l.length ≤ 1000000000000) : AFunP Try.prog 20 [.int .i64 w, bx l, .int .i64 n] (· = .pr (boxFine w l n)) := by
  refine afun_of Try.func20 Try.call20 rfl Try.ntmps20 rfl ?_
  have W : Walk Try.prog TT 20 _ := Walk.of TT_ok Try.func20 Try.results20
  refine ce W 0 rfl rfl (implBoxOk_ok w l (by omega)) rfl ?_
  refine sp W 0 rfl rfl rfl (fun h => ?_) (fun h => ?_)
  · refine go_callF W 0 300 [0, 1] [16] rfl (by first | exact True.intro | (simp only [AllC, AllP, addN, Int.toNat_natCast, true_and, and_true, Option.getD, List.length_set, wrapU, pw1, pw7, pw8, pw16, pw23, pw32, pw52, Holds] <;> first | omega | ((repeat' apply And.intro) <;> first | omega | (intros; rfl))) | (simp [AllC, AllP, addN, cloL, clo, mrgL, mrg, wrapU, Holds] <;> omega)) rfl rfl rfl rfl rfl (by first | exact True.intro | (simp only [AllC, AllP, addN, Int.toNat_natCast, true_and, and_true, Option.getD, List.length_set, wrapU, pw1, pw7, pw8, pw16, pw23, pw32, pw52, Holds] <;> first | omega | ((repeat' apply And.intro) <;> first | omega | (intros; rfl))) | (simp [AllC, AllP, addN, cloL, clo, mrgL, mrg, wrapU, Holds] <;> omega)) (by first | exact True.intro | (simp only [AllC, AllP, addN, Int.toNat_natCast, true_and, and_true, Option.getD, List.length_set, wrapU, pw1, pw7, pw8, pw16, pw23, pw32, pw52, Holds] <;> first | omega | ((repeat' apply And.intro) <;> first | omega | (intros; rfl))) | (simp [AllC, AllP, addN, cloL, clo, mrgL, mrg, wrapU, Holds] <;> omega)) (by first | exact True.intro | (simp only [AllC, AllP, addN, Int.toNat_natCast, true_and, and_true, Option.getD, List.length_set, wrapU, pw1, pw7, pw8, pw16, pw23, pw32, pw52, Holds] <;> first | omega | ((repeat' apply And.intro) <;> first | omega | (intros; rfl))) | (simp [AllC, AllP, addN, cloL, clo, mrgL, mrg, wrapU, Holds] <;> omega)) (containsPair_ok l _ _ (fun a => fineN n < gap a.1 a.2) (by omega) rfl fun a ha => ?_) rfl ?_
    · have := pairOk_rng (h.2.2 a ha)
      exact boxFine1_ok a.1 a.2 (fineN n) (by unfold InI; omega) (by unfold InI; omega)
    · have e : (¬ ∃ a ∈ l, fineN n < gap a.1 a.2) ↔ boxFine w l n := by
        unfold boxFine
        constructor
        · intro h2; exact ⟨h, fun a ha => Int.not_lt.1 fun h3 => h2 ⟨a, ha, h3⟩⟩
        · rintro ⟨_, h3⟩ ⟨a, ha, h4⟩; exact absurd (h3 a ha) (Int.not_le.2 h4)
      refine rp W 0 rfl rfl rfl (.pr e)
  · refine rp W 0 rfl rfl rfl (.no (fun h2 => h h2.1))

/-! ### The reference's -/
theorem l1Width_ok (w : Int) : AFunP Try.prog 159 [.int .i64 w] (· = .pr (w = 32 ∨ w = 64)) := by
  refine afun_of Try.func159 Try.call159 rfl Try.ntmps159 rfl ?_
  have W : Walk Try.prog TT 159 _ := Walk.of TT_ok Try.func159 Try.results159
  (repeat' (first | (refine sp W 0 rfl rfl rfl (fun _ => ?_) (fun _ => ?_)))) <;> (first | skip)
  · refine rp W 0 rfl rfl rfl (.yes (by simp_all))
  · refine rp W 0 rfl rfl rfl (.pr (by simp_all))
theorem specBitTop_ok (w : Int) : AFunP Try.prog 124 [.int .i64 w] (· = .int .i64 (top w)) := by
  refine afun_of Try.func124 Try.call124 rfl Try.ntmps124 rfl ?_
  have W : Walk Try.prog TT 124 _ := Walk.of TT_ok Try.func124 Try.results124
  (repeat' (first | (refine sp W 0 rfl rfl rfl (fun _ => ?_) (fun _ => ?_)))) <;> (first | (exact rp W 0 rfl rfl rfl (.int (by simp_all [top]))))
theorem specBitOk_ok (w n : Int) : AFunP Try.prog 125 [.int .i64 w, .int .i64 n] (· = .pr (bitOk w n)) := by
  refine afun_of Try.func125 Try.call125 rfl Try.ntmps125 rfl ?_
  have W : Walk Try.prog TT 125 _ := Walk.of TT_ok Try.func125 Try.results125
  have := top_rng w
  (repeat' (first | (refine sp W 0 rfl rfl rfl (fun _ => ?_) (fun _ => ?_)) | (refine ce W 0 rfl rfl (l1Width_ok _) rfl ?_) | (refine ce W 0 rfl rfl (specBitTop_ok _) rfl ?_))) <;> (first | (exact rp W 0 rfl rfl rfl (.no (by simp_all [bitOk] <;> omega))) | (exact rp W 0 rfl rfl rfl (.pr (by simp_all [bitOk]))))
theorem specPairOk_ok (w lo hi : Int) : AFunP Try.prog 65 [.int .i64 w, .agg [.int .i64 lo, .int .i64 hi]] (· = .pr (pairOk w lo hi)) := by
  refine afun_of Try.func65 Try.call65 rfl Try.ntmps65 rfl ?_
  have W : Walk Try.prog TT 65 _ := Walk.of TT_ok Try.func65 Try.results65
  have := top_rng w
  (repeat' (first | (refine sp W 0 rfl rfl rfl (fun _ => ?_) (fun _ => ?_)) | (refine ce W 0 rfl rfl (specBitOk_ok _ _) rfl ?_) | (refine ce W 0 rfl rfl (specBitTop_ok _) rfl ?_))) <;> (first | (exact rp W 0 rfl rfl rfl (.no (by unfold pairOk bitOk at * <;> omega))) | (exact rp W 0 rfl rfl rfl (.pr (by unfold pairOk bitOk at * <;> omega))))
theorem l3Max_ok (a b : Int) : AFunP Try.prog 119 [.int .i64 a, .int .i64 b] (· = .int .i64 (max a b)) := by
  refine afun_of Try.func119 Try.call119 rfl Try.ntmps119 rfl ?_
  have W : Walk Try.prog TT 119 _ := Walk.of TT_ok Try.func119 Try.results119
  (repeat' (first | (refine sp W 0 rfl rfl rfl (fun _ => ?_) (fun _ => ?_)))) <;> (first | (exact rp W 0 rfl rfl rfl (.int (by omega))))
theorem l3Min_ok (a b : Int) : AFunP Try.prog 120 [.int .i64 a, .int .i64 b] (· = .int .i64 (min a b)) := by
  refine afun_of Try.func120 Try.call120 rfl Try.ntmps120 rfl ?_
  have W : Walk Try.prog TT 120 _ := Walk.of TT_ok Try.func120 Try.results120
  (repeat' (first | (refine sp W 0 rfl rfl rfl (fun _ => ?_) (fun _ => ?_)))) <;> (first | (exact rp W 0 rfl rfl rfl (.int (by omega))))
theorem specPairMeet_ok (w : Int) (a b : Int × Int) : AFunP Try.prog 58 [.int .i64 w, pairV a, pairV b] (· = .tup [pairV (pmeet w a b), .pr (meetOk w a b)]) := by
  refine afun_of Try.func58 Try.call58 rfl Try.ntmps58 rfl ?_
  have W : Walk Try.prog TT 58 _ := Walk.of TT_ok Try.func58 Try.results58
  refine phg W 0 12 [11] rfl rfl (fun PW => ?_)
  refine pho PW 0 11 [] [.int .i64 (max a.1 b.1), .int .i64 (min a.2 b.2)] rfl rfl ⟨(l3Max_ok _ _).at rfl _, (l3Min_ok _ _).at rfl _, trivial⟩ rfl rfl ?_
  refine phe PW 0 [] [.int .i64 (max a.1 b.1), .int .i64 (min a.2 b.2)] rfl ⟨(l3Max_ok _ _).at rfl _, (l3Min_ok _ _).at rfl _, trivial⟩ rfl ?_
  (repeat' (first | (refine sp W 0 rfl rfl rfl (fun _ => ?_) (fun _ => ?_)) | (refine ce W 0 rfl rfl (specPairOk_ok _ _ _) rfl ?_))) <;> (first | skip)
  all_goals (first
    | (refine go_retP W 0 300 rfl (by first | exact True.intro | (simp only [AllC, AllP, addN, Int.toNat_natCast, true_and, and_true, Option.getD, List.length_set, wrapU, pw1, pw7, pw8, pw16, pw23, pw32, pw52, Holds] <;> first | omega | ((repeat' apply And.intro) <;> first | omega | (intros; rfl))) | (simp [AllC, AllP, addN, cloL, clo, mrgL, mrg, wrapU, Holds] <;> omega)) rfl (by first | exact True.intro | (simp only [AllC, AllP, addN, Int.toNat_natCast, true_and, and_true, Option.getD, List.length_set, wrapU, pw1, pw7, pw8, pw16, pw23, pw32, pw52, Holds] <;> first | omega | ((repeat' apply And.intro) <;> first | omega | (intros; rfl))) | (simp [AllC, AllP, addN, cloL, clo, mrgL, mrg, wrapU, Holds] <;> omega)) rfl (.tup ⟨.eq ?_, .yes ?_, trivial⟩) <;> simp_all [meet_pair, meetOk, pmeet, pairV]; done)
    | (refine go_retP W 0 300 rfl (by first | exact True.intro | (simp only [AllC, AllP, addN, Int.toNat_natCast, true_and, and_true, Option.getD, List.length_set, wrapU, pw1, pw7, pw8, pw16, pw23, pw32, pw52, Holds] <;> first | omega | ((repeat' apply And.intro) <;> first | omega | (intros; rfl))) | (simp [AllC, AllP, addN, cloL, clo, mrgL, mrg, wrapU, Holds] <;> omega)) rfl (by first | exact True.intro | (simp only [AllC, AllP, addN, Int.toNat_natCast, true_and, and_true, Option.getD, List.length_set, wrapU, pw1, pw7, pw8, pw16, pw23, pw32, pw52, Holds] <;> first | omega | ((repeat' apply And.intro) <;> first | omega | (intros; rfl))) | (simp [AllC, AllP, addN, cloL, clo, mrgL, mrg, wrapU, Holds] <;> omega)) rfl (.tup ⟨.eq ?_, .no ?_, trivial⟩) <;> simp_all [meet_pair, meetOk, pmeet, pairV, Int.not_le] <;> rw [if_neg (by omega)] <;> exact ⟨rfl, rfl⟩))
theorem specBoxOk_ok (w : Int) (l : List (Int × Int)) (hl : l.length ≤ 1000000000000) : AFunP Try.prog 17 [.int .i64 w, bx l] (· = .pr (boxOk w l)) := by
  refine afun_of Try.func17 Try.call17 rfl Try.ntmps17 rfl ?_
  have W : Walk Try.prog TT 17 _ := Walk.of TT_ok Try.func17 Try.results17
  refine sp W 0 rfl rfl rfl (fun h1 => ?_) (fun h1 => ?_)
  · refine rp W 0 rfl rfl rfl (.no (by unfold boxOk; omega))
  refine sp W 0 rfl rfl rfl (fun h2 => ?_) (fun h2 => ?_)
  · refine rp W 0 rfl rfl rfl (.no (by unfold boxOk; omega))
  refine go_loop W 0 300 (σ := Nat) (fun i => [(0, .int .i64 w), (3, .ptr 0 0 0 0), (5, .int .i64 i)]) (fun i => [.lst 0 [[.fz l.length (prow l)]]]) (fun i => l.length - i) (fun i => i ≤ l.length ∧ ∀ j, j < i → pairOk w (l.getD j (0, 0)).1 (l.getD j (0, 0)).2) 0 [0, 3, 5] rfl rfl rfl (by first | exact True.intro | (simp only [AllC, AllP, addN, Int.toNat_natCast, true_and, and_true, Option.getD, List.length_set, wrapU, pw1, pw7, pw8, pw16, pw23, pw32, pw52, Holds] <;> first | omega | ((repeat' apply And.intro) <;> first | omega | (intros; rfl))) | (simp [AllC, AllP, addN, cloL, clo, mrgL, mrg, wrapU, Holds] <;> omega))
    ⟨Nat.zero_le _, fun j hj => by omega⟩ ?_
  rintro i ⟨hi, he⟩ ih
  refine sp W 0 rfl rfl rfl (fun h3 => ?_) (fun h3 => ?_)
  · have h3 : i < l.length := by omega
    refine ce W 0 rfl rfl (specPairOk_ok _ _ _) rfl ?_
    refine sp W 0 rfl rfl rfl (fun h4 => ?_) (fun h4 => ?_)
    · refine rp W 0 rfl rfl rfl (.no (fun h => h4 (boxOk_get h h3)))
    · refine bk W 0 [0, 3, 5] rfl rfl (ih (i + 1) ⟨by omega, fun j hj => ?_⟩ (by omega))
      by_cases hji : j = i
      · subst hji; exact Classical.not_not.1 h4
      · exact he j (by omega)
  · refine rp W 0 rfl rfl rfl (.yes ⟨by omega, by omega, fun a ha => ?_⟩)
    obtain ⟨j, hj, rfl⟩ := mem_getD (0, 0) ha
    exact he j (by omega)
theorem specBoxMeet_ok (w : Int) (a b : List (Int × Int)) (ha : a.length ≤ 1000000000000) (hb : b.length ≤ 1000000000000) : AFunP Try.prog 14 [.int .i64 w, bx a, bx b] (· = .tup [bx (bmeet w a b), .pr (bmeetOk w a b)]) := by
  refine afun_of Try.func14 Try.call14 rfl Try.ntmps14 rfl ?_
  have W : Walk Try.prog TT 14 _ := Walk.of TT_ok Try.func14 Try.results14
  refine ce W 0 rfl rfl (specBoxOk_ok w a (by omega)) rfl ?_
  refine sp W 0 rfl rfl rfl (fun h1 => ?_) (fun h1 => ?_)
  case refine_1 => refine rp W 0 rfl rfl rfl (.tup ⟨.trans bx_nil (.eq (by simp_all [bmeet, bmeetOk])), .no (by simp_all [bmeetOk]), trivial⟩)
  refine ce W 0 rfl rfl (specBoxOk_ok w b (by omega)) rfl ?_
  refine sp W 0 rfl rfl rfl (fun h2 => ?_) (fun h2 => ?_)
  case refine_1 => refine rp W 0 rfl rfl rfl (.tup ⟨.trans bx_nil (.eq (by simp_all [bmeet, bmeetOk])), .no (by simp_all [bmeetOk]), trivial⟩)
  refine sp W 0 rfl rfl rfl (fun h3 => ?_) (fun h3 => ?_)
  case refine_1 =>
    have h3 : ¬ a.length = b.length := by omega
    refine rp W 0 rfl rfl rfl (.tup ⟨.trans bx_nil (.eq (by simp_all [bmeet, bmeetOk])), .no (by simp_all [bmeetOk]), trivial⟩)
  have h1 := Classical.not_not.1 h1
  have h2 := Classical.not_not.1 h2
  have h3 : a.length = b.length := by omega
  refine atl W rfl ?_
  refine go_nilC 3 0 0 (.tab 0 0 fun _ => [.int .i64 0, .int .i64 0]) rfl rfl rfl rfl rfl rfl rfl rfl rfl ?_
  refine go_loop W 0 300 (σ := Nat × Nat × (Nat → Int) × (Nat → Int)) (fun s => [(0, .int .i64 w), (4, .ptr 0 0 0 0), (5, .ptr 1 0 0 0), (6, .ptr 2 0 0 0), (8, .ptr 3 0 0 0), (9, .int .i64 s.1)])
    (fun s => [.lst 0 [[.fz a.length (prow a)]], .lst 0 [[.fz b.length (prow b)]], .lst 0 [[.nils]], .lst 0 [[.sl 4 s.2.1 0 s.1]], .tab s.2.1 s.1 fun j => [.int .i64 (s.2.2.1 j), .int .i64 (s.2.2.2 j)]])
    (fun s => a.length - s.1) (fun s => s.1 ≤ a.length ∧ ∀ j, j < s.1 → meetOk w (a.getD j (0, 0)) (b.getD j (0, 0)) ∧ (s.2.2.1 j, s.2.2.2 j) = pmeet w (a.getD j (0, 0)) (b.getD j (0, 0))) (0, 0, fun _ => 0, fun _ => 0) [0, 4, 5, 6, 8, 9] rfl rfl rfl (by first | exact True.intro | (simp only [AllC, AllP, addN, Int.toNat_natCast, true_and, and_true, Option.getD, List.length_set, wrapU, pw1, pw7, pw8, pw16, pw23, pw32, pw52, Holds] <;> first | omega | ((repeat' apply And.intro) <;> first | omega | (intros; rfl))) | (simp [AllC, AllP, addN, cloL, clo, mrgL, mrg, wrapU, Holds] <;> omega))
    ⟨Nat.zero_le _, fun j hj => by omega⟩ ?_
  rintro ⟨i, g, F, G⟩ ⟨hi, he⟩ ih
  dsimp only at hi he ih ⊢
  refine sp W 0 rfl rfl rfl (fun h4 => ?_) (fun h4 => ?_)
  · have h4 : i < a.length := by omega
    have hm := specPairMeet_ok w (a.getD i (0, 0)) (b.getD i (0, 0))
    refine phg W 0 17 [15, 16] rfl rfl (fun PW => ?_)
    refine pho PW 0 15 [] [.tup [pairV (pmeet w (a.getD i (0, 0)) (b.getD i (0, 0))), .pr (meetOk w (a.getD i (0, 0)) (b.getD i (0, 0)))]] rfl rfl ⟨hm.at rfl _, trivial⟩ rfl rfl ?_
    refine pho PW 0 16 [] [.tup [pairV (pmeet w (a.getD i (0, 0)) (b.getD i (0, 0))), .pr (meetOk w (a.getD i (0, 0)) (b.getD i (0, 0)))]] rfl rfl ⟨hm.at rfl _, trivial⟩ rfl rfl ?_
    refine phe PW 0 [] [] rfl trivial rfl ?_
    refine sp W 0 rfl rfl rfl (fun h5 => ?_) (fun h5 => ?_)
    · have hn : ¬ bmeetOk w a b := fun h => h5 (h.2.2.2 i h4)
      refine rp W 0 rfl rfl rfl (.tup ⟨.trans bx_nil (.eq (by simp [bmeet, hn])), .no hn, trivial⟩)
    · have h5 := Classical.not_not.1 h5
      refine bd W 0 5 [0, 4, 5, 6, 8, 9] rfl rfl rfl rfl rfl (ih (i + 1, g + 1, fun j => if j < i then F j else (pmeet w (a.getD i (0, 0)) (b.getD i (0, 0))).1, fun j => if j < i then G j else (pmeet w (a.getD i (0, 0)) (b.getD i (0, 0))).2) ⟨?_, fun j hj => ?_⟩ ?_)
      · dsimp only; omega
      · dsimp only
        by_cases hji : j = i
        · subst hji; exact ⟨h5, by rw [if_neg (by omega), if_neg (by omega)]⟩
        · rw [if_pos (by omega), if_pos (by omega)]; exact he j (by omega)
      · dsimp only; omega
  · have hil : i = a.length := by omega
    subst hil
    have hb : bmeetOk w a b := ⟨h1, h2, h3, fun j hj => (he j hj).1⟩
    have hlen : (bmeet w a b).length = a.length := by simp [bmeet, hb]
    refine rp W 0 rfl rfl rfl (.tup ⟨.agg ⟨.fzn hlen.symm fun j hj => ?_, trivial⟩, .yes hb, trivial⟩)
    have := (he j hj).2
    have e : (bmeet w a b).getD j (0, 0) = pmeet w (a.getD j (0, 0)) (b.getD j (0, 0)) := by simp [bmeet, hb, List.getD_eq_getElem?_getD, hj]
    unfold prow; rw [e, ← this]

end Pf
/- Draws of bits, pairs and boxes. -/
namespace Pf
open Go Go.Proofs

/-- A reader of bytes, at a place. -/
def rdB (b : List Int) (p : Int) : ABlk := .lst 0 [[.fi .u8 b, .int .i64 p]]
def BytesOk (b : List Int) : Prop := b.length ≤ 2000 ∧ ∀ x ∈ b, 0 ≤ x ∧ x ≤ 255
theorem BytesOk.get {b : List Int} (h : BytesOk b) (i : Nat) : 0 ≤ b.getD i 0 ∧ b.getD i 0 ≤ 255 := by
  rw [List.getD_eq_getElem?_getD]
  cases hi : b[i]? with
  | none => simp
  | some x => simpa using h.2 x (List.mem_of_getElem? hi)
/-- What a reading function does: the place goes on, no farther than so. -/
def RdQ (b : List Int) (p K : Int) (Q : AV → Prop) (u : AV) (blks : List ABlk) : Prop := ∃ p', blks = [rdB b p'] ∧ p ≤ p' ∧ p' ≤ p + K ∧ Q u
def PickV (n : Int) (u : AV) : Prop := ∃ x, u = .int .i64 x ∧ 0 ≤ x ∧ (x < n ∨ x = 0)

def OpenQ (u : AV) (H : AHeap) : Prop := u = .ptr 0 0 0 0 ∧ ∃ c, H = [rdB c 0] ∧ BytesOk c
theorem OpenQ.flat (u : AV) (H : AHeap) (h : OpenQ u H) : Pf.flat u = true ∧ flatH H := by
  obtain ⟨rfl, c, rfl, _⟩ := h
  exact ⟨rfl, rfl, trivial⟩
theorem l31Open_ok (b : List Int) (h : ∀ x ∈ b, 0 ≤ x ∧ x ≤ 255) : AFun Try.prog 70 [.fi .u8 b] [] OpenQ := by
  refine afun_of Try.func70 Try.call70 rfl Try.ntmps70 rfl ?_
  have W : Walk Try.prog TT 70 _ := Walk.of TT_ok Try.func70 Try.results70
  refine sp W 0 rfl rfl rfl (fun h1 => ?_) (fun h1 => ?_)
  · refine rg W 0 rfl (⟨rfl, _, rfl, ⟨List.length_take_le _ _, fun x hx => h x (List.mem_of_mem_take hx)⟩⟩)
  · refine rg W 0 rfl (⟨rfl, _, rfl, ⟨by omega, h⟩⟩)
theorem bxor_nonneg {a b : Int} (h0 : 0 ≤ a) (h1 : a ≤ 9223372036854775807) (g0 : 0 ≤ b) (g1 : b ≤ 9223372036854775807) : 0 ≤ bxor .i64 a b ∧ bxor .i64 a b ≤ 9223372036854775807 := by
  obtain ⟨m, rfl⟩ : ∃ m : Nat, a = m := ⟨a.toNat, by omega⟩
  obtain ⟨n, rfl⟩ : ∃ n : Nat, b = n := ⟨b.toNat, by omega⟩
  have a1 : (BitVec.ofInt 64 (m : Int)).toNat = m := by rw [BitVec.toNat_ofInt]; omega
  have a2 : (BitVec.ofInt 64 (n : Int)).toNat = n := by rw [BitVec.toNat_ofInt]; omega
  have e : bxor .i64 (m : Int) (n : Int) = IntKind.i64.wrap (((BitVec.ofInt 64 (m : Int) ^^^ BitVec.ofInt 64 (n : Int)).toNat : Nat) : Int) := rfl
  have h2 : m ^^^ n < 2 ^ 63 := Nat.xor_lt_two_pow (by omega) (by omega)
  rw [e, BitVec.toNat_xor, a1, a2, wrap_id (k := .i64) rfl (by omega)]
  omega
theorem pick31_ok (b : List Int) (p n : Int) (hb : BytesOk b) (h0 : 0 ≤ p) (h1 : p ≤ 1000000000) (hn : InI n) : AFunM Try.prog 71 [.ptr 0 0 0 0, .int .i64 n] [rdB b p] (RdQ b p 1 (PickV n)) := by
  refine afun_of Try.func71 Try.call71 rfl Try.ntmps71 rfl ?_
  have W : Walk Try.prog TT 71 _ := Walk.of TT_ok Try.func71 Try.results71
  have hl := hb.1
  unfold InI at hn
  refine sp W 0 rfl rfl rfl (fun h2 => ?_) (fun h2 => ?_)
  · refine rm W 0 [rdB b (p + 1)] rfl rfl rfl ⟨rfl, trivial⟩ rfl rfl (.int .i64 0) rfl (.refl) (⟨p + 1, rfl, by omega, by omega, 0, rfl, by omega, .inr rfl⟩)
  refine sp W 0 rfl rfl rfl (fun h3 => ?_) (fun h3 => ?_)
  · refine rm W 0 [rdB b (p + 1)] rfl rfl rfl ⟨rfl, trivial⟩ rfl rfl (.int .i64 0) rfl (.refl) (⟨p + 1, rfl, by omega, by omega, 0, rfl, by omega, .inr rfl⟩)
  refine sp W 0 rfl rfl rfl (fun h4 => ?_) (fun h4 => ?_)
  · have := hb.get (p + 1 - 1).toNat
    refine rm W 0 [rdB b (p + 1)] rfl rfl rfl ⟨rfl, trivial⟩ rfl rfl (.int .i64 (b.getD (p + 1 - 1).toNat 0 % n)) rfl (.refl) (⟨p + 1, rfl, by omega, by omega, _, rfl, Int.emod_nonneg _ (by omega), .inl (Int.emod_lt_of_pos _ (by omega))⟩)
  have k1 := Int.emod_nonneg (p + 1 - 1) (b := b.length) (by omega)
  have k2 := Int.emod_lt_of_pos (p + 1 - 1) (b := b.length) (by omega)
  have k3 := Int.emod_nonneg ((p + 1 - 1) * 7 + 3) (b := b.length) (by omega)
  have k4 := Int.emod_lt_of_pos ((p + 1 - 1) * 7 + 3) (b := b.length) (by omega)
  have k5 := hb.get ((p + 1 - 1) % b.length).toNat
  have k6 := hb.get (((p + 1 - 1) * 7 + 3) % b.length).toNat
  have k7 : 0 ≤ (p + 1 - 1) / b.length := Int.ediv_nonneg (by omega) (by omega)
  have k8 : (p + 1 - 1) / b.length ≤ p + 1 - 1 := Int.ediv_le_self _ (by omega)
  refine dre W 0 44 [] [] rfl rfl rfl trivial rfl ?_
  have kx := bxor_nonneg (a := b.getD ((p + 1 - 1) % b.length).toNat 0 * 131 + b.getD (((p + 1 - 1) * 7 + 3) % b.length).toNat 0 * 1117 + (p + 1 - 1) * 29 + (p + 1 - 1) / b.length * 53)
    (b := (b.getD ((p + 1 - 1) % b.length).toNat 0 * 131 + b.getD (((p + 1 - 1) * 7 + 3) % b.length).toNat 0 * 1117 + (p + 1 - 1) * 29 + (p + 1 - 1) / b.length * 53) / 64) (by omega) (by omega) (by omega) (by omega)
  refine rm W 0 [rdB b (p + 1)] rfl rfl rfl ⟨rfl, trivial⟩ rfl rfl (.int .i64 _) rfl (.refl) (⟨p + 1, rfl, by omega, by omega, _, rfl, Int.emod_nonneg _ (by omega), .inl (Int.emod_lt_of_pos _ (by omega))⟩)

def IntV (u : AV) : Prop := ∃ w, u = .int .i64 w ∧ -9223372036854775808 ≤ w ∧ w ≤ 9223372036854775807
theorem width31_ok (b : List Int) (p : Int) (hb : BytesOk b) (h0 : 0 ≤ p) (h1 : p ≤ 999999000) : AFunM Try.prog 116 [.ptr 0 0 0 0] [rdB b p] (RdQ b p 2 IntV) := by
  refine afun_of Try.func116 Try.call116 rfl Try.ntmps116 rfl ?_
  have W : Walk Try.prog TT 116 _ := Walk.of TT_ok Try.func116 Try.results116
  refine cm W 0 [(0, 0)] rfl (pick31_ok b p 32 hb (by omega) (by omega) (by unfold InI; omega)) ⟨rfl, trivial⟩ rfl rfl rfl ?_
  rintro _ _ ⟨p1, rfl, p1a, p1b, x, rfl, xa, xb⟩
  refine ⟨_, _, rfl, rfl, ?_⟩
  refine sp W 0 rfl rfl rfl (fun h2 => ?_) (fun h2 => ?_)
  · refine rm W 0 [rdB b p1] rfl rfl rfl ⟨rfl, trivial⟩ rfl rfl (.int .i64 32) rfl (.refl) (⟨p1, rfl, by omega, by omega, _, rfl, by omega, by omega⟩)
  refine sp W 0 rfl rfl rfl (fun h3 => ?_) (fun h3 => ?_)
  · refine rm W 0 [rdB b p1] rfl rfl rfl ⟨rfl, trivial⟩ rfl rfl (.int .i64 64) rfl (.refl) (⟨p1, rfl, by omega, by omega, _, rfl, by omega, by omega⟩)
  refine cm W 0 [(0, 0)] rfl (pick31_ok b p1 4 hb (by omega) (by omega) (by unfold InI; omega)) ⟨rfl, trivial⟩ rfl rfl rfl ?_
  rintro _ _ ⟨p2, rfl, p2a, p2b, y, rfl, ya, yb⟩
  refine ⟨_, _, rfl, rfl, ?_⟩
  have hy : y = 0 ∨ y = 1 ∨ y = 2 ∨ y = 3 := by omega
  have hw : (-9223372036854775808 ≤ ([0, 63, 16, -64] : List Int).getD y.toNat 0 ∧ ([0, 63, 16, -64] : List Int).getD y.toNat 0 ≤ 9223372036854775807) ∧ y.toNat < 4 := by rcases hy with rfl | rfl | rfl | rfl <;> decide
  refine rm W 0 [rdB b p2] rfl rfl rfl ⟨rfl, trivial⟩ rfl rfl (.int .i64 (([0, 63, 16, -64] : List Int).getD y.toNat 0)) rfl (.refl) (⟨p2, rfl, by omega, by omega, _, rfl, hw.1.1, hw.1.2⟩)
def U64V (u : AV) : Prop := ∃ w, u = .int .u64 w ∧ 0 ≤ w ∧ w ≤ 18446744073709551615
theorem big31_ok (b : List Int) (p : Int) (hb : BytesOk b) (h0 : 0 ≤ p) (h1 : p ≤ 999999000) : AFunM Try.prog 134 [.ptr 0 0 0 0] [rdB b p] (RdQ b p 8 U64V) := by
  refine afun_of Try.func134 Try.call134 rfl Try.ntmps134 rfl ?_
  have W : Walk Try.prog TT 134 _ := Walk.of TT_ok Try.func134 Try.results134
  refine go_loop W 0 300 (σ := Nat × Int × Int) (fun s => [(0, .ptr 0 0 0 0), (3, .int .u64 s.2.2), (4, .int .i64 s.1)]) (fun s => [rdB b s.2.1]) (fun s => 8 - s.1) (fun s => s.1 ≤ 8 ∧ p ≤ s.2.1 ∧ s.2.1 ≤ p + s.1 ∧ 0 ≤ s.2.2 ∧ s.2.2 ≤ 18446744073709551615) (0, p, 0) [0, 3, 4] rfl rfl rfl (by first | exact True.intro | (simp only [AllC, AllP, addN, Int.toNat_natCast, true_and, and_true, Option.getD, List.length_set, wrapU, pw1, pw7, pw8, pw16, pw23, pw32, pw52, Holds] <;> first | omega | ((repeat' apply And.intro) <;> first | omega | (intros; rfl))) | (simp [AllC, AllP, addN, cloL, clo, mrgL, mrg, wrapU, Holds] <;> omega))
    ⟨by omega, by simp, by simp, by simp, by simp⟩ ?_
  rintro ⟨i, p1, n⟩ ⟨hi, a1, a2, a3, a4⟩ ih
  dsimp only at hi a1 a2 a3 a4 ih ⊢
  refine sp W 0 rfl rfl rfl (fun h2 => ?_) (fun h2 => ?_)
  · refine cm W 1 [(0, 0)] rfl (pick31_ok b p1 256 hb (by omega) (by omega) (by unfold InI; omega)) ⟨rfl, trivial⟩ rfl rfl rfl ?_
    rintro _ _ ⟨p2, rfl, _, _, x, rfl, _, _⟩
    refine ⟨_, _, rfl, rfl, ?_⟩
    refine go_back W 1 300 (ds := [0, 3, 4]) (T1 := [(0, .ptr 0 0 0 0), (3, .int .u64 (IntKind.u64.wrap (IntKind.u64.wrap (n * 256) + IntKind.u64.wrap x))), (4, .int .i64 (i + 1 : Nat))]) rfl ?_ (by first | exact True.intro | (simp only [AllC, AllP, addN, Int.toNat_natCast, true_and, and_true, Option.getD, List.length_set, wrapU, pw1, pw7, pw8, pw16, pw23, pw32, pw52, Holds] <;> first | omega | ((repeat' apply And.intro) <;> first | omega | (intros; rfl))) | (simp [AllC, AllP, addN, cloL, clo, mrgL, mrg, wrapU, Holds] <;> omega)) (ih (i + 1, p2, IntKind.u64.wrap (IntKind.u64.wrap (n * 256) + IntKind.u64.wrap x)) ⟨?_, ?_, ?_, ?_, ?_⟩ ?_)
    · simp only [keepM, getM]
      have : IntKind.i64.wrap ((i : Int) + 1) = ((i + 1 : Nat) : Int) := by rw [wrap_id (k := .i64) rfl (by omega)]; omega
      simp [this]
    all_goals dsimp only
    all_goals first | omega | (simp only [wrapU]; omega)
  · refine rm W 0 [rdB b p1] rfl rfl rfl ⟨rfl, trivial⟩ rfl rfl (.int .u64 n) rfl (.refl) (⟨p1, rfl, by omega, by omega, _, rfl, by omega, by omega⟩)
def InB (n : Int) : Prop := -9218868437227410000 ≤ n ∧ n ≤ 9218868437227410000
def OrdV (u : AV) : Prop := ∃ w, u = .int .i64 w ∧ -9218868437227405400 ≤ w ∧ w ≤ 9218868437227405400
theorem ord31_ok (b : List Int) (p w : Int) (hb : BytesOk b) (h0 : 0 ≤ p) (h1 : p ≤ 999990000) (hw : InI w) : AFunM Try.prog 160 [.ptr 0 0 0 0, .int .i64 w] [rdB b p] (RdQ b p 20 OrdV) := by
  refine afun_of Try.func160 Try.call160 rfl Try.ntmps160 rfl ?_
  have W : Walk Try.prog TT 160 _ := Walk.of TT_ok Try.func160 Try.results160
  have ht := top_rng w
  refine ce W 0 rfl rfl (specBitTop_ok w) rfl ?_
  refine cm W 0 [(0, 0)] rfl (pick31_ok b p 10 hb (by omega) (by omega) (by unfold InI; omega)) ⟨rfl, trivial⟩ rfl rfl rfl ?_
  rintro _ _ ⟨p1, rfl, p1a, p1b, x, rfl, xa, xb⟩
  refine ⟨_, _, rfl, rfl, ?_⟩
  by_cases hx : x ≤ 4
  · (repeat' (first | (refine sp W 0 rfl rfl rfl (fun _ => ?_) (fun _ => ?_)) | (refine cm W 0 [(0, 0)] rfl (pick31_ok b _ _ hb (by omega) (by omega) (by unfold InI; omega)) ⟨rfl, trivial⟩ rfl rfl rfl ?_; rintro _ _ ⟨_, rfl, _, _, ⟨_, rfl, _, _⟩⟩; refine ⟨_, _, rfl, rfl, ?_⟩) | (refine cm W 0 [(0, 0)] rfl (big31_ok b _ hb (by omega) (by omega)) ⟨rfl, trivial⟩ rfl rfl rfl ?_; rintro _ _ ⟨_, rfl, _, _, ⟨_, rfl, _, _⟩⟩; refine ⟨_, _, rfl, rfl, ?_⟩))) <;> (first | (exfalso; omega) | (exact rm W 0 [rdB b _] rfl rfl rfl ⟨rfl, trivial⟩ rfl rfl (.int .i64 _) rfl (.refl) (⟨_, rfl, by omega, by omega, _, rfl, (by first | omega | (simp only [pw1, pw7, pw8, pw16, pw23, pw32, pw52] at * <;> omega)), (by first | omega | (simp only [pw1, pw7, pw8, pw16, pw23, pw32, pw52] at * <;> omega))⟩)))
  refine sp W 0 rfl rfl rfl (fun c0 => ?_) (fun c0 => ?_)
  · exfalso; omega
  refine sp W 0 rfl rfl rfl (fun c1 => ?_) (fun c1 => ?_)
  · exfalso; omega
  refine sp W 0 rfl rfl rfl (fun c2 => ?_) (fun c2 => ?_)
  · exfalso; omega
  refine sp W 0 rfl rfl rfl (fun c3 => ?_) (fun c3 => ?_)
  · exfalso; omega
  refine sp W 0 rfl rfl rfl (fun c4 => ?_) (fun c4 => ?_)
  · exfalso; omega
  refine cm W 0 [(0, 0)] rfl (big31_ok b _ hb (by omega) (by omega)) ⟨rfl, trivial⟩ rfl rfl rfl ?_
  rintro _ _ ⟨p2, rfl, p2a, p2b, ⟨z, rfl, z0, z1⟩⟩
  refine ⟨_, _, rfl, rfl, ?_⟩
  have k1 := Int.emod_nonneg (z / 2 ^ 1) (b := top w + 1) (by omega)
  have k2 := Int.emod_lt_of_pos (z / 2 ^ 1) (b := top w + 1) (by omega)
  refine sp W 0 rfl rfl rfl (fun c5 => ?_) (fun c5 => ?_)
  · refine cm W 0 [(0, 0)] rfl (pick31_ok b p2 40 hb (by omega) (by omega) (by unfold InI; omega)) ⟨rfl, trivial⟩ rfl rfl rfl ?_
    rintro _ _ ⟨p3, rfl, p3a, p3b, y, rfl, ya, yb⟩
    refine ⟨_, _, rfl, rfl, ?_⟩
    generalize z / 2 ^ 1 % (top w + 1) = n at *
    (repeat' (first | (refine sp W 0 rfl rfl rfl (fun _ => ?_) (fun _ => ?_)) | (refine cm W 0 [(0, 0)] rfl (pick31_ok b _ _ hb (by omega) (by omega) (by unfold InI; omega)) ⟨rfl, trivial⟩ rfl rfl rfl ?_; rintro _ _ ⟨_, rfl, _, _, ⟨_, rfl, _, _⟩⟩; refine ⟨_, _, rfl, rfl, ?_⟩))) <;> (first | (exfalso; omega) | (exact rm W 0 [rdB b _] rfl rfl rfl ⟨rfl, trivial⟩ rfl rfl (.int .i64 _) rfl (.refl) (⟨_, rfl, by omega, by omega, _, rfl, (by first | omega | (simp only [pw1, pw7, pw8, pw16, pw23, pw32, pw52] at * <;> omega)), (by first | omega | (simp only [pw1, pw7, pw8, pw16, pw23, pw32, pw52] at * <;> omega))⟩)))
  · refine cm W 0 [(0, 0)] rfl (pick31_ok b p2 40 hb (by omega) (by omega) (by unfold InI; omega)) ⟨rfl, trivial⟩ rfl rfl rfl ?_
    rintro _ _ ⟨p3, rfl, p3a, p3b, y, rfl, ya, yb⟩
    refine ⟨_, _, rfl, rfl, ?_⟩
    (repeat' (first | (refine sp W 0 rfl rfl rfl (fun _ => ?_) (fun _ => ?_)) | (refine cm W 0 [(0, 0)] rfl (pick31_ok b _ _ hb (by omega) (by omega) (by unfold InI; omega)) ⟨rfl, trivial⟩ rfl rfl rfl ?_; rintro _ _ ⟨_, rfl, _, _, ⟨_, rfl, _, _⟩⟩; refine ⟨_, _, rfl, rfl, ?_⟩))) <;> (first | (exfalso; omega) | (exact rm W 0 [rdB b _] rfl rfl rfl ⟨rfl, trivial⟩ rfl rfl (.int .i64 _) rfl (.refl) (⟨_, rfl, by omega, by omega, _, rfl, (by first | omega | (simp only [pw1, pw7, pw8, pw16, pw23, pw32, pw52] at * <;> omega)), (by first | omega | (simp only [pw1, pw7, pw8, pw16, pw23, pw32, pw52] at * <;> omega))⟩)))
end Pf
/- Draws of pairs and boxes. -/
namespace Pf
open Go Go.Proofs

def PairV (u : AV) : Prop := ∃ a : Int × Int, u = pairV a ∧ InB a.1 ∧ InB a.2
theorem pair31_ok (b : List Int) (p w : Int) (hb : BytesOk b) (h0 : 0 ≤ p) (h1 : p ≤ 999980000) (hw : InI w) : AFunM Try.prog 133 [.ptr 0 0 0 0, .int .i64 w] [rdB b p] (RdQ b p 50 PairV) := by
  refine afun_of Try.func133 Try.call133 rfl Try.ntmps133 rfl ?_
  have W : Walk Try.prog TT 133 _ := Walk.of TT_ok Try.func133 Try.results133
  refine cm W 0 [(0, 0)] rfl (ord31_ok b _ w hb (by omega) (by omega) hw) ⟨rfl, trivial⟩ rfl rfl rfl ?_
  rintro _ _ ⟨p1, rfl, p1a, p1b, ⟨x, rfl, x0, x1⟩⟩
  refine ⟨_, _, rfl, rfl, ?_⟩
  refine cm W 0 [(0, 0)] rfl (ord31_ok b _ w hb (by omega) (by omega) hw) ⟨rfl, trivial⟩ rfl rfl rfl ?_
  rintro _ _ ⟨p2, rfl, p2a, p2b, ⟨y, rfl, y0, y1⟩⟩
  refine ⟨_, _, rfl, rfl, ?_⟩
  refine cm W 0 [(0, 0)] rfl (pick31_ok b p2 6 hb (by omega) (by omega) (by unfold InI; omega)) ⟨rfl, trivial⟩ rfl rfl rfl ?_
  rintro _ _ ⟨p3, rfl, p3a, p3b, c, rfl, ca, cb⟩
  refine ⟨_, _, rfl, rfl, ?_⟩
  (repeat' (first | (refine sp W 0 rfl rfl rfl (fun _ => ?_) (fun _ => ?_)) | (refine cm W 0 [(0, 0)] rfl (pick31_ok b _ _ hb (by omega) (by omega) (by unfold InI; omega)) ⟨rfl, trivial⟩ rfl rfl rfl ?_; rintro _ _ ⟨_, rfl, _, _, ⟨_, rfl, _, _⟩⟩; refine ⟨_, _, rfl, rfl, ?_⟩))) <;> (first | (exfalso; omega) | (exact rm W 0 [rdB b _] rfl rfl rfl ⟨rfl, trivial⟩ rfl rfl (pairV (_, _)) rfl (.refl) (⟨_, rfl, by omega, by omega, _, rfl, by unfold InB; dsimp only; omega, by unfold InB; dsimp only; omega⟩)))
theorem good31_ok (b : List Int) (p w : Int) (hb : BytesOk b) (h0 : 0 ≤ p) (h1 : p ≤ 999970000) (hw : InI w) : AFunM Try.prog 157 [.ptr 0 0 0 0, .int .i64 w] [rdB b p] (RdQ b p 300 PairV) := by
  refine afun_of Try.func157 Try.call157 rfl Try.ntmps157 rfl ?_
  have W : Walk Try.prog TT 157 _ := Walk.of TT_ok Try.func157 Try.results157
  refine cm W 0 [(0, 0)] rfl (pair31_ok b _ w hb (by omega) (by omega) hw) ⟨rfl, trivial⟩ rfl rfl rfl ?_
  rintro _ _ ⟨p1, rfl, p1a, p1b, ⟨a, rfl, a0, a1⟩⟩
  refine ⟨_, _, rfl, rfl, ?_⟩
  refine go_loop W 0 300 (σ := Nat × Int × (Int × Int)) (fun s => [(0, .ptr 0 0 0 0), (1, .int .i64 w), (4, .ptr 1 0 0 0), (5, .ptr 2 0 0 0), (6, .int .i64 s.1)]) (fun s => [rdB b s.2.1, .lst 0 [[.int .i64 0, .int .i64 0]], .lst 0 [[.int .i64 s.2.2.1, .int .i64 s.2.2.2]]]) (fun s => 5 - s.1)
    (fun s => s.1 ≤ 5 ∧ p ≤ s.2.1 ∧ s.2.1 ≤ p + 50 + 50 * s.1 ∧ InB s.2.2.1 ∧ InB s.2.2.2) (0, p1, a) [0, 1, 4, 5, 6] rfl rfl rfl (by first | exact True.intro | (simp only [AllC, AllP, addN, Int.toNat_natCast, true_and, and_true, Option.getD, List.length_set, wrapU, pw1, pw7, pw8, pw16, pw23, pw32, pw52, Holds] <;> first | omega | ((repeat' apply And.intro) <;> first | omega | (intros; rfl))) | (simp [AllC, AllP, addN, cloL, clo, mrgL, mrg, wrapU, Holds] <;> omega))
    ⟨by omega, by simp; omega, by simp; omega, a0, a1⟩ ?_
  rintro ⟨i, p2, c⟩ ⟨hi, b1, b2, b3, b4⟩ ih
  dsimp only at hi b1 b2 b3 b4 ih ⊢
  refine sp W 0 rfl rfl rfl (fun h2 => ?_) (fun h2 => ?_)
  · refine ce W 0 rfl rfl (specPairOk_ok w c.1 c.2) rfl ?_
    refine sp W 0 rfl rfl rfl (fun h3 => ?_) (fun h3 => ?_)
    · refine cm W 0 [(0, 0)] rfl (pair31_ok b _ w hb (by omega) (by omega) hw) ⟨rfl, trivial⟩ rfl rfl rfl ?_
      rintro _ _ ⟨p3, rfl, p3a, p3b, ⟨d, rfl, d0, d1⟩⟩
      refine ⟨_, _, rfl, rfl, ?_⟩
      refine bk W 0 [0, 1, 4, 5, 6] rfl rfl (ih (i + 1, p3, d) ⟨by dsimp only; omega, by dsimp only; omega, by dsimp only; omega, d0, d1⟩ (by dsimp only; omega))
    · refine rm W 0 [rdB b p2] rfl rfl rfl ⟨rfl, trivial⟩ rfl rfl (pairV c) rfl (.refl) (⟨_, rfl, by omega, by omega, _, rfl, b3, b4⟩)
  · refine rm W 0 [rdB b p2] rfl rfl rfl ⟨rfl, trivial⟩ rfl rfl (pairV c) rfl (.refl) (⟨_, rfl, by omega, by omega, _, rfl, b3, b4⟩)
theorem specBitGap_ok (a b : Int) (ha : InI a) (hb : InI b) : AFunP Try.prog 132 [.int .i64 a, .int .i64 b] (· = .int .u64 (gap a b)) := by
  refine afun_of Try.func132 Try.call132 rfl Try.ntmps132 rfl ?_
  have W : Walk Try.prog TT 132 _ := Walk.of TT_ok Try.func132 Try.results132
  unfold InI at *
  refine sp W 0 rfl rfl rfl (fun h => ?_) (fun h => ?_)
  · refine rp W 0 rfl rfl rfl (.int (by simp [gap, h]))
  · refine rp W 1 rfl rfl rfl (.int (by simp only [gap, if_neg h, wrapU]; omega))
theorem within31_ok (b : List Int) (p w : Int) (a : Int × Int) (hb : BytesOk b) (h0 : 0 ≤ p) (h1 : p ≤ 999970000) (hw : InI w) (ha : InB a.1) (hb' : InB a.2) : AFunM Try.prog 77 [.ptr 0 0 0 0, .int .i64 w, pairV a] [rdB b p] (RdQ b p 100 fun u => ∃ a : Int × Int, u = pairV a) := by
  refine afun_of Try.func77 Try.call77 rfl Try.ntmps77 rfl ?_
  have W : Walk Try.prog TT 77 _ := Walk.of TT_ok Try.func77 Try.results77
  unfold InB at ha hb'
  have hg : 0 ≤ gap a.1 a.2 ∧ gap a.1 a.2 ≤ 18437736874454820000 := by unfold gap; split <;> omega
  refine ce W 0 rfl rfl (specBitGap_ok a.1 a.2 (by unfold InI; omega) (by unfold InI; omega)) rfl ?_
  refine sp W 0 rfl rfl rfl (fun h2 => ?_) (fun h2 => ?_)
  · refine cm W 0 [(0, 0)] rfl (pair31_ok b _ w hb (by omega) (by omega) hw) ⟨rfl, trivial⟩ rfl rfl rfl ?_
    rintro _ _ ⟨p1, rfl, p1a, p1b, ⟨d, rfl, d0, d1⟩⟩
    refine ⟨_, _, rfl, rfl, ?_⟩
    refine rm W 0 [rdB b p1] rfl rfl rfl ⟨rfl, trivial⟩ rfl rfl (pairV d) rfl (.refl) (⟨_, rfl, by omega, by omega, _, rfl⟩)
  refine cm W 0 [(0, 0)] rfl (pick31_ok b p 16 hb (by omega) (by omega) (by unfold InI; omega)) ⟨rfl, trivial⟩ rfl rfl rfl ?_
  rintro _ _ ⟨p1, rfl, p1a, p1b, x, rfl, xa, xb⟩
  refine ⟨_, _, rfl, rfl, ?_⟩
  refine sp W 0 rfl rfl rfl (fun h3 => ?_) (fun h3 => ?_)
  · refine cm W 0 [(0, 0)] rfl (pair31_ok b _ w hb (by omega) (by omega) hw) ⟨rfl, trivial⟩ rfl rfl rfl ?_
    rintro _ _ ⟨p2, rfl, p2a, p2b, ⟨d, rfl, d0, d1⟩⟩
    refine ⟨_, _, rfl, rfl, ?_⟩
    refine rm W 0 [rdB b p2] rfl rfl rfl ⟨rfl, trivial⟩ rfl rfl (pairV d) rfl (.refl) (⟨_, rfl, by omega, by omega, _, rfl⟩)
  generalize hG : gap a.1 a.2 = g at *
  refine cm W 0 [(0, 0)] rfl (big31_ok b _ hb (by omega) (by omega)) ⟨rfl, trivial⟩ rfl rfl rfl ?_
  rintro _ _ ⟨p2, rfl, p2a, p2b, ⟨y, rfl, y0, y1⟩⟩
  refine ⟨_, _, rfl, rfl, ?_⟩
  (repeat' (first | (refine sp W 1 rfl rfl rfl (fun _ => ?_) (fun _ => ?_)) | (refine cm W 1 [(0, 0)] rfl (pick31_ok b _ _ hb (by omega) (by omega) (by unfold InI; omega)) ⟨rfl, trivial⟩ rfl rfl rfl ?_; rintro _ _ ⟨_, rfl, _, _, ⟨_, rfl, _, _⟩⟩; refine ⟨_, _, rfl, rfl, ?_⟩) | (refine cm W 1 [(0, 0)] rfl (big31_ok b _ hb (by omega) (by omega)) ⟨rfl, trivial⟩ rfl rfl rfl ?_; rintro _ _ ⟨_, rfl, _, _, ⟨_, rfl, _, _⟩⟩; refine ⟨_, _, rfl, rfl, ?_⟩))) <;> (first | (exfalso; omega) | (exact rm W 1 [rdB b _] rfl rfl rfl ⟨rfl, trivial⟩ rfl rfl (pairV (_, _)) rfl (.refl) (⟨_, rfl, by omega, by omega, _, rfl⟩)))
/-- A list of pairs out of its parts. -/
def mkL (n : Nat) (F G : Nat → Int) : List (Int × Int) := (List.range n).map fun j => (F j, G j)
theorem mkL_len (n : Nat) (F G : Nat → Int) : (mkL n F G).length = n := by simp [mkL]
theorem mkL_get {n : Nat} {F G : Nat → Int} {j : Nat} (h : j < n) : (mkL n F G).getD j (0, 0) = (F j, G j) := by simp [mkL, List.getD_eq_getElem?_getD, h]
theorem mkL_bx (n : Nat) (F G : Nat → Int) : Sub (.agg [.fz n fun j => [.int .i64 (F j), .int .i64 (G j)]]) (bx (mkL n F G)) :=
  .agg ⟨.fzn (mkL_len n F G).symm fun j hj => by unfold prow; rw [mkL_get hj], trivial⟩
theorem mkL_mem {n : Nat} {F G : Nat → Int} {a : Int × Int} (h : a ∈ mkL n F G) : ∃ j, j < n ∧ a = (F j, G j) := by
  obtain ⟨j, hj, rfl⟩ := List.mem_map.1 h
  exact ⟨j, by simpa using hj, rfl⟩
def BoxV (u : AV) : Prop := ∃ l, u = bx l ∧ l.length ≤ 100 ∧ ∀ a ∈ l, InB a.1 ∧ InB a.2
theorem box31_ok (b : List Int) (p w : Int) (hb : BytesOk b) (h0 : 0 ≤ p) (h1 : p ≤ 999900000) (hw : InI w) : AFunM Try.prog 117 [.ptr 0 0 0 0, .int .i64 w] [rdB b p] (RdQ b p 3000 BoxV) := by
  refine afun_of Try.func117 Try.call117 rfl Try.ntmps117 rfl ?_
  have W : Walk Try.prog TT 117 _ := Walk.of TT_ok Try.func117 Try.results117
  refine cm W 0 [(0, 0)] rfl (pick31_ok b p 3 hb (by omega) (by omega) (by unfold InI; omega)) ⟨rfl, trivial⟩ rfl rfl rfl ?_
  rintro _ _ ⟨p1, rfl, p1a, p1b, x, rfl, xa, xb⟩
  refine ⟨_, _, rfl, rfl, ?_⟩
  refine cm W 0 [(0, 0)] rfl (pick31_ok b p1 12 hb (by omega) (by omega) (by unfold InI; omega)) ⟨rfl, trivial⟩ rfl rfl rfl ?_
  rintro _ _ ⟨p2, rfl, p2a, p2b, y, rfl, ya, yb⟩
  refine ⟨_, _, rfl, rfl, ?_⟩
  refine sp W 0 rfl rfl rfl (fun h2 => ?_) (fun h2 => ?_)
  · refine cm W 0 [(0, 0)] rfl (pick31_ok b p2 8 hb (by omega) (by omega) (by unfold InI; omega)) ⟨rfl, trivial⟩ rfl rfl rfl ?_
    rintro _ _ ⟨p3, rfl, p3a, p3b, z, rfl, za, zb⟩
    refine ⟨_, _, rfl, rfl, ?_⟩
    refine atl W rfl ?_
    refine go_nilC 2 0 0 (.tab 0 0 fun _ => [.int .i64 0, .int .i64 0]) rfl rfl rfl rfl rfl rfl rfl rfl rfl ?_
    refine go_loop W 0 300 (σ := Nat × Nat × Int × (Nat → Int) × (Nat → Int)) (fun s => [(0, .ptr 0 0 0 0), (1, .int .i64 w), (4, .ptr 1 0 0 0), (5, .ptr 2 0 0 0), (6, .int .i64 z), (7, .int .i64 s.1)])
      (fun s => [rdB b s.2.2.1, .lst 0 [[.nils]], .lst 0 [[.sl 3 s.2.1 0 s.1]], .tab s.2.1 s.1 fun j => [.int .i64 (s.2.2.2.1 j), .int .i64 (s.2.2.2.2 j)]]) (fun s => 8 - s.1)
      (fun s => s.1 ≤ 8 ∧ p ≤ s.2.2.1 ∧ s.2.2.1 ≤ p + 3 + 301 * s.1 ∧ ∀ j, j < s.1 → InB (s.2.2.2.1 j) ∧ InB (s.2.2.2.2 j)) (0, 0, p3, fun _ => 0, fun _ => 0) [0, 1, 4, 5, 6, 7] rfl rfl rfl (by first | exact True.intro | (simp only [AllC, AllP, addN, Int.toNat_natCast, true_and, and_true, Option.getD, List.length_set, wrapU, pw1, pw7, pw8, pw16, pw23, pw32, pw52, Holds] <;> first | omega | ((repeat' apply And.intro) <;> first | omega | (intros; rfl))) | (simp [AllC, AllP, addN, cloL, clo, mrgL, mrg, wrapU, Holds] <;> omega))
      ⟨by omega, by simp; omega, by simp; omega, fun j hj => by omega⟩ ?_
    rintro ⟨i, g, p4, F, G⟩ ⟨hi, b1, b2, b3⟩ ih
    dsimp only at hi b1 b2 b3 ih ⊢
    refine sp W 0 rfl rfl rfl (fun h3 => ?_) (fun h3 => ?_)
    · refine cm W 0 [(0, 0)] rfl (pick31_ok b p4 24 hb (by omega) (by omega) (by unfold InI; omega)) ⟨rfl, trivial⟩ rfl rfl rfl ?_
      rintro _ _ ⟨p5, rfl, p5a, p5b, t, rfl, ta, tb⟩
      refine ⟨_, _, rfl, rfl, ?_⟩
      refine sp W 0 rfl rfl rfl (fun h4 => ?_) (fun h4 => ?_)
      · refine phg W 0 7 [4, 5, 6] rfl rfl (fun PW => ?_)
        refine phm PW 0 4 [(0, 0)] [] [] rfl rfl trivial rfl (pair31_ok b _ w hb (by omega) (by omega) hw) ⟨rfl, trivial⟩ rfl rfl rfl ?_
        rintro _ _ ⟨p6, rfl, p6a, p6b, ⟨d, rfl, d0, d1⟩⟩
        refine ⟨_, _, rfl, rfl, ?_⟩
        refine pho PW 0 5 [] [] rfl rfl trivial rfl rfl ?_
        refine pho PW 0 6 [] [] rfl rfl trivial rfl rfl ?_
        refine phe PW 0 [] [] rfl trivial rfl ?_
        refine bd W 0 4 [0, 1, 4, 5, 6, 7] rfl rfl rfl rfl rfl (ih (i + 1, g + 1, p6, fun j => if j < i then F j else d.1, fun j => if j < i then G j else d.2) ⟨by dsimp only; omega, by dsimp only; omega, by dsimp only; omega, fun j hj => ?_⟩ (by dsimp only; omega))
        dsimp only
        split
        · exact b3 j (by omega)
        · exact ⟨d0, d1⟩
      · refine phg W 0 7 [4, 5, 6] rfl rfl (fun PW => ?_)
        refine phm PW 0 4 [(0, 0)] [] [] rfl rfl trivial rfl (good31_ok b _ w hb (by omega) (by omega) hw) ⟨rfl, trivial⟩ rfl rfl rfl ?_
        rintro _ _ ⟨p6, rfl, p6a, p6b, ⟨d, rfl, d0, d1⟩⟩
        refine ⟨_, _, rfl, rfl, ?_⟩
        refine pho PW 0 5 [] [] rfl rfl trivial rfl rfl ?_
        refine pho PW 0 6 [] [] rfl rfl trivial rfl rfl ?_
        refine phe PW 0 [] [] rfl trivial rfl ?_
        refine bd W 0 4 [0, 1, 4, 5, 6, 7] rfl rfl rfl rfl rfl (ih (i + 1, g + 1, p6, fun j => if j < i then F j else d.1, fun j => if j < i then G j else d.2) ⟨by dsimp only; omega, by dsimp only; omega, by dsimp only; omega, fun j hj => ?_⟩ (by dsimp only; omega))
        dsimp only
        split
        · exact b3 j (by omega)
        · exact ⟨d0, d1⟩
    · refine rm W 0 [rdB b p4] rfl rfl rfl ⟨rfl, trivial⟩ rfl rfl (bx (mkL i F G)) rfl (mkL_bx i F G) (⟨p4, rfl, by omega, by omega, _, rfl, by rw [mkL_len]; omega, fun a ha => ?_⟩)
      obtain ⟨j, hj, rfl⟩ := mkL_mem ha
      exact b3 j hj
  · refine atl W rfl ?_
    refine go_nilC 2 0 0 (.tab 0 0 fun _ => [.int .i64 0, .int .i64 0]) rfl rfl rfl rfl rfl rfl rfl rfl rfl ?_
    refine go_loop W 0 300 (σ := Nat × Nat × Int × (Nat → Int) × (Nat → Int)) (fun s => [(0, .ptr 0 0 0 0), (1, .int .i64 w), (4, .ptr 1 0 0 0), (5, .ptr 2 0 0 0), (6, .int .i64 (1 + x)), (7, .int .i64 s.1)])
      (fun s => [rdB b s.2.2.1, .lst 0 [[.nils]], .lst 0 [[.sl 3 s.2.1 0 s.1]], .tab s.2.1 s.1 fun j => [.int .i64 (s.2.2.2.1 j), .int .i64 (s.2.2.2.2 j)]]) (fun s => 8 - s.1)
      (fun s => s.1 ≤ 8 ∧ p ≤ s.2.2.1 ∧ s.2.2.1 ≤ p + 3 + 301 * s.1 ∧ ∀ j, j < s.1 → InB (s.2.2.2.1 j) ∧ InB (s.2.2.2.2 j)) (0, 0, p2, fun _ => 0, fun _ => 0) [0, 1, 4, 5, 6, 7] rfl rfl rfl (by first | exact True.intro | (simp only [AllC, AllP, addN, Int.toNat_natCast, true_and, and_true, Option.getD, List.length_set, wrapU, pw1, pw7, pw8, pw16, pw23, pw32, pw52, Holds] <;> first | omega | ((repeat' apply And.intro) <;> first | omega | (intros; rfl))) | (simp [AllC, AllP, addN, cloL, clo, mrgL, mrg, wrapU, Holds] <;> omega))
      ⟨by omega, by simp; omega, by simp; omega, fun j hj => by omega⟩ ?_
    rintro ⟨i, g, p4, F, G⟩ ⟨hi, b1, b2, b3⟩ ih
    dsimp only at hi b1 b2 b3 ih ⊢
    refine sp W 0 rfl rfl rfl (fun h3 => ?_) (fun h3 => ?_)
    · refine cm W 0 [(0, 0)] rfl (pick31_ok b p4 24 hb (by omega) (by omega) (by unfold InI; omega)) ⟨rfl, trivial⟩ rfl rfl rfl ?_
      rintro _ _ ⟨p5, rfl, p5a, p5b, t, rfl, ta, tb⟩
      refine ⟨_, _, rfl, rfl, ?_⟩
      refine sp W 0 rfl rfl rfl (fun h4 => ?_) (fun h4 => ?_)
      · refine phg W 0 7 [4, 5, 6] rfl rfl (fun PW => ?_)
        refine phm PW 0 4 [(0, 0)] [] [] rfl rfl trivial rfl (pair31_ok b _ w hb (by omega) (by omega) hw) ⟨rfl, trivial⟩ rfl rfl rfl ?_
        rintro _ _ ⟨p6, rfl, p6a, p6b, ⟨d, rfl, d0, d1⟩⟩
        refine ⟨_, _, rfl, rfl, ?_⟩
        refine pho PW 0 5 [] [] rfl rfl trivial rfl rfl ?_
        refine pho PW 0 6 [] [] rfl rfl trivial rfl rfl ?_
        refine phe PW 0 [] [] rfl trivial rfl ?_
        refine bd W 0 4 [0, 1, 4, 5, 6, 7] rfl rfl rfl rfl rfl (ih (i + 1, g + 1, p6, fun j => if j < i then F j else d.1, fun j => if j < i then G j else d.2) ⟨by dsimp only; omega, by dsimp only; omega, by dsimp only; omega, fun j hj => ?_⟩ (by dsimp only; omega))
        dsimp only
        split
        · exact b3 j (by omega)
        · exact ⟨d0, d1⟩
      · refine phg W 0 7 [4, 5, 6] rfl rfl (fun PW => ?_)
        refine phm PW 0 4 [(0, 0)] [] [] rfl rfl trivial rfl (good31_ok b _ w hb (by omega) (by omega) hw) ⟨rfl, trivial⟩ rfl rfl rfl ?_
        rintro _ _ ⟨p6, rfl, p6a, p6b, ⟨d, rfl, d0, d1⟩⟩
        refine ⟨_, _, rfl, rfl, ?_⟩
        refine pho PW 0 5 [] [] rfl rfl trivial rfl rfl ?_
        refine pho PW 0 6 [] [] rfl rfl trivial rfl rfl ?_
        refine phe PW 0 [] [] rfl trivial rfl ?_
        refine bd W 0 4 [0, 1, 4, 5, 6, 7] rfl rfl rfl rfl rfl (ih (i + 1, g + 1, p6, fun j => if j < i then F j else d.1, fun j => if j < i then G j else d.2) ⟨by dsimp only; omega, by dsimp only; omega, by dsimp only; omega, fun j hj => ?_⟩ (by dsimp only; omega))
        dsimp only
        split
        · exact b3 j (by omega)
        · exact ⟨d0, d1⟩
    · refine rm W 0 [rdB b p4] rfl rfl rfl ⟨rfl, trivial⟩ rfl rfl (bx (mkL i F G)) rfl (mkL_bx i F G) (⟨p4, rfl, by omega, by omega, _, rfl, by rw [mkL_len]; omega, fun a ha => ?_⟩)
      obtain ⟨j, hj, rfl⟩ := mkL_mem ha
      exact b3 j hj

end Pf
/- Draws of boxes, ended. -/
namespace Pf
open Go Go.Proofs

theorem few31_ok (b : List Int) (p w : Int) (hb : BytesOk b) (h0 : 0 ≤ p) (h1 : p ≤ 999900000) (hw : InI w) : AFunM Try.prog 127 [.ptr 0 0 0 0, .int .i64 w] [rdB b p] (RdQ b p 3000 BoxV) := by
  refine afun_of Try.func127 Try.call127 rfl Try.ntmps127 rfl ?_
  have W : Walk Try.prog TT 127 _ := Walk.of TT_ok Try.func127 Try.results127
  have ht := top_rng w
  refine cm W 0 [(0, 0)] rfl (pick31_ok b p 3 hb (by omega) (by omega) (by unfold InI; omega)) ⟨rfl, trivial⟩ rfl rfl rfl ?_
  rintro _ _ ⟨p1, rfl, p1a, p1b, x, rfl, xa, xb⟩
  refine ⟨_, _, rfl, rfl, ?_⟩
  refine atl W rfl ?_
  refine go_nilC 2 0 0 (.tab 0 0 fun _ => [.int .i64 0, .int .i64 0]) rfl rfl rfl rfl rfl rfl rfl rfl rfl ?_
  refine go_loop W 0 300 (σ := Nat × Nat × Int × (Nat → Int) × (Nat → Int)) (fun s => [(0, .ptr 0 0 0 0), (1, .int .i64 w), (4, .ptr 1 0 0 0), (5, .ptr 2 0 0 0), (6, .int .i64 (1 + x)), (7, .int .i64 s.1)])
      (fun s => [rdB b s.2.2.1, .lst 0 [[.nils]], .lst 0 [[.sl 3 s.2.1 0 s.1]], .tab s.2.1 s.1 fun j => [.int .i64 (s.2.2.2.1 j), .int .i64 (s.2.2.2.2 j)]]) (fun s => 8 - s.1)
      (fun s => s.1 ≤ 8 ∧ p ≤ s.2.2.1 ∧ s.2.2.1 ≤ p + 3 + 301 * s.1 ∧ ∀ j, j < s.1 → InB (s.2.2.2.1 j) ∧ InB (s.2.2.2.2 j)) (0, 0, p1, fun _ => 0, fun _ => 0) [0, 1, 4, 5, 6, 7] rfl rfl rfl (by first | exact True.intro | (simp only [AllC, AllP, addN, Int.toNat_natCast, true_and, and_true, Option.getD, List.length_set, wrapU, pw1, pw7, pw8, pw16, pw23, pw32, pw52, Holds] <;> first | omega | ((repeat' apply And.intro) <;> first | omega | (intros; rfl))) | (simp [AllC, AllP, addN, cloL, clo, mrgL, mrg, wrapU, Holds] <;> omega))
      ⟨by omega, by simp; omega, by simp; omega, fun j hj => by omega⟩ ?_
  rintro ⟨i, g, p4, F, G⟩ ⟨hi, b1, b2, b3⟩ ih
  dsimp only at hi b1 b2 b3 ih ⊢
  refine sp W 0 rfl rfl rfl (fun h3 => ?_) (fun h3 => ?_)
  · refine cm W 0 [(0, 0)] rfl (ord31_ok b _ w hb (by omega) (by omega) hw) ⟨rfl, trivial⟩ rfl rfl rfl ?_
    rintro _ _ ⟨p5, rfl, p5a, p5b, ⟨y, rfl, y0, y1⟩⟩
    refine ⟨_, _, rfl, rfl, ?_⟩
    (repeat' (first | (refine sp W 0 rfl rfl rfl (fun _ => ?_) (fun _ => ?_)) | (refine ce W 0 rfl rfl (specBitTop_ok _) rfl ?_) | (refine ce W 0 rfl rfl (specPairOk_ok _ _ _) rfl ?_) | (refine cm W 0 [(0, 0)] rfl (pick31_ok b _ _ hb (by omega) (by omega) (by unfold InI; omega)) ⟨rfl, trivial⟩ rfl rfl rfl ?_; rintro _ _ ⟨_, rfl, _, _, ⟨_, rfl, _, _⟩⟩; refine ⟨_, _, rfl, rfl, ?_⟩))) <;> (first | (exfalso; omega) | skip)
    all_goals (refine go_backD W 0 300 4 [0, 1, 4, 5, 6, 7] rfl rfl rfl rfl rfl (by first | exact True.intro | (simp only [AllC, AllP, addN, Int.toNat_natCast, true_and, and_true, Option.getD, List.length_set, wrapU, pw1, pw7, pw8, pw16, pw23, pw32, pw52, Holds] <;> first | omega | ((repeat' apply And.intro) <;> first | omega | (intros; rfl))) | (simp [AllC, AllP, addN, cloL, clo, mrgL, mrg, wrapU, Holds] <;> omega)) (by simp only [AllC, true_and, and_true] <;> first | exact True.intro | (intros; rfl) | (refine ⟨?_, ?_⟩ <;> intros <;> rfl)) (ih (i + 1, g + 1, _, fun j => if j < i then F j else _, fun j => if j < i then G j else _) ⟨by dsimp only; omega, by dsimp only; omega, by dsimp only; omega, fun j hj => ?_⟩ (by dsimp only; omega)))
    all_goals (dsimp only; split; exact b3 j (by omega); unfold InB; omega)
  · refine rm W 0 [rdB b p4] rfl rfl rfl ⟨rfl, trivial⟩ rfl rfl (bx (mkL i F G)) rfl (mkL_bx i F G) (⟨p4, rfl, by omega, by omega, _, rfl, by rw [mkL_len]; omega, fun a ha => ?_⟩)
    obtain ⟨j, hj, rfl⟩ := mkL_mem ha
    exact b3 j hj
def BoxA (u : AV) : Prop := ∃ l, u = bx l ∧ l.length ≤ 200
theorem inner31_ok (b : List Int) (p w : Int) (l : List (Int × Int)) (hb : BytesOk b) (h0 : 0 ≤ p) (h1 : p ≤ 999900000) (hw : InI w) (hl : l.length ≤ 100) (hB : ∀ a ∈ l, InB a.1 ∧ InB a.2) : AFunM Try.prog 118 [.ptr 0 0 0 0, .int .i64 w, bx l] [rdB b p] (RdQ b p 30000 BoxA) := by
  refine afun_of Try.func118 Try.call118 rfl Try.ntmps118 rfl ?_
  have W : Walk Try.prog TT 118 _ := Walk.of TT_ok Try.func118 Try.results118
  refine atl W rfl ?_
  refine go_nilC 3 0 0 (.tab 0 0 fun _ => [.int .i64 0, .int .i64 0]) rfl rfl rfl rfl rfl rfl rfl rfl rfl ?_
  refine go_loop W 0 300 (σ := Nat × Nat × Int × (Nat → Int) × (Nat → Int)) (fun s => [(0, .ptr 0 0 0 0), (1, .int .i64 w), (5, .ptr 1 0 0 0), (6, .ptr 2 0 0 0), (7, .ptr 3 0 0 0), (8, .int .i64 s.1)])
      (fun s => [rdB b s.2.2.1, .lst 0 [[.fz l.length (prow l)]], .lst 0 [[.nils]], .lst 0 [[.sl 4 s.2.1 0 s.1]], .tab s.2.1 s.1 fun j => [.int .i64 (s.2.2.2.1 j), .int .i64 (s.2.2.2.2 j)]]) (fun s => l.length - s.1)
      (fun s => s.1 ≤ l.length ∧ p ≤ s.2.2.1 ∧ s.2.2.1 ≤ p + 100 * s.1) (0, 0, p, fun _ => 0, fun _ => 0) [0, 1, 5, 6, 7, 8] rfl rfl rfl (by first | exact True.intro | (simp only [AllC, AllP, addN, Int.toNat_natCast, true_and, and_true, Option.getD, List.length_set, wrapU, pw1, pw7, pw8, pw16, pw23, pw32, pw52, Holds] <;> first | omega | ((repeat' apply And.intro) <;> first | omega | (intros; rfl))) | (simp [AllC, AllP, addN, cloL, clo, mrgL, mrg, wrapU, Holds] <;> omega))
      ⟨by omega, by simp, by simp⟩ ?_
  rintro ⟨i, g, p4, F, G⟩ ⟨hi, b1, b2⟩ ih
  dsimp only at hi b1 b2 ih ⊢
  refine sp W 0 rfl rfl rfl (fun h3 => ?_) (fun h3 => ?_)
  · have hi3 : i < l.length := by omega
    have hB := hB _ (getD_mem (d := (0, 0)) hi3)
    refine phg W 0 11 [9, 10] rfl rfl (fun PW => ?_)
    refine phm PW 0 9 [(0, 0)] [] [] rfl rfl trivial rfl (within31_ok b _ w (l.getD i (0, 0)) hb (by omega) (by omega) hw hB.1 hB.2) ⟨rfl, trivial⟩ rfl rfl rfl ?_
    rintro _ _ ⟨p5, rfl, p5a, p5b, ⟨d, rfl⟩⟩
    refine ⟨_, _, rfl, rfl, ?_⟩
    refine pho PW 0 10 [] [] rfl rfl trivial rfl rfl ?_
    refine phe PW 0 [] [] rfl trivial rfl ?_
    refine bd W 0 5 [0, 1, 5, 6, 7, 8] rfl rfl rfl rfl rfl (ih (i + 1, g + 1, p5, fun j => if j < i then F j else d.1, fun j => if j < i then G j else d.2) ⟨by dsimp only; omega, by dsimp only; omega, by dsimp only; omega⟩ (by dsimp only; omega))
  · refine cm W 0 [(0, 0)] rfl (pick31_ok b p4 20 hb (by omega) (by omega) (by unfold InI; omega)) ⟨rfl, trivial⟩ rfl rfl rfl ?_
    rintro _ _ ⟨p5, rfl, p5a, p5b, x, rfl, xa, xb⟩
    refine ⟨_, _, rfl, rfl, ?_⟩
    refine sp W 0 rfl rfl rfl (fun h4 => ?_) (fun h4 => ?_)
    · refine phg W 0 7 [4, 5, 6] rfl rfl (fun PW => ?_)
      refine phm PW 0 4 [(0, 0)] [] [] rfl rfl trivial rfl (pair31_ok b _ w hb (by omega) (by omega) hw) ⟨rfl, trivial⟩ rfl rfl rfl ?_
      rintro _ _ ⟨p6, rfl, p6a, p6b, ⟨d, rfl, d0, d1⟩⟩
      refine ⟨_, _, rfl, rfl, ?_⟩
      refine pho PW 0 5 [] [] rfl rfl trivial rfl rfl ?_
      refine pho PW 0 6 [] [] rfl rfl trivial rfl rfl ?_
      refine phe PW 0 [] [] rfl trivial rfl ?_
      refine rm W 0 [rdB b p6] rfl rfl rfl ⟨rfl, trivial⟩ rfl rfl (bx (mkL (i + 1) (fun j => if j < i then F j else d.1) (fun j => if j < i then G j else d.2))) rfl (mkL_bx _ _ _) (⟨p6, rfl, by omega, by omega, _, rfl, by rw [mkL_len]; omega⟩)
    · refine rm W 0 [rdB b p5] rfl rfl rfl ⟨rfl, trivial⟩ rfl rfl (bx (mkL i F G)) rfl (mkL_bx i F G) (⟨p5, rfl, by omega, by omega, _, rfl, by rw [mkL_len]; omega⟩)
theorem l31Boxes_ok (b : List Int) (hb : ∀ x ∈ b, 0 ≤ x ∧ x ≤ 255) : AFunP Try.prog 56 [.fi .u8 b] (fun u => ∃ w l m, u = .tup [.int .i64 w, bx l, bx m] ∧ InI w ∧ l.length ≤ 200 ∧ m.length ≤ 200) := by
  refine afun_of Try.func56 Try.call56 rfl Try.ntmps56 rfl ?_
  have W : Walk Try.prog TT 56 _ := Walk.of TT_ok Try.func56 Try.results56
  refine cx W 0 rfl rfl (l31Open_ok b hb) (OpenQ.flat) ?_
  rintro _ _ ⟨rfl, c, rfl, hc⟩
  refine ⟨_, _, rfl, rfl, ?_⟩
  refine cm W 0 [(2, 0)] rfl (width31_ok c 0 hc (by omega) (by omega)) ⟨rfl, trivial⟩ rfl rfl rfl ?_
  rintro _ _ ⟨p1, rfl, p1a, p1b, ⟨w, rfl, w0, w1⟩⟩
  refine ⟨_, _, rfl, rfl, ?_⟩
  refine cm W 0 [(2, 0)] rfl (box31_ok c p1 w hc (by omega) (by omega) ⟨w0, w1⟩) ⟨rfl, trivial⟩ rfl rfl rfl ?_
  rintro _ _ ⟨p2, rfl, p2a, p2b, ⟨m, rfl, m0, m1⟩⟩
  refine ⟨_, _, rfl, rfl, ?_⟩
  refine cm W 0 [(2, 0)] rfl (pick31_ok c p2 4 hc (by omega) (by omega) (by unfold InI; omega)) ⟨rfl, trivial⟩ rfl rfl rfl ?_
  rintro _ _ ⟨p3, rfl, p3a, p3b, ⟨x, rfl, x0, x1⟩⟩
  refine ⟨_, _, rfl, rfl, ?_⟩
  refine sp W 0 rfl rfl rfl (fun h2 => ?_) (fun h2 => ?_)
  · refine phg W 0 8 [4, 7] rfl rfl (fun PW => ?_)
    refine phm PW 0 4 [(2, 0)] [] [] rfl rfl trivial rfl (inner31_ok c p3 w m hc (by omega) (by omega) ⟨w0, w1⟩ m0 m1) ⟨rfl, trivial⟩ rfl rfl rfl ?_
    rintro _ _ ⟨p4, rfl, p4a, p4b, ⟨l, rfl, l0⟩⟩
    refine ⟨_, _, rfl, rfl, ?_⟩
    refine pho PW 0 7 [] [] rfl rfl trivial rfl rfl ?_
    refine phe PW 0 [] [] rfl trivial rfl ?_
    refine rq W 0 rfl rfl (.tup [.int .i64 w, bx l, bx m]) (⟨w, l, m, rfl, ⟨w0, w1⟩, by omega, by omega⟩) rfl .refl
  · refine phg W 0 7 [3, 6] rfl rfl (fun PW => ?_)
    refine phm PW 0 3 [(2, 0)] [] [] rfl rfl trivial rfl (box31_ok c p3 w hc (by omega) (by omega) ⟨w0, w1⟩) ⟨rfl, trivial⟩ rfl rfl rfl ?_
    rintro _ _ ⟨p4, rfl, p4a, p4b, ⟨l, rfl, l0, l1⟩⟩
    refine ⟨_, _, rfl, rfl, ?_⟩
    refine pho PW 0 6 [] [] rfl rfl trivial rfl rfl ?_
    refine phe PW 0 [] [] rfl trivial rfl ?_
    refine rq W 0 rfl rfl (.tup [.int .i64 w, bx l, bx m]) (⟨w, l, m, rfl, ⟨w0, w1⟩, by omega, by omega⟩) rfl .refl
theorem drawBoxMeet_ok (b : List Int) (hb : ∀ x ∈ b, 0 ≤ x ∧ x ≤ 255) : AFunP Try.prog 12 [.fi .u8 b] (fun u => ∃ w l m, u = .tup [.int .i64 w, bx l, bx m] ∧ InI w ∧ l.length ≤ 200 ∧ m.length ≤ 200) := by
  refine afun_of Try.func12 Try.call12 rfl Try.ntmps12 rfl ?_
  have W : Walk Try.prog TT 12 _ := Walk.of TT_ok Try.func12 Try.results12
  refine cq W 0 rfl rfl (l31Boxes_ok b hb) ?_
  rintro _ ⟨w, l, m, rfl, hw, hl, hm⟩
  refine ⟨_, rfl, ?_⟩
  refine phg W 0 5 [4] rfl rfl (fun PW => ?_)
  refine pho PW 0 4 [] [] rfl rfl trivial rfl rfl ?_
  refine phe PW 0 [] [] rfl trivial rfl ?_
  refine rq W 0 rfl rfl (.tup [.int .i64 w, bx l, bx m]) (⟨w, l, m, rfl, hw, hl, hm⟩) rfl .refl
theorem l31Box_ok (b : List Int) (hb : ∀ x ∈ b, 0 ≤ x ∧ x ≤ 255) : AFunP Try.prog 69 [.fi .u8 b] (fun u => ∃ w l, u = .tup [.int .i64 w, bx l] ∧ InI w ∧ l.length ≤ 100 ∧ ∀ a ∈ l, InB a.1 ∧ InB a.2) := by
  refine afun_of Try.func69 Try.call69 rfl Try.ntmps69 rfl ?_
  have W : Walk Try.prog TT 69 _ := Walk.of TT_ok Try.func69 Try.results69
  refine cx W 0 rfl rfl (l31Open_ok b hb) (OpenQ.flat) ?_
  rintro _ _ ⟨rfl, c, rfl, hc⟩
  refine ⟨_, _, rfl, rfl, ?_⟩
  refine cm W 0 [(1, 0)] rfl (width31_ok c 0 hc (by omega) (by omega)) ⟨rfl, trivial⟩ rfl rfl rfl ?_
  rintro _ _ ⟨p1, rfl, p1a, p1b, ⟨w, rfl, w0, w1⟩⟩
  refine ⟨_, _, rfl, rfl, ?_⟩
  refine cm W 0 [(1, 0)] rfl (pick31_ok c p1 4 hc (by omega) (by omega) (by unfold InI; omega)) ⟨rfl, trivial⟩ rfl rfl rfl ?_
  rintro _ _ ⟨p3, rfl, p3a, p3b, ⟨x, rfl, x0, x1⟩⟩
  refine ⟨_, _, rfl, rfl, ?_⟩
  refine sp W 0 rfl rfl rfl (fun h2 => ?_) (fun h2 => ?_)
  · refine cm W 0 [(1, 0)] rfl (few31_ok c p3 w hc (by omega) (by omega) ⟨w0, w1⟩) ⟨rfl, trivial⟩ rfl rfl rfl ?_
    rintro _ _ ⟨p4, rfl, p4a, p4b, ⟨l, rfl, l0, l1⟩⟩
    refine ⟨_, _, rfl, rfl, ?_⟩
    refine rq W 0 rfl rfl (.tup [.int .i64 w, bx l]) (⟨w, l, rfl, ⟨w0, w1⟩, by omega, l1⟩) rfl .refl
  · refine cm W 0 [(1, 0)] rfl (box31_ok c p3 w hc (by omega) (by omega) ⟨w0, w1⟩) ⟨rfl, trivial⟩ rfl rfl rfl ?_
    rintro _ _ ⟨p4, rfl, p4a, p4b, ⟨l, rfl, l0, l1⟩⟩
    refine ⟨_, _, rfl, rfl, ?_⟩
    refine rq W 0 rfl rfl (.tup [.int .i64 w, bx l]) (⟨w, l, rfl, ⟨w0, w1⟩, by omega, l1⟩) rfl .refl
theorem drawBoxSplit_ok (b : List Int) (hb : ∀ x ∈ b, 0 ≤ x ∧ x ≤ 255) : AFunP Try.prog 21 [.fi .u8 b] (fun u => ∃ w l at', u = .tup [.int .i64 w, bx l, .int .i64 at'] ∧ InI w ∧ l.length ≤ 100 ∧ InB at') := by
  refine afun_of Try.func21 Try.call21 rfl Try.ntmps21 rfl ?_
  have W : Walk Try.prog TT 21 _ := Walk.of TT_ok Try.func21 Try.results21
  refine cq W 0 rfl rfl (l31Box_ok b hb) ?_
  rintro _ ⟨w, l, rfl, hw, hl, hB⟩
  refine ⟨_, rfl, ?_⟩
  refine cx W 0 rfl rfl (l31Open_ok b hb) (OpenQ.flat) ?_
  rintro _ _ ⟨rfl, c, rfl, hc⟩
  refine ⟨_, _, rfl, rfl, ?_⟩
  refine phg W 0 14 [7, 9, 13] rfl rfl (fun PW => ?_)
  refine phm PW 0 7 [(2, 0)] [] [] rfl rfl trivial rfl (pick31_ok c 500 _ hc (by omega) (by omega) (by unfold InI; omega)) ⟨rfl, trivial⟩ rfl rfl rfl ?_
  rintro _ _ ⟨p3, rfl, p3a, p3b, ⟨x, rfl, x0, x1⟩⟩
  refine ⟨_, _, rfl, rfl, ?_⟩
  refine phm PW 0 9 [(2, 0)] [] [] rfl rfl trivial rfl (pick31_ok c p3 _ hc (by omega) (by omega) (by unfold InI; omega)) ⟨rfl, trivial⟩ rfl rfl rfl ?_
  rintro _ _ ⟨p4, rfl, p4a, p4b, ⟨y, rfl, y0, y1⟩⟩
  refine ⟨_, _, rfl, rfl, ?_⟩
  refine pho PW 0 13 [] [] rfl rfl trivial rfl rfl ?_
  refine phe PW 0 [] [] rfl trivial rfl ?_
  refine rq W 0 rfl rfl (.tup [.int .i64 w, bx l, .int .i64 (x - y / 11)]) (⟨w, l, _, rfl, hw, by omega, by unfold InB; omega⟩) rfl .refl
theorem drawBoxCut_ok (b : List Int) (hb : ∀ x ∈ b, 0 ≤ x ∧ x ≤ 255) : AFunP Try.prog 24 [.fi .u8 b] (fun u => ∃ w l at' g, u = .tup [.int .i64 w, bx l, .int .i64 at', pairV g] ∧ InI w ∧ l.length ≤ 100 ∧ InB at') := by
  refine afun_of Try.func24 Try.call24 rfl Try.ntmps24 rfl ?_
  have W : Walk Try.prog TT 24 _ := Walk.of TT_ok Try.func24 Try.results24
  refine cq W 0 rfl rfl (l31Box_ok b hb) ?_
  rintro _ ⟨w, l, rfl, hw, hl, hB⟩
  refine ⟨_, rfl, ?_⟩
  refine cx W 0 rfl rfl (l31Open_ok b hb) (OpenQ.flat) ?_
  rintro _ _ ⟨rfl, c, rfl, hc⟩
  refine ⟨_, _, rfl, rfl, ?_⟩
  refine cm W 0 [(3, 0)] rfl (pick31_ok c 500 _ hc (by omega) (by omega) (by unfold InI; omega)) ⟨rfl, trivial⟩ rfl rfl rfl ?_
  rintro _ _ ⟨p3, rfl, p3a, p3b, ⟨x, rfl, x0, x1⟩⟩
  refine ⟨_, _, rfl, rfl, ?_⟩
  refine sp W 0 rfl rfl rfl (fun h2 => ?_) (fun h2 => ?_)
  · have hB := hB _ (getD_mem (d := (0, 0)) (show x.toNat < l.length by omega))
    refine cm W 0 [(3, 0)] rfl (within31_ok c p3 w (l.getD x.toNat (0, 0)) hc (by omega) (by omega) hw hB.1 hB.2) ⟨rfl, trivial⟩ rfl rfl rfl ?_
    rintro _ _ ⟨p4, rfl, p4a, p4b, ⟨d, rfl⟩⟩
    refine ⟨_, _, rfl, rfl, ?_⟩
    refine phg W 0 11 [4, 9] rfl rfl (fun PW => ?_)
    refine phm PW 0 4 [(3, 0)] [] [] rfl rfl trivial rfl (pick31_ok c p4 24 hc (by omega) (by omega) (by unfold InI; omega)) ⟨rfl, trivial⟩ rfl rfl rfl ?_
    rintro _ _ ⟨p5, rfl, p5a, p5b, ⟨y, rfl, y0, y1⟩⟩
    refine ⟨_, _, rfl, rfl, ?_⟩
    refine pho PW 0 9 [] [] rfl rfl trivial rfl rfl ?_
    refine phe PW 0 [] [] rfl trivial rfl ?_
    refine rq W 0 rfl rfl (.tup [.int .i64 w, bx l, .int .i64 (x - y / 23), pairV d]) (⟨w, l, _, d, rfl, hw, by omega, by unfold InB; omega⟩) rfl .refl
  · refine phg W 0 11 [4, 9] rfl rfl (fun PW => ?_)
    refine phm PW 0 4 [(3, 0)] [] [] rfl rfl trivial rfl (pick31_ok c p3 24 hc (by omega) (by omega) (by unfold InI; omega)) ⟨rfl, trivial⟩ rfl rfl rfl ?_
    rintro _ _ ⟨p5, rfl, p5a, p5b, ⟨y, rfl, y0, y1⟩⟩
    refine ⟨_, _, rfl, rfl, ?_⟩
    refine pho PW 0 9 [] [] rfl rfl trivial rfl rfl ?_
    refine phe PW 0 [] [] rfl trivial rfl ?_
    refine rq W 0 rfl rfl (.tup [.int .i64 w, bx l, .int .i64 (x - y / 23), pairV (0, 0)]) (⟨w, l, _, (0, 0), rfl, hw, by omega, by unfold InB; omega⟩) rfl .refl
end Pf
/- The law of boxes within boxes. -/
namespace Pf
open Go Go.Proofs

theorem bmeet_get {w : Int} {a b : List (Int × Int)} (h : bmeetOk w a b) {i : Nat} (hi : i < a.length) : (bmeet w a b).getD i (0, 0) = pmeet w (a.getD i (0, 0)) (b.getD i (0, 0)) := by
  simp [bmeet, h, List.getD_eq_getElem?_getD, hi]
theorem bmeet_len {w : Int} {a b : List (Int × Int)} (h : bmeetOk w a b) : (bmeet w a b).length = a.length := by simp [bmeet, h]
theorem bmeet_ok {w : Int} {a b : List (Int × Int)} (h : bmeetOk w a b) : boxOk w (bmeet w a b) ∧ boxIs (bmeet w a b) a ∧ boxIs (bmeet w a b) b := by
  have hl := bmeet_len h
  refine ⟨⟨by rw [hl]; exact h.1.1, by rw [hl]; exact h.1.2.1, fun p hp => ?_⟩, ⟨hl, fun i hi => ?_⟩, ⟨by rw [hl]; exact h.2.2.1, fun i hi => ?_⟩⟩
  · obtain ⟨i, hi, rfl⟩ := mem_getD (0, 0) hp
    rw [hl] at hi
    have hm := h.2.2.2 i hi
    rw [bmeet_get h hi, pmeet_yes hm]
    exact (meet_pair hm.1 hm.2.1).2 hm.2.2
  · rw [hl] at hi
    have hm := h.2.2.2 i hi
    rw [bmeet_get h hi, pmeet_yes hm]
    dsimp only; omega
  · rw [hl] at hi
    have hm := h.2.2.2 i hi
    rw [bmeet_get h hi, pmeet_yes hm]
    dsimp only; omega
theorem boxIs_meet {w : Int} {a b : List (Int × Int)} (ha : boxOk w a) (hb : boxOk w b) (h : boxIs a b) : bmeetOk w a b ∧ boxIs a (bmeet w a b) := by
  have hm : bmeetOk w a b := ⟨ha, hb, h.1, fun i hi => ⟨boxOk_get ha hi, boxOk_get hb (by have := h.1; omega), by
    have h1 := h.2 i hi
    have h2 := (boxOk_get ha hi).2.2.1
    omega⟩⟩
  refine ⟨hm, (bmeet_len hm).symm, fun i hi => ?_⟩
  rw [bmeet_get hm hi, pmeet_yes (hm.2.2.2 i hi)]
  have h1 := h.2 i hi
  dsimp only; omega
theorem gap_mono {a b c d : Int} (h1 : c ≤ a) (h2 : b ≤ d) : gap a b ≤ gap c d := by
  unfold gap
  split <;> split <;> omega
theorem bitLen_mono {a b : Int} (h : a ≤ b) : bitLen a ≤ bitLen b := by
  unfold bitLen
  have := bitL_mono (a := a.toNat) (b := b.toNat) (by omega)
  omega
theorem unitsL_rng : ∀ (l : List (Int × Int)) (u : Int), 1 ≤ u → u ≤ 1000000000 → 1 ≤ unitsL l u ∧ unitsL l u ≤ 1000000000
  | [], u, h1, h2 => ⟨h1, h2⟩
  | p :: l, u, h1, h2 => by
    simp only [unitsL]
    refine unitsL_rng l _ ?_ ?_
    · split
      · have : 1 * 1 ≤ u * (4 * min (gap p.1 p.2) 1000000000 - 1) := Int.mul_le_mul h1 (by omega) (by omega) (by omega)
        omega
      · exact h1
    · split <;> omega
theorem unitsL_mono : ∀ (l m : List (Int × Int)) (u v : Int), l.length = m.length → (∀ i, i < l.length → gap (l.getD i (0, 0)).1 (l.getD i (0, 0)).2 ≤ gap (m.getD i (0, 0)).1 (m.getD i (0, 0)).2) → 1 ≤ u → u ≤ v → v ≤ 1000000000 → unitsL l u ≤ unitsL m v
  | [], [], u, v, _, _, _, h, _ => h
  | p :: l, q :: m, u, v, hl, hg, hu, h, hv => by
    simp only [unitsL]
    have h0 := hg 0 (by simp)
    simp only [List.getD_cons_zero] at h0
    have hr : ∀ {x y : Int}, 0 < x → x ≤ y → 1 * 1 ≤ u * (4 * min x 1000000000 - 1) ∧ u * (4 * min x 1000000000 - 1) ≤ v * (4 * min y 1000000000 - 1) := by
      intro x y h1 h2
      exact ⟨Int.mul_le_mul hu (by omega) (by omega) (by omega), Int.mul_le_mul h (by omega) (by omega) (by omega)⟩
    refine unitsL_mono l m _ _ (by simpa using hl) (fun i hi => by simpa using hg (i + 1) (by simpa using hi)) ?_ ?_ ?_
    · split
      · have := hr (by assumption) (Int.le_refl _); omega
      · exact hu
    · split
      · have := hr (by assumption) h0
        rw [if_pos (by omega)]; omega
      · split
        · have : v * 1 ≤ v * (4 * min (gap q.1 q.2) 1000000000 - 1) := Int.mul_le_mul_of_nonneg_left (by omega) (by omega)
          omega
        · exact h
    · split <;> omega
theorem pathL_mono : ∀ (l m : List (Int × Int)) (u v : Int), l.length = m.length → (∀ i, i < l.length → gap (l.getD i (0, 0)).1 (l.getD i (0, 0)).2 ≤ gap (m.getD i (0, 0)).1 (m.getD i (0, 0)).2) → u ≤ v → pathL l u ≤ pathL m v
  | [], [], u, v, _, _, h => h
  | p :: l, q :: m, u, v, hl, hg, h => by
    simp only [pathL]
    have h0 := hg 0 (by simp)
    simp only [List.getD_cons_zero] at h0
    have := bitLen_mono h0
    exact pathL_mono l m _ _ (by simpa using hl) (fun i hi => by simpa using hg (i + 1) (by simpa using hi)) (by omega)
theorem boxIs_gap {a b : List (Int × Int)} (h : boxIs a b) : ∀ i, i < a.length → gap (a.getD i (0, 0)).1 (a.getD i (0, 0)).2 ≤ gap (b.getD i (0, 0)).1 (b.getD i (0, 0)).2 :=
  fun i hi => gap_mono (h.2 i hi).1 (h.2 i hi).2
theorem boxIs_units {w : Int} {a b : List (Int × Int)} (ha : boxOk w a) (hb : boxOk w b) (h : boxIs a b) : units w a ≤ units w b := by
  simp only [units, ha, hb, if_true]
  exact unitsL_mono a b 1 1 h.1 (boxIs_gap h) (by omega) (by omega) (by omega)
theorem boxIs_path {w : Int} {a b : List (Int × Int)} (ha : boxOk w a) (hb : boxOk w b) (h : boxIs a b) : path w a ≤ path w b := by
  simp only [path, ha, hb, if_true]
  exact pathL_mono a b 1 1 h.1 (boxIs_gap h) (by omega)
theorem boxIs_fine {w n : Int} {a b : List (Int × Int)} (ha : boxOk w a) (h : boxIs a b) (hf : boxFine w b n) : boxFine w a n := by
  refine ⟨ha, fun p hp => ?_⟩
  obtain ⟨i, hi, rfl⟩ := mem_getD (0, 0) hp
  have h1 := boxIs_gap h i hi
  have h2 := hf.2 _ (getD_mem (d := (0, 0)) (show i < b.length by have := h.1; omega))
  omega

theorem law_boxWithin (b : List Int) (hb : ∀ x ∈ b, 0 ≤ x ∧ x ≤ 255) : AFunP Try.prog 3 [.fi .u8 b] (· = .pr True) := by
  refine afun_of Try.func3 Try.call3 rfl Try.ntmps3 rfl ?_
  have W : Walk Try.prog TT 3 _ := Walk.of TT_ok Try.func3 Try.results3
  refine sp W 0 rfl rfl rfl (fun h1 => ?_) (fun h1 => ?_)
  · refine rp W 0 rfl rfl rfl (.yes trivial)
  refine cq W 0 rfl rfl (drawBoxMeet_ok b hb) ?_
  rintro _ ⟨w, l, m, rfl, hw, hl, hm⟩
  refine ⟨_, rfl, ?_⟩
  have hz : (bmeet w l m).length ≤ 200 := by
    by_cases h : bmeetOk w l m
    · rw [bmeet_len h]; exact hl
    · simp [bmeet, h]
  refine ce W 0 rfl rfl (implBoxMeet_ok w l m (by omega) (by omega)) rfl ?_
  refine ce W 0 rfl rfl (specBoxMeet_ok w l m (by omega) (by omega)) rfl ?_
  refine sp W 0 rfl rfl rfl (fun h2 => ?_) (fun h2 => ?_)
  · exact absurd Iff.rfl h2
  have hmk : bmeetOk w l m → boxOk w (bmeet w l m) ∧ boxIs (bmeet w l m) l ∧ boxIs (bmeet w l m) m := bmeet_ok
  (repeat' (first | (refine sp W 0 rfl rfl rfl (fun _ => ?_) (fun _ => ?_)) | (refine ce W 0 rfl rfl (implBoxOk_ok _ _ (by omega)) rfl ?_) | (refine ce W 0 rfl rfl (implBoxIs_ok _ _ (by omega)) rfl ?_) | (refine ce W 0 rfl rfl (specBoxOk_ok _ _ (by omega)) rfl ?_))) <;> (first | (exact rp W 0 rfl rfl rfl (.yes trivial)) | (exfalso; simp_all; done) | skip)
  all_goals (
    have k1 : boxOk w l := Classical.not_not.1 (by assumption)
    have k2 : boxOk w m := Classical.not_not.1 (by assumption)
    have k3 : boxIs l m := Classical.not_not.1 (by assumption)
    obtain ⟨k4, k5⟩ := boxIs_meet k1 k2 k3
    have k6 := boxIs_units k1 k2 k3
    have k7 := boxIs_path k1 k2 k3
    refine go_drawE W 0 300 23 [(72, false), (77, false), (86, false)] [.pr (boxIs l (bmeet w l m)), .int .i64 (units w l), .int .i64 (units w m), .int .i64 (path w l)] rfl (by first | exact True.intro | (simp only [AllC, AllP, addN, Int.toNat_natCast, true_and, and_true, Option.getD, List.length_set, wrapU, pw1, pw7, pw8, pw16, pw23, pw32, pw52, Holds] <;> first | omega | ((repeat' apply And.intro) <;> first | omega | (intros; rfl))) | (simp [AllC, AllP, addN, cloL, clo, mrgL, mrg, wrapU, Holds] <;> omega)) rfl rfl ?_ ⟨(implBoxIs_ok _ _ (by omega)).at rfl _, (implBoxUnits_ok _ _ (by omega)).at rfl _, (implBoxUnits_ok _ _ (by omega)).at rfl _, (implBoxPath_ok _ _ (by omega)).at rfl _, trivial⟩ rfl ?_
    · simp [AllP, k4, k5, k6]
    refine ce W 0 rfl rfl (implBoxPath_ok _ _ (by omega)) rfl ?_
    refine sp W 0 rfl rfl rfl (fun k8 => ?_) (fun k8 => ?_)
    · omega
    (repeat' (first | (refine sp W 0 rfl rfl rfl (fun _ => ?_) (fun _ => ?_)) | (refine ce W 0 rfl rfl (implBoxFine_ok _ _ _ (by omega)) rfl ?_))) <;> (first | (exact rp W 0 rfl rfl rfl (.yes trivial)) | (exact rp W 0 rfl rfl rfl (.pr (by have := fun h => boxIs_fine (n := b.length) k1 k3 h; simp_all))) | skip))
end Pf
/- Boxes parted: the program's functions. -/
namespace Pf
open Go Go.Proofs

def mid (a b : Int) : Int := a + gap a b / 2
theorem bitMiddle_ok (a b : Int) (h : -9218868437227405312 ≤ a ∧ a ≤ b ∧ b ≤ 9218868437227405312) : AFunP Try.prog 129 [.int .i64 a, .int .i64 b] (· = .int .i64 (mid a b)) := by
  refine afun_of Try.func129 Try.call129 rfl Try.ntmps129 rfl ?_
  have W : Walk Try.prog TT 129 _ := Walk.of TT_ok Try.func129 Try.results129
  have hg := gap_rng h
  refine ce W 0 rfl rfl (bitGap_ok a b (by unfold InI; omega) (by unfold InI; omega)) rfl ?_
  refine rp W 0 rfl rfl rfl (.int rfl)
def splitOk (w : Int) (a : Int × Int) : Prop := pairOk w a.1 a.2 ∧ 2 ≤ gap a.1 a.2
open Classical in
noncomputable def split1 (w : Int) (a : Int × Int) : Int × Int := if splitOk w a then (a.1, mid a.1 a.2) else (0, 0)
open Classical in
noncomputable def split2 (w : Int) (a : Int × Int) : Int × Int := if splitOk w a then (mid a.1 a.2, a.2) else (0, 0)
theorem implPairSplit_ok (w : Int) (a : Int × Int) : AFunP Try.prog 74 [.int .i64 w, pairV a] (· = .tup [pairV (split1 w a), pairV (split2 w a), .pr (splitOk w a)]) := by
  refine afun_of Try.func74 Try.call74 rfl Try.ntmps74 rfl ?_
  have W : Walk Try.prog TT 74 _ := Walk.of TT_ok Try.func74 Try.results74
  refine ce W 0 rfl rfl (implPairOk_ok w a.1 a.2) rfl ?_
  refine sp W 0 rfl rfl rfl (fun h1 => ?_) (fun h1 => ?_)
  · have hn : ¬ splitOk w a := fun h => h1 h.1
    refine rp W 0 rfl rfl rfl (.tup ⟨.eq (by simp [split1, hn, pairV]), .eq (by simp [split2, hn, pairV]), .no hn, trivial⟩)
  have h1 := Classical.not_not.1 h1
  have hr := pairOk_rng h1
  have hg := gap_rng hr
  refine ce W 0 rfl rfl (steps_ok a.1 a.2 (by unfold InI; omega) (by unfold InI; omega)) rfl ?_
  refine sp W 0 rfl rfl rfl (fun h2 => ?_) (fun h2 => ?_)
  · have hn : ¬ splitOk w a := fun h => by have := h.2; omega
    refine rp W 0 rfl rfl rfl (.tup ⟨.eq (by simp [split1, hn, pairV]), .eq (by simp [split2, hn, pairV]), .no hn, trivial⟩)
  have hy : splitOk w a := ⟨h1, by omega⟩
  refine ce W 0 rfl rfl (bitMiddle_ok a.1 a.2 hr) rfl ?_
  refine phg W 0 9 [8] rfl rfl (fun PW => ?_)
  refine pho PW 0 8 [] [] rfl rfl trivial rfl rfl ?_
  refine phe PW 0 [] [] rfl trivial rfl ?_
  refine rp W 0 rfl rfl rfl (.tup ⟨.eq (by simp [split1, hy, pairV]), .eq (by simp [split2, hy, pairV]), .yes hy, trivial⟩)
theorem specBitMiddle_ok (a b : Int) (h : -9218868437227405312 ≤ a ∧ a ≤ b ∧ b ≤ 9218868437227405312) : AFunP Try.prog 131 [.int .i64 a, .int .i64 b] (· = .int .i64 (mid a b)) := by
  refine afun_of Try.func131 Try.call131 rfl Try.ntmps131 rfl ?_
  have W : Walk Try.prog TT 131 _ := Walk.of TT_ok Try.func131 Try.results131
  have hg := gap_rng h
  refine ce W 1 rfl rfl (specBitGap_ok a b (by unfold InI; omega) (by unfold InI; omega)) rfl ?_
  have e : IntKind.u64.wrap (IntKind.u64.wrap a + IntKind.u64.wrap ((gap a b).tdiv 2)) = (mid a b) % 18446744073709551616 := by
    have : (gap a b).tdiv 2 = gap a b / 2 := Int.tdiv_eq_ediv_of_nonneg (by omega)
    rw [this]
    simp only [wrapU, mid]
    omega
  have e2 : IntKind.i64.wrap ((mid a b) % 18446744073709551616) = mid a b := by
    have : -9223372036854775808 ≤ mid a b ∧ mid a b ≤ 9223372036854775807 := by unfold mid; omega
    simp only [IntKind.wrap, IntKind.bits, IntKind.signed]
    simp
    split <;> omega
  refine rp W 1 rfl rfl rfl (.int (by rw [e, e2]))
def cutOk (w : Int) (a g : Int × Int) : Prop := pairOk w a.1 a.2 ∧ g.1 < g.2 ∧ pairOk w a.1 g.1 ∧ pairOk w g.2 a.2
open Classical in
noncomputable def cut1 (w : Int) (a g : Int × Int) : Int × Int := if cutOk w a g then (if gap g.2 a.2 < gap a.1 g.1 then (g.2, a.2) else (a.1, g.1)) else (0, 0)
open Classical in
noncomputable def cut2 (w : Int) (a g : Int × Int) : Int × Int := if cutOk w a g then (if gap g.2 a.2 < gap a.1 g.1 then (a.1, g.1) else (g.2, a.2)) else (0, 0)
theorem implPairCut_ok (w : Int) (a g : Int × Int) : AFunP Try.prog 79 [.int .i64 w, pairV a, pairV g] (· = .tup [pairV (cut1 w a g), pairV (cut2 w a g), .pr (cutOk w a g)]) := by
  refine afun_of Try.func79 Try.call79 rfl Try.ntmps79 rfl ?_
  have W : Walk Try.prog TT 79 _ := Walk.of TT_ok Try.func79 Try.results79
  refine phg W 0 13 [10, 11, 12] rfl rfl (fun PW => ?_)
  refine phf PW 0 10 11 [] [] rfl rfl trivial rfl rfl rfl rfl ?_ ?_
  · refine pho PW 0 11 [] [] rfl rfl trivial rfl rfl ?_
    refine pho PW 0 12 [] [] rfl rfl trivial rfl rfl ?_
    refine phe PW 0 [] [] rfl trivial rfl ?_
    refine ce W 0 rfl rfl (implPairOk_ok w a.1 a.2) rfl ?_
    refine sp W 0 rfl rfl rfl (fun h1 => ?_) (fun h1 => ?_)
    · have hn : ¬ cutOk w a g := fun h => h1 h.1
      refine rp W 0 rfl rfl rfl (.tup ⟨.eq (by simp [cut1, hn, pairV]), .eq (by simp [cut2, hn, pairV]), .no hn, trivial⟩)
    refine sp W 0 rfl rfl rfl (fun h2 => ?_) (fun h2 => ?_)
    · have hn : ¬ cutOk w a g := fun h => by have := h.2.1; omega
      refine rp W 0 rfl rfl rfl (.tup ⟨.eq (by simp [cut1, hn, pairV]), .eq (by simp [cut2, hn, pairV]), .no hn, trivial⟩)
    refine ce W 0 rfl rfl (implPairOk_ok w a.1 g.1) rfl ?_
    refine sp W 0 rfl rfl rfl (fun h3 => ?_) (fun h3 => ?_)
    · have hn : ¬ cutOk w a g := fun h => h3 h.2.2.1
      refine rp W 0 rfl rfl rfl (.tup ⟨.eq (by simp [cut1, hn, pairV]), .eq (by simp [cut2, hn, pairV]), .no hn, trivial⟩)
    refine ce W 0 rfl rfl (implPairOk_ok w g.2 a.2) rfl ?_
    refine sp W 0 rfl rfl rfl (fun h4 => ?_) (fun h4 => ?_)
    · have hn : ¬ cutOk w a g := fun h => h4 h.2.2.2
      refine rp W 0 rfl rfl rfl (.tup ⟨.eq (by simp [cut1, hn, pairV]), .eq (by simp [cut2, hn, pairV]), .no hn, trivial⟩)
    have hy : cutOk w a g := ⟨Classical.not_not.1 h1, by omega, Classical.not_not.1 h3, Classical.not_not.1 h4⟩
    have r1 := pairOk_rng hy.2.2.1
    have r2 := pairOk_rng hy.2.2.2
    refine dre W 0 3 [] [.int .u64 (gap g.2 a.2)] rfl rfl rfl ⟨(steps_ok g.2 a.2 (by unfold InI; omega) (by unfold InI; omega)).at rfl _, trivial⟩ rfl ?_
    refine ce W 0 rfl rfl (steps_ok a.1 g.1 (by unfold InI; omega) (by unfold InI; omega)) rfl ?_
    refine sp W 0 rfl rfl rfl (fun h5 => ?_) (fun h5 => ?_)
    · refine phg W 0 3 [2] rfl rfl (fun PW => ?_)
      refine pho PW 0 2 [] [] rfl rfl trivial rfl rfl ?_
      refine phe PW 0 [] [] rfl trivial rfl ?_
      refine rp W 0 rfl rfl rfl (.tup ⟨.eq (by simp [cut1, hy, h5, pairV]), .eq (by simp [cut2, hy, h5, pairV]), .yes hy, trivial⟩)
    · refine phg W 0 3 [2] rfl rfl (fun PW => ?_)
      refine pho PW 0 2 [] [] rfl rfl trivial rfl rfl ?_
      refine phe PW 0 [] [] rfl trivial rfl ?_
      refine rp W 0 rfl rfl rfl (.tup ⟨.eq (by simp [cut1, hy, h5, pairV]), .eq (by simp [cut2, hy, h5, pairV]), .yes hy, trivial⟩)
  · refine pho PW 0 10 [] [] rfl rfl trivial rfl rfl ?_
    refine pho PW 0 12 [] [] rfl rfl trivial rfl rfl ?_
    refine phe PW 0 [] [] rfl trivial rfl ?_
    refine ce W 0 rfl rfl (implPairOk_ok w a.1 a.2) rfl ?_
    refine sp W 0 rfl rfl rfl (fun h1 => ?_) (fun h1 => ?_)
    · have hn : ¬ cutOk w a g := fun h => h1 h.1
      refine rp W 0 rfl rfl rfl (.tup ⟨.eq (by simp [cut1, hn, pairV]), .eq (by simp [cut2, hn, pairV]), .no hn, trivial⟩)
    refine sp W 0 rfl rfl rfl (fun h2 => ?_) (fun h2 => ?_)
    · have hn : ¬ cutOk w a g := fun h => by have := h.2.1; omega
      refine rp W 0 rfl rfl rfl (.tup ⟨.eq (by simp [cut1, hn, pairV]), .eq (by simp [cut2, hn, pairV]), .no hn, trivial⟩)
    refine ce W 0 rfl rfl (implPairOk_ok w a.1 g.1) rfl ?_
    refine sp W 0 rfl rfl rfl (fun h3 => ?_) (fun h3 => ?_)
    · have hn : ¬ cutOk w a g := fun h => h3 h.2.2.1
      refine rp W 0 rfl rfl rfl (.tup ⟨.eq (by simp [cut1, hn, pairV]), .eq (by simp [cut2, hn, pairV]), .no hn, trivial⟩)
    refine ce W 0 rfl rfl (implPairOk_ok w g.2 a.2) rfl ?_
    refine sp W 0 rfl rfl rfl (fun h4 => ?_) (fun h4 => ?_)
    · have hn : ¬ cutOk w a g := fun h => h4 h.2.2.2
      refine rp W 0 rfl rfl rfl (.tup ⟨.eq (by simp [cut1, hn, pairV]), .eq (by simp [cut2, hn, pairV]), .no hn, trivial⟩)
    have hy : cutOk w a g := ⟨Classical.not_not.1 h1, by omega, Classical.not_not.1 h3, Classical.not_not.1 h4⟩
    have r1 := pairOk_rng hy.2.2.1
    have r2 := pairOk_rng hy.2.2.2
    refine dre W 0 3 [] [.int .u64 (gap g.2 a.2)] rfl rfl rfl ⟨(steps_ok g.2 a.2 (by unfold InI; omega) (by unfold InI; omega)).at rfl _, trivial⟩ rfl ?_
    refine ce W 0 rfl rfl (steps_ok a.1 g.1 (by unfold InI; omega) (by unfold InI; omega)) rfl ?_
    refine sp W 0 rfl rfl rfl (fun h5 => ?_) (fun h5 => ?_)
    · refine phg W 0 3 [2] rfl rfl (fun PW => ?_)
      refine pho PW 0 2 [] [] rfl rfl trivial rfl rfl ?_
      refine phe PW 0 [] [] rfl trivial rfl ?_
      refine rp W 0 rfl rfl rfl (.tup ⟨.eq (by simp [cut1, hy, h5, pairV]), .eq (by simp [cut2, hy, h5, pairV]), .yes hy, trivial⟩)
    · refine phg W 0 3 [2] rfl rfl (fun PW => ?_)
      refine pho PW 0 2 [] [] rfl rfl trivial rfl rfl ?_
      refine phe PW 0 [] [] rfl trivial rfl ?_
      refine rp W 0 rfl rfl rfl (.tup ⟨.eq (by simp [cut1, hy, h5, pairV]), .eq (by simp [cut2, hy, h5, pairV]), .yes hy, trivial⟩)
def NewP (l : List (Int × Int)) (u : AV) (H : AHeap) : Prop := u = .sl 0 0 0 l.length ∧ H = [.tab 0 l.length (prow l)]
theorem NewP.flat {l : List (Int × Int)} (u : AV) (H : AHeap) (h : NewP l u H) : Pf.flat u = true ∧ flatH H := by
  obtain ⟨rfl, rfl⟩ := h
  exact ⟨rfl, fun i hi => rfl, trivial⟩
theorem clonePair_ok (l : List (Int × Int)) (hl : l.length ≤ 1000) (h0 : l ≠ []) : AFun Try.prog 176 [.fz l.length (prow l)] [] (NewP l) := by
  refine afun_of Try.func176 Try.call176 rfl Try.ntmps176 rfl ?_
  have W : Walk Try.prog TT 176 _ := Walk.of TT_ok Try.func176 Try.results176
  refine sp W 0 rfl rfl rfl (fun h1 => ?_) (fun h1 => ?_)
  · exact absurd (List.eq_nil_of_length_eq_zero h1) h0
  refine rg W 0 rfl (⟨rfl, rfl⟩)
theorem clipP_any (b g off len : Nat) (H : AHeap) : AFun Try.prog 175 [.sl b g off len] H fun v H1 => v = .sl b g off len ∧ H1 = H := by
  refine afun_of Try.func175 Try.call175 rfl Try.ntmps175 rfl ?_
  have W : Walk Try.prog TT 175 _ := Walk.of TT_ok Try.func175 Try.results175
  exact go_ret W 0 200 rfl ⟨trivial, rfl, rfl⟩ ⟨rfl, rfl⟩
theorem cloneI_ok (l : List (Int × Int)) (hl : l.length ≤ 1000) (h0 : l ≠ []) : AFun Try.prog 161 [.fz l.length (prow l)] [] (NewP l) := by
  refine afun_of Try.func161 Try.call161 rfl Try.ntmps161 rfl ?_
  have W : Walk Try.prog TT 161 _ := Walk.of TT_ok Try.func161 Try.results161
  refine cx W 0 rfl rfl (clonePair_ok l hl h0) (NewP.flat) ?_
  rintro _ _ ⟨rfl, rfl⟩
  refine ⟨_, _, rfl, rfl, ?_⟩
  refine go_call W 0 200 rfl trivial (clipP_any _ _ _ _ _) ?_
  rintro _ _ ⟨rfl, rfl⟩
  refine ⟨_, rfl, ?_⟩
  refine rg W 0 rfl (⟨rfl, rfl⟩)
theorem with_ok (l : List (Int × Int)) (at' : Int) (p : Int × Int) (hl : l.length ≤ 1000) (h0 : 0 ≤ at') (h1 : at' < l.length) : AFunP Try.prog 128 [bx l, .int .i64 at', pairV p] (· = bx (l.set at'.toNat p)) := by
  refine afun_of Try.func128 Try.call128 rfl Try.ntmps128 rfl ?_
  have W : Walk Try.prog TT 128 _ := Walk.of TT_ok Try.func128 Try.results128
  refine cx W 0 rfl rfl (cloneI_ok l hl (by rintro rfl; simp at h1; omega)) (NewP.flat) ?_
  rintro _ _ ⟨rfl, rfl⟩
  refine ⟨_, _, rfl, rfl, ?_⟩
  refine rp W 0 rfl rfl rfl (.agg ⟨.fzn (by simp) fun i hi => ?_, trivial⟩)
  show [AV.int .i64 (if i = at'.toNat then p.1 else (l.getD i (0, 0)).1), AV.int .i64 (if i = at'.toNat then p.2 else (l.getD i (0, 0)).2)] = _
  unfold prow
  have e : (l.set at'.toNat p).getD i (0, 0) = if i = at'.toNat then p else l.getD i (0, 0) := by
    simp only [List.getD_eq_getElem?_getD, List.getElem?_set]
    by_cases h : at'.toNat = i
    · subst h; simp [hi]
    · rw [if_neg h, if_neg (Ne.symm h)]
  rw [e]
  by_cases h : i = at'.toNat <;> simp [h]
/-- The box with a part in one place. -/
def PartsQ (w at' : Int) (l : List (Int × Int)) (p q : Int × Int) (c : Prop) (u : AV) : Prop :=
  ∃ x y c', u = .tup [bx x, bx y, .pr c'] ∧ (c' ↔ boxOk w l ∧ 0 ≤ at' ∧ at' < l.length ∧ c) ∧ (c' → x = l.set at'.toNat p ∧ y = l.set at'.toNat q) ∧ x.length ≤ 1000 ∧ y.length ≤ 1000
theorem parts_ok (w at' : Int) (l : List (Int × Int)) (g : FuncId) (cs : List AV) (p q : Int × Int) (c : Prop) (hl : l.length ≤ 1000) (hc : cloL cs = true) (hat : InI at')
    (h : 0 ≤ at' → at' < l.length → AFunP Try.prog g (pairV (l.getD at'.toNat (0, 0)) :: cs) (· = .tup [pairV p, pairV q, .pr c])) :
    AFunP Try.prog 72 [bx l, .int .i64 w, .int .i64 at', .fn g [] cs] (PartsQ w at' l p q c) := by
  refine afun_of Try.func72 Try.call72 rfl Try.ntmps72 rfl ?_
  have W : Walk Try.prog TT 72 _ := Walk.of TT_ok Try.func72 Try.results72
  have hno : ∀ {c' : Prop}, ¬ (boxOk w l ∧ 0 ≤ at' ∧ at' < l.length ∧ c) → PartsQ w at' l p q c (.tup [bx [], bx [], .pr False]) := fun h => ⟨[], [], False, rfl, ⟨fun h => h.elim, h⟩, fun h => h.elim, by simp, by simp⟩
  refine ce W 0 rfl rfl (implBoxOk_ok w l (by omega)) rfl ?_
  refine sp W 0 rfl rfl rfl (fun h1 => ?_) (fun h1 => ?_)
  case refine_1 =>
    refine rq W 0 rfl rfl (.tup [bx [], bx [], .pr False]) (hno (c' := c) fun h => h1 h.1) rfl (.tup ⟨bx_nil, bx_nil, .no id, trivial⟩)
  have h1 := Classical.not_not.1 h1
  refine ce W 0 rfl rfl (in_ok _ _ _) rfl ?_
  refine sp W 0 rfl rfl rfl (fun h2 => ?_) (fun h2 => ?_)
  case refine_1 =>
    refine rq W 0 rfl rfl (.tup [bx [], bx [], .pr False]) (hno (c' := c) fun h => h2 ⟨h.2.1, by omega⟩) rfl (.tup ⟨bx_nil, bx_nil, .no id, trivial⟩)
  have h2 := Classical.not_not.1 h2
  have hh := h (by omega) (by omega)
  refine ce W 0 rfl (by simp [cloL, clo, hc]) hh rfl ?_
  refine sp W 0 rfl rfl rfl (fun h3 => ?_) (fun h3 => ?_)
  case refine_1 =>
    refine rq W 0 rfl rfl (.tup [bx [], bx [], .pr False]) (hno (c' := c) fun h => h3 h.2.2.2) rfl (.tup ⟨bx_nil, bx_nil, .no id, trivial⟩)
  have h3 := Classical.not_not.1 h3
  refine dre W 0 8 [] [bx (l.set at'.toNat p), bx (l.set at'.toNat q)] rfl rfl rfl ⟨(with_ok l at' p hl (by omega) (by omega)).at rfl _, (with_ok l at' q hl (by omega) (by omega)).at rfl _, trivial⟩ rfl ?_
  refine rq W 0 rfl rfl (.tup [bx (l.set at'.toNat p), bx (l.set at'.toNat q), .pr True]) ⟨_, _, True, rfl, ⟨fun _ => ⟨h1, by omega, by omega, h3⟩, fun _ => trivial⟩, fun _ => ⟨rfl, rfl⟩, by simp; omega, by simp; omega⟩ rfl (.tup ⟨.refl, .refl, .yes trivial, trivial⟩)
theorem boxSplit1_ok (w : Int) (a : Int × Int) : AFunP Try.prog 73 [pairV a, .fptr [.int .i64 w] 0] (· = .tup [pairV (split1 w a), pairV (split2 w a), .pr (splitOk w a)]) := by
  refine afun_of Try.func73 Try.call73 rfl Try.ntmps73 rfl ?_
  have W : Walk Try.prog TT 73 _ := Walk.of TT_ok Try.func73 Try.results73
  refine ce W 0 rfl rfl (implPairSplit_ok w a) rfl ?_
  refine rp W 0 rfl rfl rfl (.refl)
theorem implBoxSplit_ok (w at' : Int) (l : List (Int × Int)) (hl : l.length ≤ 1000) (hat : InI at') : AFunP Try.prog 22 [.int .i64 w, bx l, .int .i64 at'] (PartsQ w at' l (split1 w (l.getD at'.toNat (0, 0))) (split2 w (l.getD at'.toNat (0, 0))) (splitOk w (l.getD at'.toNat (0, 0)))) := by
  refine afun_of Try.func22 Try.call22 rfl Try.ntmps22 rfl ?_
  have W : Walk Try.prog TT 22 _ := Walk.of TT_ok Try.func22 Try.results22
  refine cp W 0 [0] [6, 7, 8] rfl rfl rfl rfl rfl rfl (parts_ok w at' l 73 [.fptr [.int .i64 w] 0] _ _ _ hl rfl hat fun _ _ => boxSplit1_ok w _) ?_
  rintro _ ⟨x, y, c', rfl, e1, e2, e3, e4⟩
  refine ⟨_, rfl, ?_⟩
  refine rq W 0 rfl rfl (.tup [bx x, bx y, .pr c']) (⟨x, y, c', rfl, e1, e2, e3, e4⟩) rfl .refl
theorem boxCut1_ok (w : Int) (a g : Int × Int) : AFunP Try.prog 78 [pairV a, .fptr [.int .i64 w] 0, .fptr [.int .i64 g.1, .int .i64 g.2] 0] (· = .tup [pairV (cut1 w a g), pairV (cut2 w a g), .pr (cutOk w a g)]) := by
  refine afun_of Try.func78 Try.call78 rfl Try.ntmps78 rfl ?_
  have W : Walk Try.prog TT 78 _ := Walk.of TT_ok Try.func78 Try.results78
  refine ce W 0 rfl rfl (implPairCut_ok w a g) rfl ?_
  refine rp W 0 rfl rfl rfl (.refl)
theorem implBoxCut_ok (w at' : Int) (l : List (Int × Int)) (g : Int × Int) (hl : l.length ≤ 1000) (hat : InI at') : AFunP Try.prog 25 [.int .i64 w, bx l, .int .i64 at', pairV g] (PartsQ w at' l (cut1 w (l.getD at'.toNat (0, 0)) g) (cut2 w (l.getD at'.toNat (0, 0)) g) (cutOk w (l.getD at'.toNat (0, 0)) g)) := by
  refine afun_of Try.func25 Try.call25 rfl Try.ntmps25 rfl ?_
  have W : Walk Try.prog TT 25 _ := Walk.of TT_ok Try.func25 Try.results25
  refine cp W 0 [0, 2] [8, 9, 10] rfl rfl rfl rfl rfl rfl (parts_ok w at' l 78 [.fptr [.int .i64 w] 0, .fptr [.int .i64 g.1, .int .i64 g.2] 0] _ _ _ hl rfl hat fun _ _ => boxCut1_ok w _ g) ?_
  rintro _ ⟨x, y, c', rfl, e1, e2, e3, e4⟩
  refine ⟨_, rfl, ?_⟩
  refine rq W 0 rfl rfl (.tup [bx x, bx y, .pr c']) (⟨x, y, c', rfl, e1, e2, e3, e4⟩) rfl .refl
/-! ### The reference's -/
theorem l3Gap_ok (a b : Int) (ha : InI a) (hb : InI b) : AFunP Try.prog 130 [.agg [.int .i64 a, .int .i64 b]] (· = .int .u64 (gap a b)) := by
  refine afun_of Try.func130 Try.call130 rfl Try.ntmps130 rfl ?_
  have W : Walk Try.prog TT 130 _ := Walk.of TT_ok Try.func130 Try.results130
  refine ce W 0 rfl rfl (specBitGap_ok a b ha hb) rfl ?_
  refine rp W 0 rfl rfl rfl (.refl)
theorem specPairSplit_ok (w : Int) (a : Int × Int) : AFunP Try.prog 75 [.int .i64 w, pairV a] (· = .tup [pairV (split1 w a), pairV (split2 w a), .pr (splitOk w a)]) := by
  refine afun_of Try.func75 Try.call75 rfl Try.ntmps75 rfl ?_
  have W : Walk Try.prog TT 75 _ := Walk.of TT_ok Try.func75 Try.results75
  refine ce W 0 rfl rfl (specPairOk_ok w a.1 a.2) rfl ?_
  refine sp W 0 rfl rfl rfl (fun h1 => ?_) (fun h1 => ?_)
  · have hn : ¬ splitOk w a := fun h => h1 h.1
    refine rp W 0 rfl rfl rfl (.tup ⟨.eq (by simp [split1, hn, pairV]), .eq (by simp [split2, hn, pairV]), .no hn, trivial⟩)
  have h1 := Classical.not_not.1 h1
  have hr := pairOk_rng h1
  have hg := gap_rng hr
  refine ce W 0 rfl rfl (l3Gap_ok a.1 a.2 (by unfold InI; omega) (by unfold InI; omega)) rfl ?_
  refine sp W 0 rfl rfl rfl (fun h2 => ?_) (fun h2 => ?_)
  · have hn : ¬ splitOk w a := fun h => by have := h.2; omega
    refine rp W 0 rfl rfl rfl (.tup ⟨.eq (by simp [split1, hn, pairV]), .eq (by simp [split2, hn, pairV]), .no hn, trivial⟩)
  have hy : splitOk w a := ⟨h1, by omega⟩
  refine ce W 0 rfl rfl (specBitMiddle_ok a.1 a.2 hr) rfl ?_
  refine phg W 0 9 [8] rfl rfl (fun PW => ?_)
  refine pho PW 0 8 [] [] rfl rfl trivial rfl rfl ?_
  refine phe PW 0 [] [] rfl trivial rfl ?_
  refine rp W 0 rfl rfl rfl (.tup ⟨.eq (by simp [split1, hy, pairV]), .eq (by simp [split2, hy, pairV]), .yes hy, trivial⟩)
theorem specPairCut_ok (w : Int) (a g : Int × Int) : AFunP Try.prog 80 [.int .i64 w, pairV a, pairV g] (· = .tup [pairV (cut1 w a g), pairV (cut2 w a g), .pr (cutOk w a g)]) := by
  refine afun_of Try.func80 Try.call80 rfl Try.ntmps80 rfl ?_
  have W : Walk Try.prog TT 80 _ := Walk.of TT_ok Try.func80 Try.results80
  refine ce W 0 rfl rfl (specPairOk_ok w a.1 a.2) rfl ?_
  refine sp W 0 rfl rfl rfl (fun h1 => ?_) (fun h1 => ?_)
  · have hn : ¬ cutOk w a g := fun h => h1 h.1
    refine rp W 0 rfl rfl rfl (.tup ⟨.eq (by simp [cut1, hn, pairV]), .eq (by simp [cut2, hn, pairV]), .no hn, trivial⟩)
  refine sp W 0 rfl rfl rfl (fun h2 => ?_) (fun h2 => ?_)
  · have hn : ¬ cutOk w a g := fun h => by have := h.2.1; omega
    refine rp W 0 rfl rfl rfl (.tup ⟨.eq (by simp [cut1, hn, pairV]), .eq (by simp [cut2, hn, pairV]), .no hn, trivial⟩)
  refine ce W 0 rfl rfl (specPairOk_ok w a.1 g.1) rfl ?_
  refine sp W 0 rfl rfl rfl (fun h3 => ?_) (fun h3 => ?_)
  · have hn : ¬ cutOk w a g := fun h => h3 h.2.2.1
    refine rp W 0 rfl rfl rfl (.tup ⟨.eq (by simp [cut1, hn, pairV]), .eq (by simp [cut2, hn, pairV]), .no hn, trivial⟩)
  refine ce W 0 rfl rfl (specPairOk_ok w g.2 a.2) rfl ?_
  refine sp W 0 rfl rfl rfl (fun h4 => ?_) (fun h4 => ?_)
  · have hn : ¬ cutOk w a g := fun h => h4 h.2.2.2
    refine rp W 0 rfl rfl rfl (.tup ⟨.eq (by simp [cut1, hn, pairV]), .eq (by simp [cut2, hn, pairV]), .no hn, trivial⟩)
  have hy : cutOk w a g := ⟨Classical.not_not.1 h1, by omega, Classical.not_not.1 h3, Classical.not_not.1 h4⟩
  have r1 := pairOk_rng hy.2.2.1
  have r2 := pairOk_rng hy.2.2.2
  refine dre W 0 3 [] [.int .u64 (gap g.2 a.2)] rfl rfl rfl ⟨(l3Gap_ok g.2 a.2 (by unfold InI; omega) (by unfold InI; omega)).at rfl _, trivial⟩ rfl ?_
  refine ce W 0 rfl rfl (l3Gap_ok a.1 g.1 (by unfold InI; omega) (by unfold InI; omega)) rfl ?_
  refine sp W 0 rfl rfl rfl (fun h5 => ?_) (fun h5 => ?_)
  · refine phg W 0 3 [2] rfl rfl (fun PW => ?_)
    refine pho PW 0 2 [] [] rfl rfl trivial rfl rfl ?_
    refine phe PW 0 [] [] rfl trivial rfl ?_
    refine rp W 0 rfl rfl rfl (.tup ⟨.eq (by simp [cut1, hy, h5, pairV]), .eq (by simp [cut2, hy, h5, pairV]), .yes hy, trivial⟩)
  · refine phg W 0 3 [2] rfl rfl (fun PW => ?_)
    refine pho PW 0 2 [] [] rfl rfl trivial rfl rfl ?_
    refine phe PW 0 [] [] rfl trivial rfl ?_
    refine rp W 0 rfl rfl rfl (.tup ⟨.eq (by simp [cut1, hy, h5, pairV]), .eq (by simp [cut2, hy, h5, pairV]), .yes hy, trivial⟩)
theorem l4With_ok (l : List (Int × Int)) (at' : Int) (p : Int × Int) (hl : l.length ≤ 1000) : AFunP Try.prog 76 [bx l, .int .i64 at', pairV p] (fun u => ∃ x, u = bx x ∧ x.length ≤ 1000) := by
  refine afun_of Try.func76 Try.call76 rfl Try.ntmps76 rfl ?_
  have W : Walk Try.prog TT 76 _ := Walk.of TT_ok Try.func76 Try.results76
  refine atl W rfl ?_
  refine go_nilC 3 0 0 (.tab 0 0 fun _ => [.int .i64 0, .int .i64 0]) rfl rfl rfl rfl rfl rfl rfl rfl rfl ?_
  refine lp W 0 (σ := Nat × Nat × (Nat → Int) × (Nat → Int)) (fun s => [(1, .int .i64 at'), (3, .ptr 0 0 0 0), (5, .ptr 1 0 0 0), (6, .ptr 2 0 0 0), (7, .ptr 3 0 0 0), (8, .int .i64 s.1)])
      (fun s => [.lst 0 [[.fz l.length (prow l)]], .lst 0 [[.int .i64 p.1, .int .i64 p.2]], .lst 0 [[.nils]], .lst 0 [[.sl 4 s.2.1 0 s.1]], .tab s.2.1 s.1 fun j => [.int .i64 (s.2.2.1 j), .int .i64 (s.2.2.2 j)]]) (fun s => l.length - s.1)
      (fun s => s.1 ≤ l.length) (0, 0, fun _ => 0, fun _ => 0) [1, 3, 5, 6, 7, 8] rfl rfl rfl (Nat.zero_le _) ?_
  rintro ⟨i, g, F, G⟩ hi ih
  dsimp only at hi ih ⊢
  refine sp W 0 rfl rfl rfl (fun h3 => ?_) (fun h3 => ?_)
  · have hi3 : i < l.length := by omega
    refine sp W 0 rfl rfl rfl (fun h4 => ?_) (fun h4 => ?_)
    · refine bd W 0 5 [1, 3, 5, 6, 7, 8] rfl rfl rfl rfl rfl (ih (i + 1, g + 1, fun j => if j < i then F j else p.1, fun j => if j < i then G j else p.2) (by dsimp only; omega) (by dsimp only; omega))
    · refine phg W 0 8 [7] rfl rfl (fun PW => ?_)
      refine pho PW 0 7 [] [] rfl rfl trivial rfl rfl ?_
      refine phe PW 0 [] [] rfl trivial rfl ?_
      refine bd W 0 5 [1, 3, 5, 6, 7, 8] rfl rfl rfl rfl rfl (ih (i + 1, g + 1, fun j => if j < i then F j else (l.getD i (0, 0)).1, fun j => if j < i then G j else (l.getD i (0, 0)).2) (by dsimp only; omega) (by dsimp only; omega))
  · refine rq W 0 rfl rfl (bx (mkL i F G)) ⟨_, rfl, by rw [mkL_len]; omega⟩ rfl (mkL_bx i F G)
theorem specBoxSplit_ok (w at' : Int) (l : List (Int × Int)) (hl : l.length ≤ 1000) (hat : InI at') : AFunP Try.prog 23 [.int .i64 w, bx l, .int .i64 at'] (fun u => ∃ x y c', u = .tup [bx x, bx y, .pr c'] ∧ (c' ↔ boxOk w l ∧ 0 ≤ at' ∧ at' < l.length ∧ splitOk w (l.getD at'.toNat (0, 0)))) := by
  refine afun_of Try.func23 Try.call23 rfl Try.ntmps23 rfl ?_
  have W : Walk Try.prog TT 23 _ := Walk.of TT_ok Try.func23 Try.results23
  refine ce W 0 rfl rfl (specBoxOk_ok w l (by omega)) rfl ?_
  refine sp W 0 rfl rfl rfl (fun h1 => ?_) (fun h1 => ?_)
  case refine_1 =>
    refine rq W 0 rfl rfl (.tup [bx [], bx [], .pr False]) ⟨[], [], False, rfl, ⟨fun h => h.elim, fun h => h1 h.1⟩⟩ rfl (.tup ⟨bx_nil, bx_nil, .no id, trivial⟩)
  refine sp W 0 rfl rfl rfl (fun h2 => ?_) (fun h2 => ?_)
  case refine_1 =>
    refine rq W 0 rfl rfl (.tup [bx [], bx [], .pr False]) ⟨[], [], False, rfl, ⟨fun h => h.elim, fun h => by omega⟩⟩ rfl (.tup ⟨bx_nil, bx_nil, .no id, trivial⟩)
  refine sp W 0 rfl rfl rfl (fun h2b => ?_) (fun h2b => ?_)
  case refine_1 =>
    refine rq W 0 rfl rfl (.tup [bx [], bx [], .pr False]) ⟨[], [], False, rfl, ⟨fun h => h.elim, fun h => by omega⟩⟩ rfl (.tup ⟨bx_nil, bx_nil, .no id, trivial⟩)
  refine ce W 0 rfl rfl (specPairSplit_ok w (l.getD at'.toNat (0, 0))) rfl ?_
  refine sp W 0 rfl rfl rfl (fun h3 => ?_) (fun h3 => ?_)
  case refine_1 =>
    refine rq W 0 rfl rfl (.tup [bx [], bx [], .pr False]) ⟨[], [], False, rfl, ⟨fun h => h.elim, fun h => h3 h.2.2.2⟩⟩ rfl (.tup ⟨bx_nil, bx_nil, .no id, trivial⟩)
  have h3 := Classical.not_not.1 h3
  refine phg W 0 8 [3, 7] rfl rfl (fun PW => ?_)
  refine phq PW 0 3 [] [] rfl rfl trivial rfl (l4With_ok l at' _ hl) rfl ?_
  rintro _ ⟨x, rfl, hx⟩
  refine ⟨_, rfl, ?_⟩
  refine phq PW 0 7 [] [] rfl rfl trivial rfl (l4With_ok l at' _ hl) rfl ?_
  rintro _ ⟨y, rfl, hy⟩
  refine ⟨_, rfl, ?_⟩
  refine phe PW 0 [] [] rfl trivial rfl ?_
  refine rq W 0 rfl rfl (.tup [bx x, bx y, .pr True]) ⟨x, y, True, rfl, ⟨fun _ => ⟨Classical.not_not.1 h1, by omega, by omega, h3⟩, fun _ => trivial⟩⟩ rfl (.tup ⟨.refl, .refl, .yes trivial, trivial⟩)
theorem specBoxCut_ok (w at' : Int) (l : List (Int × Int)) (g : Int × Int) (hl : l.length ≤ 1000) (hat : InI at') : AFunP Try.prog 26 [.int .i64 w, bx l, .int .i64 at', pairV g] (fun u => ∃ x y c', u = .tup [bx x, bx y, .pr c'] ∧ (c' ↔ boxOk w l ∧ 0 ≤ at' ∧ at' < l.length ∧ cutOk w (l.getD at'.toNat (0, 0)) g)) := by
  refine afun_of Try.func26 Try.call26 rfl Try.ntmps26 rfl ?_
  have W : Walk Try.prog TT 26 _ := Walk.of TT_ok Try.func26 Try.results26
  refine ce W 0 rfl rfl (specBoxOk_ok w l (by omega)) rfl ?_
  refine sp W 0 rfl rfl rfl (fun h1 => ?_) (fun h1 => ?_)
  case refine_1 =>
    refine rq W 0 rfl rfl (.tup [bx [], bx [], .pr False]) ⟨[], [], False, rfl, ⟨fun h => h.elim, fun h => h1 h.1⟩⟩ rfl (.tup ⟨bx_nil, bx_nil, .no id, trivial⟩)
  refine sp W 0 rfl rfl rfl (fun h2 => ?_) (fun h2 => ?_)
  case refine_1 =>
    refine rq W 0 rfl rfl (.tup [bx [], bx [], .pr False]) ⟨[], [], False, rfl, ⟨fun h => h.elim, fun h => by omega⟩⟩ rfl (.tup ⟨bx_nil, bx_nil, .no id, trivial⟩)
  refine sp W 0 rfl rfl rfl (fun h2b => ?_) (fun h2b => ?_)
  case refine_1 =>
    refine rq W 0 rfl rfl (.tup [bx [], bx [], .pr False]) ⟨[], [], False, rfl, ⟨fun h => h.elim, fun h => by omega⟩⟩ rfl (.tup ⟨bx_nil, bx_nil, .no id, trivial⟩)
  have hm := specPairCut_ok w (l.getD at'.toNat (0, 0)) g
  refine phg W 0 16 [12, 13, 14, 15] rfl rfl (fun PW => ?_)
  refine phf PW 0 12 13 [] [.tup [pairV (cut1 w (l.getD at'.toNat (0, 0)) g), pairV (cut2 w (l.getD at'.toNat (0, 0)) g), .pr (cutOk w (l.getD at'.toNat (0, 0)) g)]] rfl rfl ⟨hm.at rfl _, trivial⟩ rfl rfl rfl rfl ?_ ?_
  · refine pho PW 0 13 [] [.tup [pairV (cut1 w (l.getD at'.toNat (0, 0)) g), pairV (cut2 w (l.getD at'.toNat (0, 0)) g), .pr (cutOk w (l.getD at'.toNat (0, 0)) g)]] rfl rfl ⟨hm.at rfl _, trivial⟩ rfl rfl ?_
    refine pho PW 0 14 [] [.tup [pairV (cut1 w (l.getD at'.toNat (0, 0)) g), pairV (cut2 w (l.getD at'.toNat (0, 0)) g), .pr (cutOk w (l.getD at'.toNat (0, 0)) g)]] rfl rfl ⟨hm.at rfl _, trivial⟩ rfl rfl ?_
    refine pho PW 0 15 [] [] rfl rfl trivial rfl rfl ?_
    refine phe PW 0 [] [] rfl trivial rfl ?_
    refine sp W 0 rfl rfl rfl (fun h3 => ?_) (fun h3 => ?_)
    case refine_1 =>
      refine rq W 0 rfl rfl (.tup [bx [], bx [], .pr False]) ⟨[], [], False, rfl, ⟨fun h => h.elim, fun h => h3 h.2.2.2⟩⟩ rfl (.tup ⟨bx_nil, bx_nil, .no id, trivial⟩)
    have h3 := Classical.not_not.1 h3
    refine phg W 0 8 [3, 7] rfl rfl (fun PW => ?_)
    refine phq PW 0 3 [] [] rfl rfl trivial rfl (l4With_ok l at' _ hl) rfl ?_
    rintro _ ⟨x, rfl, hx⟩
    refine ⟨_, rfl, ?_⟩
    refine phq PW 0 7 [] [] rfl rfl trivial rfl (l4With_ok l at' _ hl) rfl ?_
    rintro _ ⟨y, rfl, hy⟩
    refine ⟨_, rfl, ?_⟩
    refine phe PW 0 [] [] rfl trivial rfl ?_
    refine rq W 0 rfl rfl (.tup [bx x, bx y, .pr True]) ⟨x, y, True, rfl, ⟨fun _ => ⟨Classical.not_not.1 h1, by omega, by omega, h3⟩, fun _ => trivial⟩⟩ rfl (.tup ⟨.refl, .refl, .yes trivial, trivial⟩)
  · refine pho PW 0 12 [] [.tup [pairV (cut1 w (l.getD at'.toNat (0, 0)) g), pairV (cut2 w (l.getD at'.toNat (0, 0)) g), .pr (cutOk w (l.getD at'.toNat (0, 0)) g)]] rfl rfl ⟨hm.at rfl _, trivial⟩ rfl rfl ?_
    refine pho PW 0 14 [] [.tup [pairV (cut1 w (l.getD at'.toNat (0, 0)) g), pairV (cut2 w (l.getD at'.toNat (0, 0)) g), .pr (cutOk w (l.getD at'.toNat (0, 0)) g)]] rfl rfl ⟨hm.at rfl _, trivial⟩ rfl rfl ?_
    refine pho PW 0 15 [] [] rfl rfl trivial rfl rfl ?_
    refine phe PW 0 [] [] rfl trivial rfl ?_
    refine sp W 0 rfl rfl rfl (fun h3 => ?_) (fun h3 => ?_)
    case refine_1 =>
      refine rq W 0 rfl rfl (.tup [bx [], bx [], .pr False]) ⟨[], [], False, rfl, ⟨fun h => h.elim, fun h => h3 h.2.2.2⟩⟩ rfl (.tup ⟨bx_nil, bx_nil, .no id, trivial⟩)
    have h3 := Classical.not_not.1 h3
    refine phg W 0 8 [3, 7] rfl rfl (fun PW => ?_)
    refine phq PW 0 3 [] [] rfl rfl trivial rfl (l4With_ok l at' _ hl) rfl ?_
    rintro _ ⟨x, rfl, hx⟩
    refine ⟨_, rfl, ?_⟩
    refine phq PW 0 7 [] [] rfl rfl trivial rfl (l4With_ok l at' _ hl) rfl ?_
    rintro _ ⟨y, rfl, hy⟩
    refine ⟨_, rfl, ?_⟩
    refine phe PW 0 [] [] rfl trivial rfl ?_
    refine rq W 0 rfl rfl (.tup [bx x, bx y, .pr True]) ⟨x, y, True, rfl, ⟨fun _ => ⟨Classical.not_not.1 h1, by omega, by omega, h3⟩, fun _ => trivial⟩⟩ rfl (.tup ⟨.refl, .refl, .yes trivial, trivial⟩)
end Pf
/- The law of the units of boxes. -/
namespace Pf
open Go Go.Proofs

def fU (g : Int) : Int := if 0 < g then 4 * min g 1000000000 - 1 else 1
theorem fU_pos (g : Int) : 1 ≤ fU g := by unfold fU; split <;> omega
def prodU : List (Int × Int) → Int
  | [] => 1
  | p :: l => fU (gap p.1 p.2) * prodU l
theorem prodU_pos : ∀ l, 1 ≤ prodU l
  | [] => by simp [prodU]
  | p :: l => by
    simp only [prodU]
    have := Int.mul_le_mul (fU_pos (gap p.1 p.2)) (prodU_pos l) (by omega) (by have := fU_pos (gap p.1 p.2); omega)
    omega
theorem min_mul {a P : Int} (ha : 1 ≤ a) (hP : 1 ≤ P) : min 1000000000 (min 1000000000 a * P) = min 1000000000 (a * P) := by
  by_cases h : a ≤ 1000000000
  · rw [show min 1000000000 a = a by omega]
  · rw [show min 1000000000 a = 1000000000 by omega]
    have h1 : (1000000000 : Int) * 1 ≤ 1000000000 * P := Int.mul_le_mul_of_nonneg_left hP (by omega)
    have h2 : (1000000000 : Int) * 1 ≤ a * P := Int.mul_le_mul (by omega) hP (by omega) (by omega)
    omega
theorem unitsL_eq : ∀ (l : List (Int × Int)) (u : Int), 1 ≤ u → u ≤ 1000000000 → unitsL l u = min 1000000000 (u * prodU l)
  | [], u, h1, h2 => by simp [unitsL, prodU]; omega
  | p :: l, u, h1, h2 => by
    have e : (if 0 < gap p.1 p.2 then min 1000000000 (u * (4 * min (gap p.1 p.2) 1000000000 - 1)) else u) = min 1000000000 (u * fU (gap p.1 p.2)) := by
      unfold fU; split
      · rfl
      · rw [Int.mul_one]; omega
    have hf := fU_pos (gap p.1 p.2)
    have hu : 1 * 1 ≤ u * fU (gap p.1 p.2) := Int.mul_le_mul h1 hf (by omega) (by omega)
    simp only [unitsL, prodU, e]
    rw [unitsL_eq l _ (by omega) (by omega), min_mul (by omega) (prodU_pos l), Int.mul_assoc]
theorem prodU_set : ∀ (l : List (Int × Int)) (i : Nat), i < l.length → ∃ r, 1 ≤ r ∧ prodU l = r * fU (gap (l.getD i (0, 0)).1 (l.getD i (0, 0)).2) ∧ ∀ p, prodU (l.set i p) = r * fU (gap p.1 p.2)
  | [], i, h => by simp at h
  | q :: l, 0, h => ⟨prodU l, prodU_pos l, by simp [prodU, Int.mul_comm], fun p => by simp [prodU, Int.mul_comm]⟩
  | q :: l, i + 1, h => by
    obtain ⟨r, h1, h2, h3⟩ := prodU_set l i (by simpa using h)
    have hf := fU_pos (gap q.1 q.2)
    refine ⟨fU (gap q.1 q.2) * r, ?_, ?_, fun p => ?_⟩
    · have := Int.mul_le_mul hf h1 (by omega) (by omega); omega
    · simp only [prodU, List.getD_cons_succ, h2, Int.mul_assoc]
    · simp only [List.set_cons_succ, prodU, h3, Int.mul_assoc]
theorem pathL_set : ∀ (l : List (Int × Int)) (i : Nat) (u : Int), i < l.length → ∃ r, u ≤ r ∧ pathL l u = r + bitLen (gap (l.getD i (0, 0)).1 (l.getD i (0, 0)).2) ∧ ∀ p, pathL (l.set i p) u = r + bitLen (gap p.1 p.2)
  | [], i, u, h => by simp at h
  | q :: l, 0, u, h => by
    have key : ∀ (l : List (Int × Int)) (a b : Int), pathL l (a + b) = pathL l a + b := by
      intro l
      induction l with
      | nil => intro a b; rfl
      | cons p l ih => intro a b; simp only [pathL]; rw [show a + b + bitLen (gap p.1 p.2) = (a + bitLen (gap p.1 p.2)) + b by omega, ih]
    have ge : ∀ (l : List (Int × Int)) (a : Int), a ≤ pathL l a := by
      intro l
      induction l with
      | nil => intro a; exact Int.le_refl _
      | cons p l ih => intro a; have := ih (a + bitLen (gap p.1 p.2)); have : 0 ≤ bitLen (gap p.1 p.2) := by unfold bitLen; omega
                       simp only [pathL]; omega
    exact ⟨pathL l u, ge l u, by simp [pathL, key], fun p => by simp [pathL, key]⟩
  | q :: l, i + 1, u, h => by
    obtain ⟨r, h1, h2, h3⟩ := pathL_set l i (u + bitLen (gap q.1 q.2)) (by simpa using h)
    have : 0 ≤ bitLen (gap q.1 q.2) := by unfold bitLen; omega
    exact ⟨r, by omega, by simp only [pathL, List.getD_cons_succ, h2], fun p => by simp only [List.set_cons_succ, pathL, h3]⟩
theorem pathL_le : ∀ (l : List (Int × Int)) (u : Int), (∀ p ∈ l, gap p.1 p.2 ≤ 18446744073709551615) → u ≤ pathL l u ∧ pathL l u ≤ u + 64 * l.length
  | [], u, _ => by simp [pathL]
  | p :: l, u, h => by
    have h1 := bitLen_rng (h p (by simp))
    have h2 := pathL_le l (u + bitLen (gap p.1 p.2)) fun q hq => h q (by simp [hq])
    simp only [pathL, List.length_cons]; omega
theorem units_le (w : Int) (l : List (Int × Int)) : units w l ≤ prodU l := by
  unfold units
  have := prodU_pos l
  split
  · rw [unitsL_eq l 1 (by omega) (by omega)]; omega
  · omega
theorem units_of {w : Int} {l : List (Int × Int)} (h : boxOk w l) : units w l = min 1000000000 (prodU l) := by
  simp only [units, h, if_true]
  rw [unitsL_eq l 1 (by omega) (by omega), Int.one_mul]
theorem path_le (w : Int) (l : List (Int × Int)) : path w l ≤ pathL l 1 ∨ path w l = 0 := by unfold path; split <;> simp
/-- Both parts are less. -/
theorem less {w : Int} {l : List (Int × Int)} {i : Nat} (hok : boxOk w l) (hi : i < l.length) {p q : Int × Int} {G A B : Int} (hG : gap (l.getD i (0, 0)).1 (l.getD i (0, 0)).2 = G) (hA : gap p.1 p.2 = A) (hB : gap q.1 q.2 = B)
    (h0 : 0 ≤ A) (h1 : 0 ≤ B) (h2 : A + B ≤ G) (h3 : 2 * A ≤ G) (h4 : 1 ≤ G) (h5 : (1 ≤ A ∧ 1 ≤ B) ∨ A + B + 1 ≤ G) :
    (units w l < 1000000000 → units w (l.set i p) + units w (l.set i q) + 1 ≤ units w l) ∧ path w (l.set i p) + 1 ≤ path w l ∧ path w (l.set i q) ≤ path w l := by
  refine ⟨fun hu => ?_, ?_⟩
  · obtain ⟨r, r1, r2, r3⟩ := prodU_set l i hi
    rw [units_of hok] at hu ⊢
    have e : min 1000000000 (prodU l) = prodU l := by omega
    rw [e]
    rw [hG] at r2
    have k1 := units_le w (l.set i p)
    have k2 := units_le w (l.set i q)
    rw [r3 p, hA] at k1
    rw [r3 q, hB] at k2
    have hr : r * 1 ≤ r * fU G := Int.mul_le_mul_of_nonneg_left (fU_pos G) (by omega)
    have hf : fU G ≤ r * fU G := by
      have := Int.mul_le_mul_of_nonneg_right r1 (show 0 ≤ fU G by have := fU_pos G; omega)
      omega
    have hG2 : fU G < 1000000000 := by omega
    have hfG : fU A + fU B + 1 ≤ fU G := by
      have eG : fU G = 4 * min G 1000000000 - 1 := if_pos (by omega)
      have eA : fU A = if 0 < A then 4 * min A 1000000000 - 1 else 1 := rfl
      have eB : fU B = if 0 < B then 4 * min B 1000000000 - 1 else 1 := rfl
      by_cases hA0 : 0 < A
      · rw [if_pos hA0] at eA
        by_cases hB0 : 0 < B
        · rw [if_pos hB0] at eB; omega
        · rw [if_neg hB0] at eB; omega
      · rw [if_neg hA0] at eA
        by_cases hB0 : 0 < B
        · rw [if_pos hB0] at eB; omega
        · rw [if_neg hB0] at eB; omega
    have h6 : r * (fU A + fU B + 1) ≤ r * fU G := Int.mul_le_mul_of_nonneg_left hfG (by omega)
    rw [Int.mul_add, Int.mul_add] at h6
    omega
  · obtain ⟨r, r1, r2, r3⟩ := pathL_set l i 1 hi
    have e : path w l = pathL l 1 := by simp [path, hok]
    rw [e, r2, hG]
    have b1 : bitLen A + 1 ≤ bitLen G := by
      have e2 : bitLen G = bitLen (G / 2) + 1 := by
        by_cases hG1 : G = 1
        · subst hG1; simp [bitLen, bitL_zero, bitL_pos]
        · have := bitLen_shift 1 G (by omega); simpa using this
      have := bitLen_mono (show A ≤ G / 2 by omega)
      omega
    have b2 := bitLen_mono (show B ≤ G by omega)
    have b3 : 0 ≤ bitLen G := by unfold bitLen; omega
    have b4 : 0 ≤ bitLen A := by unfold bitLen; omega
    have k1 := path_le w (l.set i p)
    have k2 := path_le w (l.set i q)
    rw [r3 p, hA] at k1
    rw [r3 q, hB] at k2
    omega
theorem gap_le {x y : Int} (h : x ≤ y) : gap x y = y - x := by unfold gap; rw [if_neg (by omega)]
theorem split_less {w : Int} {l : List (Int × Int)} {i : Nat} (hok : boxOk w l) (hi : i < l.length) (hs : splitOk w (l.getD i (0, 0))) :
    (units w l < 1000000000 → units w (l.set i (split1 w (l.getD i (0, 0)))) + units w (l.set i (split2 w (l.getD i (0, 0)))) + 1 ≤ units w l) ∧ path w (l.set i (split1 w (l.getD i (0, 0)))) + 1 ≤ path w l ∧ path w (l.set i (split2 w (l.getD i (0, 0)))) ≤ path w l := by
  have hp := pairOk_rng hs.1
  have hg := gap_rng hp
  have h2 := hs.2
  have e1 : split1 w (l.getD i (0, 0)) = ((l.getD i (0, 0)).1, mid (l.getD i (0, 0)).1 (l.getD i (0, 0)).2) := by simp only [split1, if_pos hs]
  have e2 : split2 w (l.getD i (0, 0)) = (mid (l.getD i (0, 0)).1 (l.getD i (0, 0)).2, (l.getD i (0, 0)).2) := by simp only [split2, if_pos hs]
  have m0 : mid (l.getD i (0, 0)).1 (l.getD i (0, 0)).2 = (l.getD i (0, 0)).1 + gap (l.getD i (0, 0)).1 (l.getD i (0, 0)).2 / 2 := rfl
  have g1 : gap (l.getD i (0, 0)).1 (mid (l.getD i (0, 0)).1 (l.getD i (0, 0)).2) = gap (l.getD i (0, 0)).1 (l.getD i (0, 0)).2 / 2 := by rw [gap_le (by rw [m0]; omega), m0]; omega
  have g2 : gap (mid (l.getD i (0, 0)).1 (l.getD i (0, 0)).2) (l.getD i (0, 0)).2 = gap (l.getD i (0, 0)).1 (l.getD i (0, 0)).2 - gap (l.getD i (0, 0)).1 (l.getD i (0, 0)).2 / 2 := by rw [gap_le (by rw [m0]; omega), m0]; omega
  rw [e1, e2]
  exact less hok hi rfl g1 g2 (by omega) (by omega) (by omega) (by omega) (by omega) (.inl (by omega))
theorem cut_less {w : Int} {l : List (Int × Int)} {i : Nat} {g : Int × Int} (hok : boxOk w l) (hi : i < l.length) (hs : cutOk w (l.getD i (0, 0)) g) :
    (units w l < 1000000000 → units w (l.set i (cut1 w (l.getD i (0, 0)) g)) + units w (l.set i (cut2 w (l.getD i (0, 0)) g)) + 1 ≤ units w l) ∧ path w (l.set i (cut1 w (l.getD i (0, 0)) g)) + 1 ≤ path w l ∧ path w (l.set i (cut2 w (l.getD i (0, 0)) g)) ≤ path w l := by
  have p1 := pairOk_rng hs.1
  have p2 := pairOk_rng hs.2.2.1
  have p3 := pairOk_rng hs.2.2.2
  have h2 := hs.2.1
  have eg := gap_le p1.2.1
  have el := gap_le p2.2.1
  have eh := gap_le p3.2.1
  by_cases hc : gap g.2 (l.getD i (0, 0)).2 < gap (l.getD i (0, 0)).1 g.1
  · have e1 : cut1 w (l.getD i (0, 0)) g = (g.2, (l.getD i (0, 0)).2) := by simp only [cut1, if_pos hs, if_pos hc]
    have e2 : cut2 w (l.getD i (0, 0)) g = ((l.getD i (0, 0)).1, g.1) := by simp only [cut2, if_pos hs, if_pos hc]
    rw [e1, e2]
    exact less hok hi rfl rfl rfl (by rw [eh]; omega) (by rw [el]; omega) (by rw [eg, eh, el]; omega) (by rw [eg, eh]; omega) (by rw [eg]; omega) (.inr (by rw [eg, eh, el]; omega))
  · have e1 : cut1 w (l.getD i (0, 0)) g = ((l.getD i (0, 0)).1, g.1) := by simp only [cut1, if_pos hs, if_neg hc]
    have e2 : cut2 w (l.getD i (0, 0)) g = (g.2, (l.getD i (0, 0)).2) := by simp only [cut2, if_pos hs, if_neg hc]
    rw [e1, e2]
    exact less hok hi rfl rfl rfl (by rw [el]; omega) (by rw [eh]; omega) (by rw [eg, eh, el]; omega) (by rw [eg, el]; omega) (by rw [eg]; omega) (.inr (by rw [eg, eh, el]; omega))

theorem units_rng (w : Int) (l : List (Int × Int)) : 0 ≤ units w l ∧ units w l ≤ 1000000000 := by
  unfold units
  have := unitsL_rng l 1 (by omega) (by omega)
  split <;> omega
theorem path_nonneg (w : Int) (l : List (Int × Int)) : 0 ≤ path w l := by
  have ge : ∀ (l : List (Int × Int)) (a : Int), a ≤ pathL l a := by
    intro l
    induction l with
    | nil => intro a; exact Int.le_refl _
    | cons p l ih =>
      intro a
      have := ih (a + bitLen (gap p.1 p.2))
      have : 0 ≤ bitLen (gap p.1 p.2) := by unfold bitLen; omega
      simp only [pathL]; omega
  unfold path
  have := ge l 1
  split <;> omega
theorem path_most (w : Int) (l : List (Int × Int)) : path w l ≤ 1 + 64 * l.length := by
  unfold path
  split
  · rename_i h
    exact (pathL_le l 1 fun p hp => by have := gap_rng (pairOk_rng (h.2.2 p hp)); omega).2
  · omega
theorem law_boxUnits (b c : List Int) (hb : ∀ x ∈ b, 0 ≤ x ∧ x ≤ 255) (hc : ∀ x ∈ c, 0 ≤ x ∧ x ≤ 255) : AFunP Try.prog 4 [.fi .u8 b, .fi .u8 c] (· = .pr True) := by
  refine afun_of Try.func4 Try.call4 rfl Try.ntmps4 rfl ?_
  have W : Walk Try.prog TT 4 _ := Walk.of TT_ok Try.func4 Try.results4
  refine sp W 0 rfl rfl rfl (fun h1 => ?_) (fun h1 => ?_)
  · refine rp W 0 rfl rfl rfl (.yes trivial)
  refine sp W 0 rfl rfl rfl (fun h1b => ?_) (fun h1b => ?_)
  · refine rp W 0 rfl rfl rfl (.yes trivial)
  refine cq W 0 rfl rfl (drawBoxSplit_ok b hb) ?_
  rintro _ ⟨w, l, at', rfl, hw, hl, hat⟩
  refine ⟨_, rfl, ?_⟩
  refine ce W 0 rfl rfl (specBoxOk_ok w l (by omega)) rfl ?_
  refine sp W 0 rfl rfl rfl (fun h2 => ?_) (fun h2 => ?_)
  · refine ce W 0 rfl rfl (implBoxUnits_ok w l (by omega)) rfl ?_
    have e0 : units w l = 0 := by simp [units, h2]
    refine sp W 0 rfl rfl rfl (fun h3 => ?_) (fun h3 => ?_)
    · refine ce W 0 rfl rfl (implBoxPath_ok w l (by omega)) rfl ?_
      refine rp W 0 rfl rfl rfl (.pr (by simp [path, h2]))
    · exact absurd e0 h3
  have h2 := Classical.not_not.1 h2
  have hu := unitsL_rng l 1 (by omega) (by omega)
  have hu : 1 ≤ units w l ∧ units w l ≤ 1000000000 := by simpa [units, h2] using hu
  have hp := pathL_le l 1 fun p hp => by
    have := gap_rng (pairOk_rng (h2.2.2 p hp)); omega
  have hp : 1 ≤ path w l ∧ path w l ≤ 1 + 64 * l.length := by simpa [path, h2] using hp
  refine ce W 0 rfl rfl (implBoxUnits_ok w l (by omega)) rfl ?_
  refine ce W 0 rfl rfl (implBoxPath_ok w l (by omega)) rfl ?_
  refine sp W 0 rfl rfl rfl (fun h3 => ?_) (fun h3 => ?_)
  · omega
  refine sp W 0 rfl rfl rfl (fun h4 => ?_) (fun h4 => ?_)
  · omega
  refine sp W 0 rfl rfl rfl (fun h5 => ?_) (fun h5 => ?_)
  · omega
  refine sp W 0 rfl rfl rfl (fun h6 => ?_) (fun h6 => ?_)
  · omega
  refine cq W 0 rfl rfl (implBoxSplit_ok w at' l (by omega) (by unfold InB at hat; unfold InI; omega)) ?_
  rintro _ ⟨x, y, c1, rfl, e1, e2, lx, ly⟩
  refine ⟨_, rfl, ?_⟩
  refine cq W 0 rfl rfl (specBoxSplit_ok w at' l (by omega) (by unfold InB at hat; unfold InI; omega)) ?_
  rintro _ ⟨x', y', c2, rfl, e3⟩
  refine ⟨_, rfl, ?_⟩
  refine sp W 0 rfl rfl rfl (fun h7 => ?_) (fun h7 => ?_)
  · exact absurd (e1.trans e3.symm) h7
  refine sp W 0 rfl rfl rfl (fun h8 => ?_) (fun h8 => ?_)
  case refine_1 =>
    obtain ⟨q1, q2, q3, q4⟩ := e1.1 h8
    obtain ⟨rfl, rfl⟩ := e2 h8
    obtain ⟨s1, s2, s3⟩ := split_less q1 (show at'.toNat < l.length by omega) q4
    refine ce W 0 rfl rfl (implBoxUnits_ok _ _ (by omega)) rfl ?_
    refine ce W 0 rfl rfl (implBoxUnits_ok _ _ (by omega)) rfl ?_
    have u1 := units_rng w (l.set at'.toNat (split1 w (l.getD at'.toNat (0, 0))))
    have u2 := units_rng w (l.set at'.toNat (split2 w (l.getD at'.toNat (0, 0))))
    have u3 := path_nonneg w (l.set at'.toNat (split1 w (l.getD at'.toNat (0, 0))))
    by_cases hM : units w l < 1000000000
    · refine sp W 0 rfl rfl rfl (fun m1 => ?_) (fun m1 => ?_)
      case refine_2 => exact absurd hM m1
      refine sp W 0 rfl rfl rfl (fun m2 => ?_) (fun m2 => ?_)
      · omega
      refine ce W 0 rfl rfl (implBoxPath_ok _ _ (by omega)) rfl ?_
      refine sp W 0 rfl rfl rfl (fun m3 => ?_) (fun m3 => ?_)
      · omega
      refine ce W 0 rfl rfl (implBoxPath_ok _ _ (by omega)) rfl ?_
      refine sp W 0 rfl rfl rfl (fun m4 => ?_) (fun m4 => ?_)
      · omega
      refine cq W 0 rfl rfl (drawBoxCut_ok c hc) ?_
      rintro _ ⟨w2, l2, at2, g2, rfl, hw2, hl2, hat2⟩
      refine ⟨_, rfl, ?_⟩
      refine cq W 0 rfl rfl (implBoxCut_ok w2 at2 l2 g2 (by omega) (by unfold InB at hat2; unfold InI; omega)) ?_
      rintro _ ⟨x2, y2, c3, rfl, f1, f2, lx2, ly2⟩
      refine ⟨_, rfl, ?_⟩
      refine cq W 0 rfl rfl (specBoxCut_ok w2 at2 l2 g2 (by omega) (by unfold InB at hat2; unfold InI; omega)) ?_
      rintro _ ⟨x3, y3, c4, rfl, f3⟩
      refine ⟨_, rfl, ?_⟩
      refine sp W 0 rfl rfl rfl (fun k7 => ?_) (fun k7 => ?_)
      · exact absurd (f1.trans f3.symm) k7
      refine sp W 0 rfl rfl rfl (fun k8 => ?_) (fun k8 => ?_)
      case refine_2 => refine rp W 0 rfl rfl rfl (.yes trivial)
      obtain ⟨q1, q2, q3, q4⟩ := f1.1 k8
      obtain ⟨rfl, rfl⟩ := f2 k8
      obtain ⟨s1, s2, s3⟩ := cut_less q1 (show at2.toNat < l2.length by omega) q4
      have u1 := units_rng w2 (l2.set at2.toNat (cut1 w2 (l2.getD at2.toNat (0, 0)) g2))
      have u2 := units_rng w2 (l2.set at2.toNat (cut2 w2 (l2.getD at2.toNat (0, 0)) g2))
      have u3 := path_nonneg w2 (l2.set at2.toNat (cut1 w2 (l2.getD at2.toNat (0, 0)) g2))
      refine ce W 0 rfl rfl (implBoxUnits_ok _ _ (by omega)) rfl ?_
      refine ce W 0 rfl rfl (implBoxUnits_ok _ _ (by omega)) rfl ?_
      refine ce W 0 rfl rfl (implBoxUnits_ok _ _ (by omega)) rfl ?_
      have u4 := path_nonneg w2 (l2.set at2.toNat (cut2 w2 (l2.getD at2.toNat (0, 0)) g2))
      have u5 := path_most w2 l2
      clear f2 f1 f3
      generalize l2.set at2.toNat (cut1 w2 (l2.getD at2.toNat (0, 0)) g2) = xs at *
      generalize l2.set at2.toNat (cut2 w2 (l2.getD at2.toNat (0, 0)) g2) = ys at *
      by_cases hU : units w2 l2 < 1000000000
      · refine dre W 0 26 [(171, true), (178, false), (188, false)] [.int .i64 (path w2 xs), .int .i64 (path w2 l2), .int .i64 (path w2 ys)] rfl rfl rfl ⟨(implBoxPath_ok _ _ (by omega)).at rfl _, (implBoxPath_ok _ _ (by omega)).at rfl _, (implBoxPath_ok _ _ (by omega)).at rfl _, trivial⟩ rfl ?_
        refine ce W 0 rfl rfl (implBoxPath_ok _ _ (by omega)) rfl ?_
        refine sp W 0 rfl rfl rfl (fun k9 => ?_) (fun k9 => ?_)
        · omega
        · refine rp W 0 rfl rfl rfl (.yes trivial)
      · refine dre W 0 26 [(171, false), (188, false)] [.int .i64 (path w2 xs), .int .i64 (path w2 l2), .int .i64 (path w2 ys)] rfl rfl rfl ⟨(implBoxPath_ok _ _ (by omega)).at rfl _, (implBoxPath_ok _ _ (by omega)).at rfl _, (implBoxPath_ok _ _ (by omega)).at rfl _, trivial⟩ rfl ?_
        refine ce W 0 rfl rfl (implBoxPath_ok _ _ (by omega)) rfl ?_
        refine sp W 0 rfl rfl rfl (fun k9 => ?_) (fun k9 => ?_)
        · omega
        · refine rp W 0 rfl rfl rfl (.yes trivial)
    · refine sp W 0 rfl rfl rfl (fun m1 => ?_) (fun m1 => ?_)
      · exact absurd m1 hM
      refine ce W 0 rfl rfl (implBoxPath_ok _ _ (by omega)) rfl ?_
      refine sp W 0 rfl rfl rfl (fun m3 => ?_) (fun m3 => ?_)
      · omega
      refine ce W 0 rfl rfl (implBoxPath_ok _ _ (by omega)) rfl ?_
      refine sp W 0 rfl rfl rfl (fun m4 => ?_) (fun m4 => ?_)
      · omega
      refine cq W 0 rfl rfl (drawBoxCut_ok c hc) ?_
      rintro _ ⟨w2, l2, at2, g2, rfl, hw2, hl2, hat2⟩
      refine ⟨_, rfl, ?_⟩
      refine cq W 0 rfl rfl (implBoxCut_ok w2 at2 l2 g2 (by omega) (by unfold InB at hat2; unfold InI; omega)) ?_
      rintro _ ⟨x2, y2, c3, rfl, f1, f2, lx2, ly2⟩
      refine ⟨_, rfl, ?_⟩
      refine cq W 0 rfl rfl (specBoxCut_ok w2 at2 l2 g2 (by omega) (by unfold InB at hat2; unfold InI; omega)) ?_
      rintro _ ⟨x3, y3, c4, rfl, f3⟩
      refine ⟨_, rfl, ?_⟩
      refine sp W 0 rfl rfl rfl (fun k7 => ?_) (fun k7 => ?_)
      · exact absurd (f1.trans f3.symm) k7
      refine sp W 0 rfl rfl rfl (fun k8 => ?_) (fun k8 => ?_)
      case refine_2 => refine rp W 0 rfl rfl rfl (.yes trivial)
      obtain ⟨q1, q2, q3, q4⟩ := f1.1 k8
      obtain ⟨rfl, rfl⟩ := f2 k8
      obtain ⟨s1, s2, s3⟩ := cut_less q1 (show at2.toNat < l2.length by omega) q4
      have u1 := units_rng w2 (l2.set at2.toNat (cut1 w2 (l2.getD at2.toNat (0, 0)) g2))
      have u2 := units_rng w2 (l2.set at2.toNat (cut2 w2 (l2.getD at2.toNat (0, 0)) g2))
      have u3 := path_nonneg w2 (l2.set at2.toNat (cut1 w2 (l2.getD at2.toNat (0, 0)) g2))
      refine ce W 0 rfl rfl (implBoxUnits_ok _ _ (by omega)) rfl ?_
      refine ce W 0 rfl rfl (implBoxUnits_ok _ _ (by omega)) rfl ?_
      refine ce W 0 rfl rfl (implBoxUnits_ok _ _ (by omega)) rfl ?_
      have u4 := path_nonneg w2 (l2.set at2.toNat (cut2 w2 (l2.getD at2.toNat (0, 0)) g2))
      have u5 := path_most w2 l2
      clear f2 f1 f3
      generalize l2.set at2.toNat (cut1 w2 (l2.getD at2.toNat (0, 0)) g2) = xs at *
      generalize l2.set at2.toNat (cut2 w2 (l2.getD at2.toNat (0, 0)) g2) = ys at *
      by_cases hU : units w2 l2 < 1000000000
      · refine dre W 0 26 [(171, true), (178, false), (188, false)] [.int .i64 (path w2 xs), .int .i64 (path w2 l2), .int .i64 (path w2 ys)] rfl rfl rfl ⟨(implBoxPath_ok _ _ (by omega)).at rfl _, (implBoxPath_ok _ _ (by omega)).at rfl _, (implBoxPath_ok _ _ (by omega)).at rfl _, trivial⟩ rfl ?_
        refine ce W 0 rfl rfl (implBoxPath_ok _ _ (by omega)) rfl ?_
        refine sp W 0 rfl rfl rfl (fun k9 => ?_) (fun k9 => ?_)
        · omega
        · refine rp W 0 rfl rfl rfl (.yes trivial)
      · refine dre W 0 26 [(171, false), (188, false)] [.int .i64 (path w2 xs), .int .i64 (path w2 l2), .int .i64 (path w2 ys)] rfl rfl rfl ⟨(implBoxPath_ok _ _ (by omega)).at rfl _, (implBoxPath_ok _ _ (by omega)).at rfl _, (implBoxPath_ok _ _ (by omega)).at rfl _, trivial⟩ rfl ?_
        refine ce W 0 rfl rfl (implBoxPath_ok _ _ (by omega)) rfl ?_
        refine sp W 0 rfl rfl rfl (fun k9 => ?_) (fun k9 => ?_)
        · omega
        · refine rp W 0 rfl rfl rfl (.yes trivial)
  case refine_2 =>
    refine cq W 0 rfl rfl (drawBoxCut_ok c hc) ?_
    rintro _ ⟨w2, l2, at2, g2, rfl, hw2, hl2, hat2⟩
    refine ⟨_, rfl, ?_⟩
    refine cq W 0 rfl rfl (implBoxCut_ok w2 at2 l2 g2 (by omega) (by unfold InB at hat2; unfold InI; omega)) ?_
    rintro _ ⟨x2, y2, c3, rfl, f1, f2, lx2, ly2⟩
    refine ⟨_, rfl, ?_⟩
    refine cq W 0 rfl rfl (specBoxCut_ok w2 at2 l2 g2 (by omega) (by unfold InB at hat2; unfold InI; omega)) ?_
    rintro _ ⟨x3, y3, c4, rfl, f3⟩
    refine ⟨_, rfl, ?_⟩
    refine sp W 0 rfl rfl rfl (fun k7 => ?_) (fun k7 => ?_)
    · exact absurd (f1.trans f3.symm) k7
    refine sp W 0 rfl rfl rfl (fun k8 => ?_) (fun k8 => ?_)
    case refine_2 => refine rp W 0 rfl rfl rfl (.yes trivial)
    obtain ⟨q1, q2, q3, q4⟩ := f1.1 k8
    obtain ⟨rfl, rfl⟩ := f2 k8
    obtain ⟨s1, s2, s3⟩ := cut_less q1 (show at2.toNat < l2.length by omega) q4
    have u1 := units_rng w2 (l2.set at2.toNat (cut1 w2 (l2.getD at2.toNat (0, 0)) g2))
    have u2 := units_rng w2 (l2.set at2.toNat (cut2 w2 (l2.getD at2.toNat (0, 0)) g2))
    have u3 := path_nonneg w2 (l2.set at2.toNat (cut1 w2 (l2.getD at2.toNat (0, 0)) g2))
    refine ce W 0 rfl rfl (implBoxUnits_ok _ _ (by omega)) rfl ?_
    refine ce W 0 rfl rfl (implBoxUnits_ok _ _ (by omega)) rfl ?_
    refine ce W 0 rfl rfl (implBoxUnits_ok _ _ (by omega)) rfl ?_
    have u4 := path_nonneg w2 (l2.set at2.toNat (cut2 w2 (l2.getD at2.toNat (0, 0)) g2))
    have u5 := path_most w2 l2
    clear f2 f1 f3
    generalize l2.set at2.toNat (cut1 w2 (l2.getD at2.toNat (0, 0)) g2) = xs at *
    generalize l2.set at2.toNat (cut2 w2 (l2.getD at2.toNat (0, 0)) g2) = ys at *
    by_cases hU : units w2 l2 < 1000000000
    · refine dre W 0 26 [(171, true), (178, false), (188, false)] [.int .i64 (path w2 xs), .int .i64 (path w2 l2), .int .i64 (path w2 ys)] rfl rfl rfl ⟨(implBoxPath_ok _ _ (by omega)).at rfl _, (implBoxPath_ok _ _ (by omega)).at rfl _, (implBoxPath_ok _ _ (by omega)).at rfl _, trivial⟩ rfl ?_
      refine ce W 0 rfl rfl (implBoxPath_ok _ _ (by omega)) rfl ?_
      refine sp W 0 rfl rfl rfl (fun k9 => ?_) (fun k9 => ?_)
      · omega
      · refine rp W 0 rfl rfl rfl (.yes trivial)
    · refine dre W 0 26 [(171, false), (188, false)] [.int .i64 (path w2 xs), .int .i64 (path w2 l2), .int .i64 (path w2 ys)] rfl rfl rfl ⟨(implBoxPath_ok _ _ (by omega)).at rfl _, (implBoxPath_ok _ _ (by omega)).at rfl _, (implBoxPath_ok _ _ (by omega)).at rfl _, trivial⟩ rfl ?_
      refine ce W 0 rfl rfl (implBoxPath_ok _ _ (by omega)) rfl ?_
      refine sp W 0 rfl rfl rfl (fun k9 => ?_) (fun k9 => ?_)
      · omega
      · refine rp W 0 rfl rfl rfl (.yes trivial)
end Pf
